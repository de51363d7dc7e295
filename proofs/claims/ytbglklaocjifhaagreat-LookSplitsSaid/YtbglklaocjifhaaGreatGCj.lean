/- The numbers of a tally, in some order. Conditions: none. -/
import Derived.Test.YtbglklaocjifhaaGreatGOm
open Go.Vf.ab renaming refl->AA,Zx->AY
open Int renaming ofNat_eq_natCast->AB,ofNat->AF,toNat_natCast->AG,ofNat_lt->AN,ofNat_le->AX,le_refl->AZ
open Go.Proofs.YtbglklaocjifhaaGreat.Tryz renaming mixed->AC
open Go.Proofs.Tryz renaming prog->AD
open Bool renaming true->AE,and_eq_true->AJ,false->AK
open Go.Vf.AV renaming z9->AH,ul->AT,ip->Aa
open Nat renaming eq_of_beq_eq_true->AI,le_refl->AL,not_lt_zero->AO,zero_le->AR,lt_succ_iff_lt_or_eq->AW,lt_succ_self->Ab,lt_or_ge->Ad,add_comm->Ae,beq->Ag
open List renaming getElem?_eq_getElem->AM,mem_of_getElem?->AQ,getElem?_eq_some_iff->AU
open Option renaming some->AP,map->Ac,none->Af
open Array renaming eq_empty_of_size_eq_zero->AS
set_option linter.unusedSimpArgs false
set_option linter.unusedVariables false
set_option maxHeartbeats 0
set_option maxRecDepth 1000000
namespace Go.Proofs.Tryz.Run
open Go Go.Vf Go.Proofs
open Go.Proofs.YtbglklaocjifhaaGreat
theorem _root_.Go.Vf.py.t:∀(n:Nat)(h:List _),py h (h.take n)
 |0,h=>.nil h
 |_+1,[]=>.nil _
 |n+1,a::h=>.cons (.refl a) (.t n h)
def me (v:g8):List KC:=[.i v.fault,.i v.n]
theorem l6s (v u:g8)(h:me v=me u):v=u:=by simp only[me,List.cons.injEq,KC.i.injEq,and_true] at h;cases v;cases u;simp_all
def m2x:gy×gy:=match m3i with
 | .seq _ (.seq _ (.seq (.seq _ (.block _ (.range _ _ a b))) _))=>(a,b)
 |_=>(.ret,.ret)
def zb (s:Wz):ae:= .loop s (dn [(3,.ptr 2 0)] 26) [9,10] (fun ca cb=>comp AD N0.A ca=AP m2x.1/\comp AD N0.A cb=AP m2x.2)
def qb (cs:List AV)(t:List (g8×Nat))(lp:ae):List ae:=[.var cs,.dz AE [.u8,.i64] (mK me t) (mV t),.var [.map 1],lp]
def Qa (cs:List AV)(KS:List (List KC))(VS:List AV)(lp:ae):List ae:=[.var cs,.dz AE [.u8,.i64] KS VS,.var [.map 1],lp]
theorem l9w {m:Nat}(hm:1<=m/\m<=3){a0 a1 a2 a3 a4:DV}(t:List (g8×Nat))(f:Nat->g8)(vy:gb (f 0)/\0<=(f 0).fault)(n:Nat)(z:Bool)(hz:z=AE↔ ∀i,i<m-1->f (i+1)=⟨0,1⟩)(hb:z=AE->(Ok t fun _=>1)+n<=2000):
 lh AD 3 [d7 m f,int n] (qb [.d a0,.d a1,.d a2,.d a3,.d a4] t (zb .ready)) (fun pg v h'=>pg=[]/\v= .d (.bool AE)/\h'=qb [.d a0,.d a1,.d a2,.d a3,.d a4] (if z=AE then kh (f 0) n t else t) (zb .ready)):=by
 have OX:=m0x (n:=m-1) (by omega) (fun i=>f (i+1)) z hz;obtain⟨ef,en,wy⟩: ∃ef en,f=fun i=>g8.mk (ef i) (en i):=⟨fun i=>(f i).fault,fun i=>(f i).n,rfl⟩;have tn:=vy.1.bd vy.2;have ep:me (f 0)=[.i (ef 0),.i (en 0)]:=by rw[wy];rfl
 have Jp:(f 0).fault=ef 0/\(f 0).n=en 0:=by rw[wy];exact⟨rfl,rfl⟩
 rw[Jp.1,Jp.2] at tn;unfold rq at tn;cases z with
 |false=>obtain⟨KS,jg⟩:=xA (mK me t);obtain⟨VS,o6⟩:=xA (mV t);simp only[Bool.false_eq_true,if_false,qb,jg,o6];subst wy;clear hz hb vy ep Jp jg o6;refine lh.cut (Mr AC ci (A:=N0.A) rfl (fun _ _ h=>h) rfl fun ro E Sg hS=> ?_);have e:=fh hS;cbv;refine⟨fun h=>(nomatch h),_,_,_,rfl,?_⟩;cbv;refine ad hS (HH hS (by decide)) (ad hS (HH hS (by simp only[e.ofNat,AB];omega)) (ad hS (HH hS (AZ _)) ?_));refine bf hS _ (au.LE (.cons (ab.Yf (by simp only[e.T9,e.toNat,e.ofNat,AG]) fun i _=>by simp only[e.shift,Ae]) .nil) OX) ?_;cbv;refine bf hS _ TE ?_;cbv;simp only[e.V4,e.md];cbv;refine⟨fun h=>(nomatch h),_,_,_,rfl,[],fun m _ h=>h,?_⟩;exact⟨_,_,.cons (.refl _) (.same _),AA _,AL _,.inr rfl,rfl,rfl,rfl⟩
 |true=>
  obtain⟨KS,jg⟩:=xA (mK me t);obtain⟨VS,o6⟩:=xA (mV t);obtain⟨KS2,I6⟩:=xA (mK me (kh (f 0) n t));obtain⟨VS2,Jb⟩:=xA (mV (kh (f 0) n t));have hb:=hb rfl;have cm:=fun h=>m0r l6s (k:=f 0) (l:=t) h n;have hold:=fun k h=>m0p l6s (k:=f 0) (l:=t) (m:=k) h n;rw[ep,jg,o6,I6,Jb] at cm;rw[ep,jg,o6,I6,Jb] at hold;simp only[if_true,qb,jg,o6,I6,Jb];have ud:VF (f 0) t=Af\/ ∃k,VF (f 0) t=AP k/\k<=2000:=by
   cases h:VF (f 0) t with
   |none=>exact .inl rfl
   |some k=>exact .inr ⟨k,rfl,by have:=l7i h;omega⟩
  have oa:n<=2000:=by omega
  subst wy;clear hz hb vy ep Jp jg o6 I6 Jb;refine lh.cut (Mr AC ci (A:=N0.A) rfl (fun _ _ h=>h) rfl fun ro E Sg hS=> ?_);have e:=fh hS;cbv;refine⟨fun h=>(nomatch h),_,_,_,rfl,?_⟩;cbv;refine ad hS (HH hS (by decide)) (ad hS (HH hS (by simp only[e.ofNat,AB];omega)) (ad hS (HH hS (AZ _)) ?_));refine bf hS _ (au.LE (.cons (ab.Yf (by simp only[e.T9,e.toNat,e.ofNat,AG]) fun i _=>by simp only[e.shift,Ae]) .nil) OX) ?_;cbv;refine bf hS _ TE ?_;cbv;simp only[e.V4,e.md];cbv;have en0:nat Sg (IX.l (AF 0))=0:=rfl;simp only[en0,ja,jb,gw,gx,iq,fo];refine ad hS (gf hS (by omega)) (ad hS (Im hS tn.1) (ad hS (ru hS tn.2) ?_));rcases ud with h|⟨k,h,hk⟩
  ·obtain⟨g1,g2,g3,g4,g5,g6⟩:=cm h;simp only[g2];cbv;refine ad hS (Jq hS (by simp only[AB];omega)) (ad hS (Im hS tn.1) (ad hS (ru hS tn.2) ?_));simp only[jb,g1];cbv;simp only[gw,gx,iq,fo,g3];refine ad hS (Im hS tn.1) (ad hS (ru hS tn.2) ?_);simp only[ja,g5];cbv;refine ad hS (mc hS) ?_;simp only[gw,gx,iq,fo,g3];have q1:Sg.t8 (AF 0) (AF n)=(n:Int):=by rw[e.t8];simp only[AB];omega
   have q2:Sg.toNat (Sg.ofNat (az KS))=az KS:=by rw[e.toNat,e.ofNat,AG]
   refine ad hS (qw hS (by simp only[e.ofNat,jr,g6,az];omega)) ?_;simp only[q1,q2,g4];refine⟨fun h=>(nomatch h),_,_,_,rfl,[],fun m _ h=>h,?_⟩;exact⟨_,_,.cons (.refl _) (.same _),AA _,AL _,.inr rfl,rfl,rfl,rfl⟩
  ·obtain⟨i,g1,g2,g3,g4,g5,g6⟩:=hold k h;simp only[g2];cbv;refine ad hS (Jq hS (by simp only[AB];omega)) (ad hS (Im hS tn.1) (ad hS (ru hS tn.2) ?_));simp only[jb,g1];cbv;simp only[gw,gx,iq,fo,g3];cbv;simp only[ja,jb,gw,gx,iq,fo,g2,g3];refine ad hS (Im hS tn.1) (ad hS (ru hS tn.2) ?_);cbv;refine ad hS (mc hS) ?_;have q1:Sg.t8 (AF k) (AF n)=((k+n:Nat):Int):=by rw[e.t8];simp only[AB];omega
   have q2:Sg.toNat (Sg.ofNat i)=i:=by rw[e.toNat,e.ofNat,AG]
   refine ad hS (qw hS (by simp only[e.ofNat,fo];omega)) ?_;simp only[gx,q1,q2,g6];subst g5;refine⟨fun h=>(nomatch h),_,_,_,rfl,[],fun m _ h=>h,?_⟩;exact⟨_,_,.cons (.refl _) (.same _),AA _,AL _,.inr rfl,rfl,rfl,rfl⟩
theorem l8p {m:Nat}(hm:1<=m/\m<=3){a0 a1 a2 a3 a4:DV}(t:List (g8×Nat))(f:Nat->g8)(vy:gb (f 0)/\0<=(f 0).fault)(n:Nat)(z:Bool)(hz:z=AE↔ ∀i,i<m-1->f (i+1)=⟨0,1⟩)(hb:z=AE->(Ok t fun _=>1)+n<=2000)(R:List ae):
 lh AD 3 [d7 m f,int n] (ba (qb [.d a0,.d a1,.d a2,.d a3,.d a4] t (zb .ready)) R) (fun pg v h'=>pg=[]/\v= .d (.bool AE)/\h'=ba (qb [.d a0,.d a1,.d a2,.d a3,.d a4] (if z=AE then kh (f 0) n t else t) (zb .ready)) R):=by
 have h:=(l9w hm (a0:=a0) (a1:=a1) (a2:=a2) (a3:=a3) (a4:=a4) t f vy n z hz hb).frame (H:=ba (qb [.d a0,.d a1,.d a2,.d a3,.d a4] t (zb .ready)) R) (l':=3) (args':=[d7 m f,int n]) [0,1,2,3] (by decide) rfl rfl (by
  refine⟨.refl _,?_,.refl _,.refl _,trivial⟩;show bx (.dz AE [.u8,.i64] (mK me t) (mV t)) (.dz AE [.u8,.i64] (mK me t) (AT _ (mV t)));rw[Kt];exact .refl _)
 refine lh.mono ?_ h;rintro pg v h' ⟨pg0,v0,h0,⟨rfl,rfl,rfl⟩,rfl,rfl,rfl⟩;refine⟨rfl,rfl,?_⟩;generalize (if z=AE then kh (f 0) n t else t)=t';show ba [_,ae.dz AE [.u8,.i64] (mK me t') (AT _ (mV t')),_,_] (ba R [])=_;rw[Kt,fi R [],List.append_nil];rfl
theorem l8t {P:Program}{A:Go.Vf.t7}{ro:Option Nat}{E:x4}{Sg:We}(hS:Sg=ms P A ro E){seen:List Nat}{n:Nat}{p:Prop}{q:Nat->Prop}(h1:(∀i,i<n->i∈seen)->p)(h2: ∀i,i<n->i∉seen->q i):Sg.Yt seen n p q:=by subst hS;exact⟨h1,h2⟩
def m0o (i:Nat):Nat:=if i=5 then 6 else i
theorem l6w (a b:T3)(h:ui a=ui b):a=b:=l9s h
theorem l7c (ds:Nat->g7)(s:T3): ∀i,(ds i).en (-1-s.get i).toNat=zx ds i s
 |0=>rfl
 |1=>rfl
 |_+2=>rfl
theorem l9v {m:Nat}(hm:m<=3){ds:Nat->g7}{s:T3}:GP m ds s=AE↔ ∀i,i<m-1->zx ds (i+1) s=⟨0,1⟩:=by
 unfold GP;simp only[AJ,Bool.or_eq_true,Nat.ble_eq,decide_eq_true_eq];constructor
 ·rintro⟨h1,h2⟩ i hi;obtain rfl|rfl:i=0\/i=1:=by omega
  ·exact h1.resolve_left (by omega)
  ·exact h2.resolve_left (by omega)
 ·intro h;refine⟨?_,?_⟩
  ·rcases Ad 1 m with h1|h1
   ·exact .inr (h 0 (by omega))
   ·exact .inl h1
  ·rcases Ad 2 m with h1|h1
   ·exact .inr (h 1 (by omega))
   ·exact .inl h1
def ya (ns:Nat)(sz:Nat->Int)(no:Nat)(od:Nat->Int)(m:Nat)(ds:Nat->g7)(gv:Nat->Int)(op:Value):List AV:=[ac ns sz,ac no od,Wg m ds,ac ns gv,.d (.raw op)]
theorem m0n {m ns no T:Nat}{ds:Nat->g7}{sz od gv:Nat->Int}{op:Value}(h:nh m ds ns no sz od)(hT:(T:Int)=dv sz ns)(hgv: ∀i,i<ns->gv i= -1):
 ay AD 140 [Js ns sz no od m ds ns gv op,.yl 3] (qb (ya ns sz no od m ds gv op) [] (zb .ready))
  (fun pg v h'=>pg=[]/\v= .tuple []/\ ∃t,Gt T (w9 m ds) (ds 0).cell t/\h'=qb (ya ns sz no od m ds gv op) t (zb .ready)):=by
 have OZ:=l9x (ns:=ns) (sz:=sz) (no:=no) (od:=od) (m:=m) (ds:=ds) (ng:=ns) (gv:=gv) (op:=op) h.hm;obtain⟨s0,LM⟩:=xA (GS m ds);have Hl:=h.Zp;rw[LM] at OZ Hl;obtain⟨MK,Lo⟩:=xB fun l:List (T3×Nat)=>mK ui l;obtain⟨MV,J2⟩:=xB fun l:List (T3×Nat)=>mV l;have qh: ∀n l,AH n (MV l)=AE:=fun n l=>by rw[<-J2];exact QO n l
 have Pq: ∀π l,AT π (MV l)=MV l:=fun π l=>by rw[<-J2];exact Kt π l
 have GH: ∀l,az (MK l)=l.length:=fun l=>by rw[<-Lo];exact l8j l
 have Kd: ∀(k:T3) (l2:List (T3×Nat)) (n':Nat),VF k l2=Af->pw (ui k) (MK l2) 0=Af/\mf (ui k) (MK l2) (MV l2)=Af/\ba (MK l2) [ui k]=MK (kh k n' l2)/\(∀z:AV,b8 (ba (MV l2) [z]) (az (MK l2)) (.d (.int .i64 (.v (n':Int))))=MV (kh k n' l2))/\(∀z:AV,mf (ui k) (MK (kh k n' l2)) (ba (MV l2) [z])=AP z)/\az (MK l2)=az (MV l2):=fun k l2 n' h=>by have:=m0r l6w h n';simp only[Lo,J2] at this;exact this
 have Ke: ∀(k:T3) (l2:List (T3×Nat)) (n' m':Nat),VF k l2=AP m'-> ∃i,pw (ui k) (MK l2) 0=AP i/\mf (ui k) (MK l2) (MV l2)=AP (.d (.int .i64 (.v (m':Int))))/\ax (MV l2) i=AP (.d (.int .i64 (.v (m':Int))))/\i<az (MV l2)/\MK l2=MK (kh k n' l2)/\b8 (MV l2) i (.d (.int .i64 (.v ((m'+n':Nat):Int))))=MV (kh k n' l2):=fun k l2 n' m' h=>by have:=m0p l6w h n';simp only[Lo,J2] at this;exact this
 obtain⟨z1,z2,z3,z4⟩:=h.YM;have hT2:T<=2000:=AX.1 (show (T:Int)<=((2000:Nat):Int) by rw[hT];exact z2);have jn:no<=6:=by have:=z4.1;omega
 obtain⟨s1,s2,s3⟩:=s0;refine mh AC ci m1n rfl fun E Sg hb hS F hF=> ?_;have e:=fh hS;simp only[qb,List.length_cons,List.length_nil] at hb;cbv;refine bf hS _ OZ ?_;cbv;have o7:=h.bd (Hl.ok (⟨s1,s2,s3⟩,1) (by simp)).2;refine ad hS (ru hS (by simp only at o7;omega)) (ad hS (ru hS (by simp only at o7;omega)) (ad hS (ru hS (by simp only at o7;omega)) ?_));refine HO AC ci hS (σ:=Nat×List (T3×Nat)) (fun s=>s.1<=no/\Yj m ds no sz od s.1 s.2) (fun s=>no-s.1)
  (fun s=>⟨dn [(1,.yl 3),(2,.ptr 4 0),(4,.map 5),(21,ac no od),(22,int no),(23,int s.1)] 107,qb (ya ns sz no od m ds gv op) [] (zb .ready)++[.var (ya ns sz no od m ds gv op),.dz AE [.i64,.i64,.i64] (MK s.2) (MV s.2)],[]⟩) (0,[(⟨s1,s2,s3⟩,1)]) ⟨AR _,Hl⟩ ?_ ?_
 ·have g1:MK [(⟨s1,s2,s3⟩,1)]=[[.i s1,.i s2,.i s3]]:=by rw[<-Lo];rfl
  have g2:MV [(⟨s1,s2,s3⟩,1)]=[.d (.int .i64 (.v ((1:Nat):Int)))]:=by rw[<-J2];rfl
  simp only[g1,g2];exact fp.le (bq rfl ⟨AA _,AA _,AA _,AA _,br (e.ofNat _),bg rfl,trivial⟩ (.cons (.refl _) (.cons (.refl _) (.cons (.refl _) (.cons (.refl _) (.cons (.refl _) (.cons (.dz (.cons (bg rfl) .nil)) (.nil _))))))) (by simp[qb];omega) (.inr rfl) rfl)
 ·rintro⟨r,l⟩ ⟨hr,hl⟩ N hN;simp only at hr hl hN;cbv;split
  ·rename_i h1;have hlt:r<no:=AN.1 (ry hS h1);cbv;refine ad hS (qw hS ⟨Int.natCast_nonneg r,AN.2 hlt⟩) ?_;obtain⟨nl,jy⟩:=xA l.length;have Hp: ∀(l2:List (T3×Nat)) (wg:List Nat),u1 8 (qb (ya ns sz no od m ds gv op) [] (zb .ready)++[.var (ya ns sz no od m ds gv op),.dz AE [.i64,.i64,.i64] (MK l) (MV l),.dz AE [.i64,.i64,.i64] (MK l2) (MV l2),.iter (.map 5) nl wg])=AE:=fun l2 wg=>by show (AH 8 (MV l)&&(AH 8 (MV l2)&&AE))=AE;rw[qh,qh];rfl
   refine gg AC ci hS (σ:=List Nat×List (T3×Nat)) (fun s=>Xk m ds sz od r l s.1 s.2) (fun s=>WS s.1 l.length fun _=>1)
    (fun s=>⟨dn [(1,.yl 3),(2,.ptr 4 0),(4,.map 5),(6,int (od r)),(7,.map 6),(21,ac no od),(22,int no),(23,int r),(29,.ptr 7 0)] 107,qb (ya ns sz no od m ds gv op) [] (zb .ready)++[.var (ya ns sz no od m ds gv op),.dz AE [.i64,.i64,.i64] (MK l) (MV l),.dz AE [.i64,.i64,.i64] (MK s.2) (MV s.2),.iter (.map 5) nl s.1],[]⟩) ([],[]) m3w ?_ ?_
   ·have g1:MK []=[]:=by rw[<-Lo];rfl
    have g2:MV []=[]:=by rw[<-J2];rfl
    simp only[g1,g2];simp only[nat,e.toNat,AB,AG,fo,GH,jy];exact bq rfl ⟨AA _,AA _,AA _,AA _,AA _,AA _,AA _,AA _,AA _,trivial⟩ (.same _) (by simp[qb];omega) (.inr rfl) rfl
   ·rintro⟨seen,l2⟩ fj M hM;simp only at fj hM;cbv;simp only[fo,GH,jy];refine ad hS trivial (l8t hS (fun cd=> ?_) fun i hi nu=> ?_)
    ·refine ad hS (ji hS (by omega)) ?_;refine hN (r+1,l2) _ ⟨hlt,fj.done hl hlt (by rw[jy];exact cd)⟩ (by simp only;omega) ((fp.le (bq (l:=[(1,.yl 3),(2,.ptr 4 0),(4,.map 6),(21,ac no od),(22,int no),(23,int (r+1:Nat))]) (n:=107) rfl ⟨AA _,AA _,AA _,AA _,AA _,je hS,trivial⟩ (.same _) (by simp;omega) (.inr rfl) (Gn _))).trans
      (fp.pack m0o (fun i hi=>by rw[hb] at hi;unfold m0o;rw[if_neg (by omega)]) (by rw[hb];simp[qb]) (fun i j hi hj h=>by have hi:i<6:=hi;have hj:j<6:=hj;unfold m0o at h;split at h<;>split at h<;>omega) (fl.same _) (fun j o ho=> ?_) rfl ?_))
     ·match j,ho with
      |0,ho=>cases ho;exact⟨_,rfl,.refl _⟩
      |1,ho=>cases ho;exact⟨_,rfl,.refl _⟩
      |2,ho=>cases ho;exact⟨_,rfl,.refl _⟩
      |3,ho=>cases ho;exact⟨_,rfl,.refl _⟩
      |4,ho=>cases ho;exact⟨_,rfl,.refl _⟩
      |5,ho=>cases ho;refine⟨_,rfl,?_⟩;show bx (.dz AE [.i64,.i64,.i64] (MK l2) (MV l2)) (.dz AE [.i64,.i64,.i64] (MK l2) (AT _ (MV l2)));rw[Pq];exact .refl _
      |j+6,ho=>exact absurd (AU.1 ho).1 (show¬j+6<6 by omega)
     ·show (AH 6 (MV l2)&&AE)=AE;rw[qh];rfl
    ·obtain⟨⟨s,n⟩,jx⟩: ∃x,l[i]? =AP x:=⟨_,AM (by rw[jy];exact hi)⟩;have Nf:=hl.ok _ (AQ jx);have lz:0<n:=Nf.1;have tk:XG m ds r s:=Nf.2;have hle:=fj.le h hT hl hlt jx nu;have J1:ax (MK l) i=AP (ui s):=by rw[<-Lo];exact l9a jx
     have Pp:ax (MV l) i=AP (.d (.int .i64 (.v (n:Int)))):=by rw[<-J2];exact l9n jx
     have cw:=h.Xr hlt;have tn:=h.bd tk;obtain⟨sa,sb,sc⟩:=s;simp only[ui] at J1;cbv;simp only[fo,gw,GH,jy,J1,Pp];refine ad hS trivial ?_;cbv;have P4:nat Sg (IX.v (od r))=(od r).toNat:=e.toNat _;obtain⟨D,hD⟩:=xA (VP sz (od r));rw[hD] at cw hle;have hsD:sz (nat Sg (IX.v (od r)))=(D:Int):=by rw[P4];exact cw.2.2.1.symm
     have hgr:Sg.WA (AF 0) (gv (nat Sg (IX.v (od r))))=AK:=by rw[e.WA,P4,hgv _ cw.2.2.2.2];rfl
     simp only[hgr,hsD];refine ad hS (qw hS ⟨cw.2.2.2.1,by have:=cw.2.2.2;omega⟩) (ad hS (qw hS ⟨cw.2.2.2.1,by have:=cw.2.2.2;omega⟩) ?_);cbv;obtain⟨z,hz⟩: ∃z:Bool,z=AE↔KT m ds (od r) ⟨sa,sb,sc⟩:=by classical exact⟨decide _,decide_eq_true_iff⟩
     have jd: ∀j,j<m->atR (ds j) r ((T3.mk sa sb sc).get j):=fun j hj=>by
      obtain rfl|rfl|rfl:j=0\/j=1\/j=2:=by have:=h.hm;omega
      ·exact tk.a hj
      ·exact tk.b hj
      ·exact tk.c hj
     have h180:=m0i (ns:=ns) (sz:=sz) (no:=no) (od:=od) (ds:=ds) (ng:=ns) (gv:=gv) (op:=op) h.hm.2 ⟨sa,sb,sc⟩ (od r) (fun j hj h0=>((jd j hj).hi h0).1) z hz;refine bf hS _ h180 ?_;cases z with
     |false=>
      have hna: ¬KT m ds (od r) ⟨sa,sb,sc⟩:=fun h'=>Bool.noConfusion (hz.2 h');have gp:=fj.idle h hlt jx lz tk nu hna;rw[hD] at gp;have LD:WS (i::seen) l.length (fun _=>1)<WS seen l.length fun _=>1:=by have:=(Jt (f:=fun _=>1) nu).1 (show i<l.length by rw[jy];exact hi);omega
      have hmul:Sg.Xg (AF n) (AF D)=((n*D:Nat):Int):=by rw[e.Xg];push_cast;rfl
      obtain⟨nD,hnD⟩:=xA (n*D);rw[hnD] at gp hle hmul;cbv;simp only[hmul,ja];have r1:=ru hS (show-9223372036854775808<=sa/\sa<=9223372036854775807 by simp only at tn;omega);have r2:=ru hS (show-9223372036854775808<=sb/\sb<=9223372036854775807 by simp only at tn;omega);have r3:=ru hS (show-9223372036854775808<=sc/\sc<=9223372036854775807 by simp only at tn;omega);refine ad hS (ru hS (show-9223372036854775808<=((nD:Nat):Int)/\((nD:Nat):Int)<=9223372036854775807 by omega)) (ad hS r1 (ad hS r2 (ad hS r3 ?_)));cases ny:VF (T3.mk sa sb sc) l2 with
      |none=>
       obtain⟨g1,g2,g3,g4,g5,g6⟩:=Kd _ l2 nD ny;simp only[ui] at g1 g2 g3 g5;simp only[g2];cbv;refine ad hS (Jq hS (by simp only[AB];omega)) (ad hS r1 (ad hS r2 (ad hS r3 ?_)));simp only[jb,g1];cbv;simp only[gw,gx,iq,fo,g3];refine ad hS r1 (ad hS r2 (ad hS r3 ?_));simp only[ja,g5];cbv;refine ad hS (mc hS) ?_;simp only[gw,gx,iq,fo,g3];have q1:Sg.t8 (AF 0) (AF nD)=(nD:Int):=by rw[e.t8];simp only[AB];omega
       have q2:Sg.toNat (Sg.ofNat (az (MK l2)))=az (MK l2):=by rw[e.toNat,e.ofNat,AG]
       refine ad hS (qw hS (by simp only[e.ofNat,jr,g6,az];omega)) ?_;simp only[q1,q2,g4];exact hM (i::seen,kh ⟨sa,sb,sc⟩ nD l2) _ gp LD (bq rfl ⟨AA _,AA _,AA _,AA _,AA _,AA _,AA _,AA _,AA _,trivial⟩ (.t 8 _) (by simp[qb];omega) (.inl ⟨rfl,Hp _ _⟩) rfl)
      |some k=>
       have cp:=l7i ny;obtain⟨j,g1,g2,g3,g4,g5,g6⟩:=Ke _ l2 nD k ny;simp only[ui] at g1 g2;simp only[g2];cbv;refine ad hS (Jq hS (by simp only[AB];omega)) (ad hS r1 (ad hS r2 (ad hS r3 ?_)));simp only[jb,g1];cbv;simp only[gw,gx,iq,fo,g3];cbv;simp only[ja,jb,gw,gx,iq,fo,g2,g3];refine ad hS r1 (ad hS r2 (ad hS r3 ?_));cbv;refine ad hS (mc hS) ?_;have q1:Sg.t8 (AF k) (AF nD)=((k+nD:Nat):Int):=by rw[e.t8];simp only[AB];omega
       have q2:Sg.toNat (Sg.ofNat j)=j:=by rw[e.toNat,e.ofNat,AG]
       refine ad hS (qw hS (by simp only[e.ofNat,fo];omega)) ?_;simp only[gx,q1,q2,g6];rw[g5];exact hM (i::seen,kh ⟨sa,sb,sc⟩ nD l2) _ gp LD (bq rfl ⟨AA _,AA _,AA _,AA _,AA _,AA _,AA _,AA _,AA _,trivial⟩ (.t 8 _) (by simp[qb];omega) (.inl ⟨rfl,Hp _ _⟩) rfl)
     |true=>
      have LD:WS (i::seen) l.length (fun _=>1)<WS seen l.length fun _=>1:=by have:=(Jt (f:=fun _=>1) nu).1 (show i<l.length by rw[jy];exact hi);omega
      have hlow9: ∀(l2:List (T3×Nat)) (wg:List Nat),u1 9 (qb (ya ns sz no od m ds gv op) [] (zb .ready)++[.var (ya ns sz no od m ds gv op),.dz AE [.i64,.i64,.i64] (MK l) (MV l),.dz AE [.i64,.i64,.i64] (MK l2) (MV l2),.iter (.map 5) nl wg,.var [int sa,int sb,int sc]])=AE:=fun l2 wg=>by show (AH 9 (MV l)&&(AH 9 (MV l2)&&AE))=AE;rw[qh,qh];rfl
      cbv;refine gg AC ci hS (σ:=Nat×List (T3×Nat)) (fun s=>s.1<=D/\Dg m ds sz od r l2 ⟨sa,sb,sc⟩ n s.1 s.2) (fun s=>D-s.1)
       (fun s=>⟨dn [(1,.yl 3),(2,.ptr 4 0),(4,.map 5),(6,int (od r)),(7,.map 6),(8,.ptr 8 0),(9,int n),(21,ac no od),(22,int no),(23,int r),(29,.ptr 7 0),(75,int D),(76,int s.1)] 107,qb (ya ns sz no od m ds gv op) [] (zb .ready)++[.var (ya ns sz no od m ds gv op),.dz AE [.i64,.i64,.i64] (MK l) (MV l),.dz AE [.i64,.i64,.i64] (MK s.2) (MV s.2),.iter (.map 5) nl (i::seen),.var [int sa,int sb,int sc]],[]⟩) (0,l2) ⟨AR _,fj.s_⟩ ?_ ?_
      ·exact bq rfl ⟨AA _,AA _,AA _,AA _,AA _,AA _,AA _,AA _,AA _,AA _,AA _,AA _,bg rfl,trivial⟩ (.same _) (by simp[qb];omega) (.inr rfl) rfl
      ·rintro⟨d,l3⟩ ⟨hd,SC⟩ M2 hM2;simp only at hd SC hM2;cbv;split
       ·rename_i h2;have PA:d<D:=AN.1 (ry hS h2);have hdz:(d:Int)<sz (od r).toNat:=by rw[<-cw.2.2.1];exact AN.2 PA
        have gp:=SC.step h hlt lz tk (by rw[hD];exact PA);have hle3:=SC.le (T:=T) (by rw[hD];exact hle) (by rw[hD];exact PA);have O0:=l9o (ns:=ns) (sz:=sz) (no:=no) (od:=od) (ds:=ds) (ng:=ns) (gv:=gv) (op:=op) h.hm.2 ⟨sa,sb,sc⟩ (od r) d (fun j hj h0=>((jd j hj).hi h0).1) (fun j hj ha=>by
         obtain⟨b1,b2,b3,b4,b5⟩:=h.di hj;obtain⟨⟨_,c1⟩,_⟩:=(h.loose j hj).2.1 _ (show ((T3.mk sa sb sc).get j).toNat<(ds j).nn by have:=((jd j hj).hi ha.1).1;have:=ha.1;omega);rw[ha.2,b3 _ cw.2.2.2.2] at c1;exact AN.1 (Int.lt_of_lt_of_le hdz (Int.le_of_eq c1.symm)))
        have Jd:=h.bd (h.step hlt (dg:=d) hdz tk);obtain⟨⟨xa,xb,xc⟩,hx⟩: ∃x,oh m ds (od r) d ⟨sa,sb,sc⟩=x:=⟨_,rfl⟩;rw[hx] at O0 gp Jd;cbv;refine bf hS _ O0 ?_;cbv;simp only[ja];have r1:=ru hS (show-9223372036854775808<=xa/\xa<=9223372036854775807 by simp only at Jd;omega);have r2:=ru hS (show-9223372036854775808<=xb/\xb<=9223372036854775807 by simp only at Jd;omega);have r3:=ru hS (show-9223372036854775808<=xc/\xc<=9223372036854775807 by simp only at Jd;omega);refine ad hS r1 (ad hS r2 (ad hS r3 ?_));cases ny:VF (T3.mk xa xb xc) l3 with
        |none=>
         obtain⟨g1,g2,g3,g4,g5,g6⟩:=Kd _ l3 n ny;simp only[ui] at g1 g2 g3 g5;simp only[g2];cbv;refine ad hS (Jq hS (by simp only[AB];omega)) (ad hS r1 (ad hS r2 (ad hS r3 ?_)));simp only[jb,g1];cbv;simp only[gw,gx,iq,fo,g3];refine ad hS r1 (ad hS r2 (ad hS r3 ?_));simp only[ja,g5];cbv;refine ad hS (mc hS) ?_;simp only[gw,gx,iq,fo,g3];have q1:Sg.t8 (AF 0) (AF n)=(n:Int):=by rw[e.t8];simp only[AB];omega
         have q2:Sg.toNat (Sg.ofNat (az (MK l3)))=az (MK l3):=by rw[e.toNat,e.ofNat,AG]
         refine ad hS (qw hS (by simp only[e.ofNat,jr,g6,az];omega)) (ad hS (ji hS (by omega)) ?_);simp only[q1,q2,g4];exact hM2 (d+1,kh ⟨xa,xb,xc⟩ n l3) _ ⟨PA,gp⟩ (by simp only;omega) (bq rfl ⟨AA _,AA _,AA _,AA _,AA _,AA _,AA _,AA _,AA _,AA _,AA _,AA _,je hS,trivial⟩ (.same _) (by simp[qb];omega) (.inr rfl) rfl)
        |some k=>
         have cp:=l7i ny;obtain⟨j,g1,g2,g3,g4,g5,g6⟩:=Ke _ l3 n k ny;simp only[ui] at g1 g2;simp only[g2];cbv;refine ad hS (Jq hS (by simp only[AB];omega)) (ad hS r1 (ad hS r2 (ad hS r3 ?_)));simp only[jb,g1];cbv;simp only[gw,gx,iq,fo,g3];cbv;simp only[ja,jb,gw,gx,iq,fo,g2,g3];refine ad hS r1 (ad hS r2 (ad hS r3 ?_));cbv;refine ad hS (mc hS) ?_;have q1:Sg.t8 (AF k) (AF n)=((k+n:Nat):Int):=by rw[e.t8];simp only[AB];omega
         have q2:Sg.toNat (Sg.ofNat j)=j:=by rw[e.toNat,e.ofNat,AG]
         refine ad hS (qw hS (by simp only[e.ofNat,fo];omega)) (ad hS (ji hS (by omega)) ?_);simp only[gx,q1,q2,g6];rw[g5];exact hM2 (d+1,kh ⟨xa,xb,xc⟩ n l3) _ ⟨PA,gp⟩ (by simp only;omega) (bq rfl ⟨AA _,AA _,AA _,AA _,AA _,AA _,AA _,AA _,AA _,AA _,AA _,AA _,je hS,trivial⟩ (.same _) (by simp[qb];omega) (.inr rfl) rfl)
       ·rename_i h2;obtain rfl:d=D:=by have:=AX.1 (s9 hS h2);omega
        have gp:=fj.ZI jx nu (by rw[hD];exact SC);cbv;exact hM (i::seen,l3) _ gp LD (bq rfl ⟨AA _,AA _,AA _,AA _,AA _,AA _,AA _,AA _,AA _,trivial⟩ (.t 8 _) (by simp[qb];omega) (.inl ⟨rfl,Hp _ _⟩) rfl)
  ·rename_i h1;obtain rfl:r=no:=by have:=AX.1 (s9 hS h1);omega
   obtain⟨nl,jy⟩:=xA l.length;obtain⟨KV,hKV⟩:=xB fun t:List (g8×Nat)=>mK me t;obtain⟨VV,Sy⟩:=xB fun t:List (g8×Nat)=>mV t;have He: ∀n l,AH n (VV l)=AE:=fun n l=>by rw[<-Sy];exact QO n l
   cbv;refine gg AC ci hS (σ:=List Nat×List (g8×Nat)) (fun s=>Ya m ds l s.1 s.2) (fun s=>WS s.1 l.length fun _=>1)
    (fun s=>⟨dn [(1,.yl 3),(2,.ptr 4 0),(94,.ptr 6 0)] 107,Qa (ya ns sz r od m ds gv op) (KV s.2) (VV s.2) (zb .ready)++[.var (ya ns sz r od m ds gv op),.dz AE [.i64,.i64,.i64] (MK l) (MV l),.iter (.map 5) nl s.1],[]⟩) ([],[]) m4c ?_ ?_
   ·have g1:KV []=[]:=by rw[<-hKV];rfl
    have g2:VV []=[]:=by rw[<-Sy];rfl
    simp only[g1,g2];simp only[fo,GH,jy];exact bq rfl ⟨AA _,AA _,AA _,trivial⟩ (.same _) (by simp[Qa];omega) (.inr rfl) rfl
   ·rintro⟨seen,t⟩ SX M hM;simp only at SX hM;cbv;simp only[fo,GH,jy];refine ad hS trivial (l8t hS (fun cd=> ?_) fun i hi nu=> ?_)
    ·refine⟨[],fun _ _ h=>h,hF (h1:=Qa (ya ns sz r od m ds gv op) (KV t) (VV t) (zb .ready)) (.t 4 _) (AA _) (AL _) (.inl ⟨rfl,?_⟩) ⟨rfl,rfl,t,SX.done h hT hl (by rw[jy];exact cd),?_⟩⟩
     ·show (AH 4 (VV t)&&AE)=AE;rw[He];rfl
     ·simp only[qb,Qa,hKV,Sy]
    ·obtain⟨⟨s,n⟩,jx⟩: ∃x,l[i]? =AP x:=⟨_,AM (by rw[jy];exact hi)⟩;have Nf:=hl.ok _ (AQ jx);have lz:0<n:=Nf.1;have tk:XG m ds r s:=Nf.2;have J1:ax (MK l) i=AP (ui s):=by rw[<-Lo];exact l9a jx
     have Pp:ax (MV l) i=AP (.d (.int .i64 (.v (n:Int)))):=by rw[<-J2];exact l9n jx
     have tn:=h.bd tk;obtain⟨sa,sb,sc⟩:=s;simp only[ui] at J1;cbv;simp only[fo,gw,GH,jy,J1,Pp];refine ad hS trivial ?_;have o8: ∀j,j<m->(T3.mk sa sb sc).get j<0/\ -1-(T3.mk sa sb sc).get j<(ds j).ne/\(ds j).ne<=1000000:=fun j hj=>by
      obtain⟨b1,b2,b3,b4,b5⟩:=h.di hj;have hg:atR (ds j) r ((T3.mk sa sb sc).get j):=by
       obtain rfl|rfl|rfl:j=0\/j=1\/j=2:=by have:=h.hm;omega
       ·exact tk.a hj
       ·exact tk.b hj
       ·exact tk.c hj
      rw[<-b2] at hg;have h0:=l8o (h.loose j hj) b5 hg;exact⟨h0,hg.lo h0,(h.fit j hj).ne⟩
     have Li:=l9q (ns:=ns) (sz:=sz) (no:=r) (od:=od) (ds:=ds) (ng:=ns) (gv:=gv) (op:=op) h.hm ⟨sa,sb,sc⟩ o8;have jk: ∀j,j<m->gb ((ds j).en (-1-(T3.mk sa sb sc).get j).toNat):=fun j hj=>(h.loose j hj).1 _ (by have:=o8 j hj;omega);have Lz:=h.Yu 0 (by have:=h.hm;omega) (-1-(T3.mk sa sb sc).get 0).toNat (by have:=o8 0 (by have:=h.hm;omega);omega);have xq:=jk 0 (by have:=h.hm;omega);rw[l7c] at Lz xq;simp only[l7c] at Li;have LD:WS (i::seen) l.length (fun _=>1)<WS seen l.length fun _=>1:=by have:=(Jt (f:=fun _=>1) nu).1 (show i<l.length by rw[jy];exact hi);omega
     have gp:=SX.step jx lz nu;obtain⟨z,hz⟩:=xA (GP m ds ⟨sa,sb,sc⟩);have HG:=l9v (m:=m) h.hm.2 (ds:=ds) (s:=⟨sa,sb,sc⟩);have hbz:z=AE->(Ok t fun _=>1)+n<=2000:=fun jl=>by have:=SX.le (T:=T) jx nu (hl.le h hT) (hz.trans jl);omega
     unfold Zz at gp;rw[hz] at HG gp;obtain⟨f,hf⟩: ∃f:Nat->g8,(fun j=>zx ds j ⟨sa,sb,sc⟩)=f:=⟨_,rfl⟩;have hfj: ∀j,zx ds j ⟨sa,sb,sc⟩=f j:=fun j=>congrFun hf j;simp only[hfj] at Li gp HG xq Lz;obtain⟨t',Jo⟩:=xA (if z=AE then kh (f 0) n t else t);rw[Jo] at gp;cbv;refine bf hS _ Li ?_;cbv;have hy:=fun a0 a1 a2 a3 a4 R=>l8p h.hm (a0:=a0) (a1:=a1) (a2:=a2) (a3:=a3) (a4:=a4) t f ⟨xq,Lz⟩ n z HG hbz R;simp only[qb,hKV,Sy,Jo] at hy;refine UD hS (hy _ _ _ _ _ [_,_,_,_]) ?_;rintro pg v h' ⟨rfl,rfl,rfl⟩;cbv;refine hM (i::seen,t') _ gp LD (bq rfl ⟨AA _,AA _,AA _,trivial⟩ (.t 7 _) (by simp[Qa];omega) (.inl ⟨rfl,?_⟩) rfl);show (AH 7 (VV t')&&(AH 7 (MV l)&&AE))=AE;rw[He,qh];rfl
end Go.Proofs.Tryz.Run
namespace Go.Vf
open Go
theorem v4.Y3 {w:World}{S:Nat->Prop}{ρ:lw}{h:List ae}(hs:v4 w S ρ h){l:Nat}{o:ae}(hl:h[l]? =AP o)(VE:o.low 0=AE)(hf:o.frozen=AK):v4 w S (QU (ρ l)) [o]:=by
 refine⟨hs.i0,fun m ob C hm=> ?_,fun m m' b C C' h1 h2=> ?_,fun m b C o' h1 h2 h3=> ?_⟩
 ·obtain⟨rfl,hp⟩:=QV hm;obtain⟨o2,h1,h2⟩:=hs.obj l ob C hp;rw[hl] at h1;cases h1;refine⟨_,rfl,?_⟩;cases ob with
  |none=>exact h2
  |some b=>
   have h3:=fv.cut (n:=0) h2 VE;have h4:=fv.ml (ρ':=QU (ρ l)) (π:=fun i=>i) (fun i p hp=>by simp[lw.cut] at hp) h3
   rwa [ae.V0 (k:=0) (fun i hi=>rfl) VE] at h4
 ·rw[(QV h1).1,(QV h2).1]
 ·obtain⟨rfl,hp⟩:=QV h1;simp at h2;subst h2;exact hs.own l b C _ hp hl hf
theorem ay.Zt {P:Program}{f:FuncId}{args:List AV}{K:ae->Prop}(hc:ay P f args [] fun pg v h'=>pg=[]/\ ∃l o,v= .map l/\h'[l]? =AP o/\o.low 0=AE/\o.frozen=AK/\K o):ay P f args [] fun pg v h'=>pg=[]/\v= .map 0/\ ∃o,h'=[o]/\K o:=by
 refine⟨hc.1,fun w S ρ vs hs hv=>(hc.2 w S ρ vs hs hv).mono fun y w' hR=> ?_⟩;obtain⟨v,y,pg,h',S',ρ',b1,⟨rfl,l,o,rfl,hl,VE,hf,hK⟩,b3,b4,b5,b6,b7⟩:=hR;refine⟨v,_,[],_,S',QU (ρ' l),b1,⟨rfl,rfl,o,rfl,hK⟩,?_,b4.Y3 hl VE hf,⟨b5.os,b5.tape,b5.output,b5.size,b5.mono,b5.cell,b5.news,b5.frame,fun m b C hm=> ?_⟩,by simp,fun m hm=>by simp at hm⟩
 ·cases b3 with
  |map _ b C h=>exact .map 0 b C h
 ·exact b5.owned l b C (QV hm).2
end Go.Vf
namespace Go.Proofs.Tryz.Run
open Go Go.Vf Go.Proofs
open Go.Proofs.YtbglklaocjifhaaGreat
def yk (t:List (g8×Nat)):ae:= .dz AE [.u8,.i64] (mK me t) (mV t)
theorem l7r {m ns no T:Nat}{ds:Nat->g7}{sz od gv:Nat->Int}{op:Value}(h:nh m ds ns no sz od)(hT:(T:Int)=dv sz ns)(hgv: ∀i,i<ns->gv i= -1):
 ay AD 103 [Js ns sz no od m ds ns gv op] [] (fun pg v h'=>pg=[]/\v= .map 0/\ ∃o,h'=[o]/\ ∃t,Gt T (w9 m ds) (ds 0).cell t/\o=yk t):=by
 have hc:=m0n (op:=op) h hT hgv;refine ay.Zt (mh AC ci m2f rfl fun E Sg hb hS F hF=> ?_);have e:=fh hS;cbv;refine Q4 hS rfl ?_;refine ay.heap (ay.mono ?_ hc) (.cons (.refl _) (.cons (.refl _) (.cons (.refl _) (.cons (bx.loop (L1 rfl ⟨AA _,trivial⟩) fun a b h=>h) (.nil _))))) rfl;rintro pg v h' ⟨rfl,rfl,t,ht,rfl⟩;refine⟨fun h=>(nomatch h),_,_,_,_,rfl,?_⟩;obtain⟨KS,jg⟩:=xA (mK me t);obtain⟨VS,o6⟩:=xA (mV t);simp only[qb,jg,o6];cbv;have VE:AH 0 VS=AE:=by rw[<-o6];exact QO 0 t
 exact⟨[],fun _ h=>absurd h (AO _),hF (.same _) (AA _) (AR _) (.inr rfl) ⟨rfl,1,_,rfl,rfl,VE,rfl,t,ht,by rw[yk,jg,o6]⟩⟩
def m2v:XT:= .node 177 m2z (.node 139 m2u .leaf .leaf) (.node 207 m2y .leaf .leaf)
theorem m0s:m2v.X6 (aw AD):=⟨m2n,⟨m1r,trivial,trivial⟩,⟨m2r,trivial,trivial⟩⟩
def m0e:List CD->Bool
 |[.int .i64 z]=>decide (z.val= -1)
 |_=>AK
def NL:Nat->List (List CD)->Bool
 |0,_=>AE
 |n+1,r::rs=>m0e r&&NL n rs
 |_+1,[]=>AK
def m0k (n:Nat):CA->Bool
 | .d (.sl 1 m rows)=>Ag m n&&NL n rows
 | .lm 1 m rows=>Ag m n&&NL n rows
 |_=>AK
theorem l5w: ∀{n:Nat} {rows:List (List CD)},NL n rows=AE-> ∀i,i<n->RL (Vf.rowAt (CD.VJ rows) i) [.int .i64 (.v (-1))]
 |0,_,_,i,hi=>absurd hi (AO i)
 |n+1,[],h,i,hi=>by simp[NL] at h
 |n+1,r::rs,h,i,hi=>by
  simp only[NL,AJ] at h;cases i with
  |zero=>
   have h1:=h.1;unfold m0e at h1;split at h1
   ·rename_i z;have:z.val= -1:=by simpa using h1
    exact RL.one (DL.int this)
   ·cases h1
  |succ i=>exact l5w (n:=n) (rows:=rs) h.2 i (by omega)
theorem l8d {n:Nat}{v:CA}(h:m0k n v=AE):ab v.to (ac n fun _=> -1):=by
 unfold m0k at h;split at h
 ·simp only[AJ] at h;exact AY (AI h.1) fun i hi=>l5w h.2 i (by have:=AI h.1;omega)
 ·simp only[AJ] at h;exact ab.lm.trans (AY (AI h.1) fun i hi=>l5w h.2 i (by have:=AI h.1;omega))
 ·cases h
noncomputable def KA (n:Nat):Bool:=(YR m2v 200).wr AK 139 [.d (.sl 1 1 [[.int .i64 (.l (-1))]]),.d (.int .i64 (.l n))] (m0k n)
theorem m1j:(KA 0&&(KA 1&&(KA 2&&(KA 3&&(KA 4&&(KA 5&&KA 6))))))=AE:=by kernel_rfl
theorem m1s:ab (.d (.sl 1 1 (Vf.rowAt [[.int .i64 (.l (-1))]]))) (.d (.sl 1 1 fun _=>[.int .i64 (.l (-1))])):=AY rfl fun i hi=>by
 obtain rfl:i=0:=by omega
 exact .refl _
theorem m2q:ab (.d (.sl 1 1 fun _=>[.int .i64 (.l (-1))])) (.d (.sl 1 1 (Vf.rowAt [[.int .i64 (.l (-1))]]))):=AY rfl fun i hi=>by
 obtain rfl:i=0:=by omega
 exact .refl _
theorem l9e {n:Nat}(hn:n<=6):au AD AK 139 [.d (.sl 1 1 fun _=>[.int .i64 (.l (-1))]),int n] (ac n fun _=> -1):=by
 have h:=m1j;simp only[AJ] at h;have hr:KA n=AE:=by
  obtain⟨h0,h1,h2,h3,h4,h5,h6⟩:=h
  match n,hn with
  |0,_=>exact h0
  |1,_=>exact h1
  |2,_=>exact h2
  |3,_=>exact h3
  |4,_=>exact h4
  |5,_=>exact h5
  |6,_=>exact h6
 obtain⟨r,h1,h2⟩:=c0g AC ci m0s 200 hr;have h2:au AD AK 139 [.d (.sl 1 1 (Vf.rowAt [[.int .i64 (.l (-1))]])),.d (.int .i64 (.l n))] r.to:=h2;have h3:=au.LE (args':=[.d (.sl 1 1 fun _=>[.int .i64 (.l (-1))]),int n]) (.cons m2q (.cons (show ab (.d (.int .i64 (.v (n:Int)))) (.d (.int .i64 (.l (n:Int)))) from ab.int rfl) .nil)) h2;exact au.Xp (l8d h1) h3
theorem ab.YX (f:FuncId):ab (.fn f [] []) (.d (.raw (.func (.func f) #[] #[]))):=fun w S ρ v hv=>by
 cases hv with
 |fn _ _ _ us vs h1 _ h2 _=>
  have e1:us= #[]:=by apply AS;simpa using h1.symm
  have e2:vs= #[]:=by apply AS;simpa using h2.symm
  subst e1 e2;exact .d (.raw _ rfl)
def Y4:Value:= .func (.func 102) #[] #[]
theorem l6y {m:Nat}{ds:Nat->g7}(hm:1<=m/\m<=3)(h6:(ds 0).ns<=6):au AD AK 101 [.fn 102 [] [],Wg m ds] (Js (ds 0).ns (ds 0).sz (ds 0).no (ds 0).od m ds (ds 0).ns (fun _=> -1) Y4):=by have OW:=l9e h6;obtain⟨d0,SA⟩:=xA (ds 0);rw[SA] at OW⊢;refine cr AC ci m2o _ rfl fun E Sg hb hS=> ?_;have e:=fh hS;cbv;refine ad hS (gf hS (by omega)) (ad hS (gf hS (by omega)) (ad hS (gf hS (by omega)) (ad hS (mc hS) (ad hS (mc hS) (ad hS (mc hS) ?_)))));have e0:nat Sg (IX.l (AF 0))=0:=rfl;simp only[e0,SA];refine bf hS _ (au.LE (.cons m1s (.cons (br (e.ofNat _)) .nil)) OW) ?_;cbv;refine ad hS (mc hS) (ad hS (mc hS) ?_);exact fl.agg (.cons (.refl _) (.cons (.refl _) (.cons (.refl _) (.cons (.refl _) (.cons (ab.YX 102) .nil)))))
theorem m0u {α:Type}[DecidableEq α]{K:α->List KC}(hK: ∀a b,K a=K b->a=b)(k:α)(l:List (α×Nat)):mf (K k) (mK K l) (mV l)=(VF k l).map fun n=> .d (.int .i64 (.v (n:Int))):=by
 cases h:VF k l with
 |none=>exact (m0r hK h 0).2.1
 |some n=>obtain⟨i,_,h2,_⟩:=m0p hK h 0;exact h2
theorem m0f {d:g7}(hd:Mt d)(hf:d.fit)(h0: ∀j,j<d.ne->0<=(d.en j).fault):nh 1 (fun _=>d) d.ns d.no d.sz d.od:=
 ⟨by omega,hd.fr,fun _ _=>hd.loose,fun _ _=>hf,fun _ _=>h0,fun _ _=>rfl,fun _ _=>rfl⟩
theorem m0q (d:g7)(hE:s8 d=0)(hf:d.fit)(h0: ∀j,j<d.ne->0<=(d.en j).fault)(jn:d.no<=12)(v:g8)(hv:gb v)(qu:0<=v.fault):
 au AD AK 107 [d.av,v.av] (.tuple [Js d.ns d.sz d.no d.od 1 (fun _=>d) d.ns (fun _=> -1) Y4,int 0]):=by
 have h99:=j5h d hf h0 jn hE;have La:=l6y (m:=1) (ds:=fun _=>d) (by omega) (by have:=(m0f (MO hE) hf h0).YM;show d.ns<=6;omega);have h145:=d4i v qu 0 ⟨fun _=>rfl,fun h=>absurd hv h⟩;clear hE hf h0 jn hv qu;obtain⟨vf,vn⟩:=v;obtain⟨ns,sz,no,od,ne,en,nn,var,nk,dq,root⟩:=d;refine cr AC ci m1x _ rfl fun E Sg hb hS=> ?_;have e:=fh hS;cbv;have q0: ∀i,i<1->RL (Vf.rowAt [[.sl 1 ns fun i=>[.int .i64 (.v (sz i))],.sl 1 no fun i=>[.int .i64 (.v (od i))],.sl 2 ne fun i=>(en i).row,.sl 2 nn fun i=>[.int .i64 (.v (var i)),.sl 1 (nk i) fun j=>[.int .i64 (.v (dq i j))]],.int .i64 (.v root)]] i) (g7.row ⟨ns,sz,no,od,ne,en,nn,var,nk,dq,root⟩):=fun i hi=>by
  obtain rfl:i=0:=by omega
  exact RL.refl _
 refine bf hS _ (au.LE (.cons (AY rfl q0) .nil) h99) ?_;cbv;simp only[e.md,e.jp];cbv;refine bf hS _ h145 ?_;cbv;simp only[e.md,e.jp];cbv;refine bf hS _ (au.LE (.cons (.refl _) (.cons (AY rfl q0) .nil)) La) ?_;cbv;exact fl.tuple (.cons (.refl _) (.cons (bg rfl) .nil))
theorem l7t (π:Nat->Nat)(t:List (g8×Nat)):(yk t).ml π=yk t:=by show ae.dz AE [.u8,.i64] (mK me t) (AT π (mV t))=_;rw[Kt];rfl
theorem m0w (d:g7)(hE:s8 d=0)(hf:d.fit)(h0: ∀j,j<d.ne->0<=(d.en j).fault)(jn:d.no<=12){T:Nat}(hT:(T:Int)=dv d.sz d.ns)(v:g8)(hv:gb v)(qu:0<=v.fault):
 au AD AE 71 [d.av,v.av] (.tuple [int (wm T (w9 1 fun _=>d) d.cell v),int 0]):=by
 have h107:=m0q d hE hf h0 jn v hv qu;have Lb:=l7r (op:=Y4) (gv:=fun _=> -1) (m0f (MO hE) hf h0) hT (fun _ _=>rfl);have tn:=hv.bd qu;unfold rq at tn;have ny:=fun t=>m0u l6s v t;have cq: ∀t,Gt T (w9 1 fun _=>d) d.cell t->(VF v t).getD 0=wm T (w9 1 fun _=>d) d.cell v:=fun t ht=>ht.look v;obtain⟨C,hC⟩:=xA (wm T (w9 1 fun _=>d) d.cell v);rw[hC] at cq⊢;clear hE h0 jn hv qu hT;obtain⟨vf,vn⟩:=v;refine b4i (by rintro z (_|⟨_,_|⟨_,h⟩⟩)<;>first|trivial|cases h) (cr AC ci m2g _ rfl fun E Sg hb hS=> ?_);have e:=fh hS;cbv;refine bf hS _ h107 ?_;cbv;simp only[e.md,e.jp];cbv;refine lj hS (ay.frame Lb [] rfl rfl trivial) ?_;rintro pg w H' ⟨pg0,v0,OS,⟨rfl,rfl,o,rfl,t,ht,rfl⟩,rfl,rfl,rfl⟩;have PV:=ny t;have SQ:=cq t ht;obtain⟨KS,jg⟩:=xA (mK me t);obtain⟨VS,o6⟩:=xA (mV t);simp only[uj,l7t];simp only[me,jg,o6] at PV;simp only[yk,jg,o6];cbv;refine ad hS (mc hS) (ad hS (Im hS tn.1) (ad hS (ru hS tn.2) ?_));simp only[ja,PV];cases hm:VF (g8.mk vf vn) t with
 |none=>rw[hm] at SQ;simp only[Ac];cbv;exact fl.tuple (.cons (bg (by rw[<-SQ];rfl)) (.cons (bg rfl) .nil))
 |some n=>rw[hm] at SQ;simp only[Ac];cbv;exact fl.tuple (.cons (br (by rw[<-SQ];rfl)) (.cons (bg rfl) .nil))
theorem l8m (t:List (g8×Nat)):ay AD 106 [.map 0] [yk t] (fun pg v h'=>pg=[]/\v= .fn 144 [] [.ptr 1 0]/\h'=[yk t,.var [.map 0]]):=by obtain⟨KS,jg⟩:=xA (mK me t);obtain⟨VS,o6⟩:=xA (mV t);simp only[yk,jg,o6];refine mh AC ci m1p rfl fun E Sg hb hS F hF=> ?_;cbv;exact⟨[],fun _ _ h=>h,hF (.same _) (AA _) (by simp) (.inr rfl) ⟨rfl,rfl,rfl⟩⟩
def m2w:gy×gy:=match m3k with
 | .seq _ (.seq (.seq _ (.block _ (.range _ _ a b))) _)=>(a,b)
 |_=>(.ret,.ret)
def It (s:Wz):ae:= .loop s (dn [(2,.ptr 2 0)] 13) [7] (fun ca cb=>comp AD Rq.A ca=AP m2w.1/\comp AD Rq.A cb=AP m2w.2)
def y0 (KS:List (List KC))(VS:List AV)(lp:ae)(n:Nat)(G:Nat->Int):List ae:=[.dz AE [.u8,.i64] KS VS,.var [.map 0],.var [.bi 4 1 Af n AK],lp,.arr 1 n fun i=>[.int .i64 (.v (G i))]]
theorem l9p (KS:List (List KC))(VS:List AV){n:Nat}(hn:n<=100000)(G G':Nat->Int)(x:Nat)(hG: ∀i,i<n->G i=G' i)(hx:G' n=x)(SF:Aa 4 AK VS=VS):
 lh AD 3 [int x] (y0 KS VS (It .ready) n G) (fun pg v h'=>pg=[4]/\v= .d (.bool AE)/\h'=y0 KS VS (It .ready) (n+1) G'):=by
 refine lh.cut (Mr AC ci (A:=Rq.A) rfl (fun _ _ h=>h) rfl fun ro E Sg hS=> ?_);have e:=fh hS;cbv;refine⟨fun h=>(nomatch h),_,_,_,rfl,?_⟩;cbv;simp only[j8,SF];refine ad hS trivial (ad hS (uh hS (by omega)) ?_);refine⟨fun h=>(by rcases h with _|⟨_,h⟩;cases h),_,_,_,rfl,[4],fun m _ h=>h,?_⟩;refine⟨y0 KS VS (It .ready) (n+1) G',.d (.bool AE),?_,AA _,by simp[y0],.inr rfl,rfl,rfl,rfl⟩;exact .cons (.refl _) (.cons (.refl _) (.cons (.var (.cons (w7 hS) .nil)) (.cons (.refl _) (.cons (yc hS (fun j hj=>by rw[hG j hj];exact .refl _) (by rw[hx];exact .refl _)) (.nil _)))))
theorem l8y (t:List (g8×Nat)){n:Nat}(hn:n<=100000)(G G':Nat->Int)(x:Nat)(hG: ∀i,i<n->G i=G' i)(hx:G' n=x)(k:Nat)(seen:List Nat):
 lh AD 3 [int x] (ba (y0 (mK me t) (mV t) (It .ready) n G) [.iter (.map 0) k seen]) (fun pg v h'=>pg=[4]/\v= .d (.bool AE)/\h'=ba (y0 (mK me t) (mV t) (It .ready) (n+1) G') [.iter (.map 0) k seen]):=by
 have h:=(l9p (mK me t) (mV t) hn G G' x hG hx (Tm 4 AK t)).frame (H:=ba (y0 (mK me t) (mV t) (It .ready) n G) [.iter (.map 0) k seen]) (l':=3) (args':=[int x]) [0,1,2,3,4] (by decide) rfl rfl (by
  refine⟨?_,.refl _,.refl _,.refl _,.refl _,trivial⟩;show bx (.dz AE [.u8,.i64] (mK me t) (mV t)) (.dz AE [.u8,.i64] (mK me t) (AT _ (mV t)));rw[Kt];exact .refl _)
 refine lh.mono ?_ h;rintro pg v h' ⟨pg0,v0,h0,⟨rfl,rfl,rfl⟩,rfl,rfl,rfl⟩;refine⟨rfl,rfl,?_⟩;show [ae.dz AE [.u8,.i64] (mK me t) (AT _ (mV t)),_,_,_,_,_]=_;rw[Kt];rfl
theorem l8h (t:List (g8×Nat))(hlen:t.length<=100000):
 ay AD 144 [.yl 3,.ptr 1 0] (y0 (mK me t) (mV t) (It .ready) 0 fun _=>0) (fun pg v h'=>pg=[4]/\v= .tuple []/\ ∃(n:Nat) (G:Nat->Int),n=t.length/\(∀i,i<n-> ∃e,e∈t/\G i=(e.2:Int))/\(∀e,e∈t-> ∃i,i<n/\G i=(e.2:Int))/\h'=y0 (mK me t) (mV t) (It .ready) n G):=by
 obtain⟨KS,jg⟩:=xA (mK me t);obtain⟨VS,o6⟩:=xA (mV t);have hy:=fun (n:Nat) hn G G' x hG hx k seen=>l8y t (n:=n) hn G G' x hG hx k seen;simp only[jg,o6] at hy⊢;have GH:az KS=t.length:=by rw[<-jg];exact l8j t
 have qh: ∀n,AH n VS=AE:=fun n=>by rw[<-o6];exact QO n t
 have SF:Aa 4 AK VS=VS:=by rw[<-o6];exact Tm 4 AK t
 refine mh AC ci m2s rfl fun E Sg hb hS F hF=> ?_;have e:=fh hS;cbv;obtain⟨nl,jy⟩:=xA t.length;refine gg AC ci hS (σ:=List Nat×Nat×(Nat->Int)) (fun s=>s.2.1+WS s.1 t.length (fun _=>1)=t.length/\(∀i,i<s.2.1-> ∃e,e∈t/\s.2.2 i=(e.2:Int))/\ ∀j e,j∈s.1->t[j]? =AP e-> ∃i,i<s.2.1/\s.2.2 i=(e.2:Int)) (fun s=>WS s.1 t.length fun _=>1)
  (fun s=>⟨dn [(0,.yl 3),(1,.ptr 1 0),(6,.ptr 5 0)] 15,y0 KS VS (It .ready) s.2.1 s.2.2++[.iter (.map 0) nl s.1],[4]⟩) ([],0,fun _=>0) ⟨by rw[l7k,Me];simp,fun i hi=>absurd hi (AO i),fun j e hj=>by simp at hj⟩ ?_ ?_
 ·simp only[fo,GH,jy];exact bq rfl ⟨AA _,AA _,AA _,trivial⟩ (.same _) (by rw[hb];simp[y0]) (.inr rfl) rfl
 ·rintro⟨seen,n,G⟩ ⟨h1,h2,h3⟩ M hM;simp only at h1 h2 h3 hM;cbv;simp only[fo,GH,jy];refine ad hS trivial (l8t hS (fun cd=> ?_) fun i hi nu=> ?_)
  ·exact⟨[4],fun _ _ h=>h,hF (h1:=y0 KS VS (It .ready) n G) (.t 5 _) (AA _) (AL _) (.inl ⟨rfl,(show (AH 5 VS&&AE)=AE by rw[qh];rfl)⟩) ⟨rfl,rfl,n,G,(by rw[<-h1,l6o (by rw[jy];exact cd)];rfl),h2,fun e he=>by
    obtain⟨j,hj⟩:=List.getElem?_of_mem he;exact h3 j e (cd j (by rw[<-jy];exact (AU.1 hj).1)) hj,rfl⟩⟩
  ·obtain⟨⟨v,x⟩,jx⟩: ∃x,t[i]? =AP x:=⟨_,AM (by rw[jy];exact hi)⟩;have J1:ax KS i=AP (me v):=by rw[<-jg];exact l9a jx
   have Pp:ax VS i=AP (.d (.int .i64 (.v (x:Int)))):=by rw[<-o6];exact l9n jx
   have LD:=(Jt (f:=fun _=>1) nu).1 (show i<t.length by rw[jy];exact hi);obtain⟨G',g1,g2⟩: ∃G':Nat->Int,(∀j,j<n->G j=G' j)/\G' n=x:=⟨fun j=>if j=n then x else G j,fun j hj=>(if_neg (by omega)).symm,if_pos rfl⟩;obtain⟨vf,vn⟩:=v;simp only[me] at J1;cbv;simp only[fo,gw,GH,jy,J1,Pp];refine ad hS trivial ?_;cbv;refine UD hS (hy n (by omega) G G' x g1 g2 nl (i::seen)) ?_;rintro pg w H' ⟨rfl,rfl,rfl⟩;cbv;refine hM (i::seen,n+1,G') _ ⟨by simp only;omega,fun j hj=> ?_,fun j e hj he=> ?_⟩ (by simp only;omega) (bq rfl ⟨AA _,AA _,AA _,trivial⟩ (.same _) (by rw[hb];simp[y0]) (.inr rfl) rfl)
   ·simp only at hj⊢;rcases AW.1 hj with h|rfl
    ·rw[<-g1 j h];exact h2 j h
    ·exact⟨_,AQ jx,g2⟩
   ·simp only at hj⊢;rcases List.mem_cons.1 hj with rfl|hj
    ·rw[jx] at he;cases he;exact⟨n,Ab n,g2⟩
    ·obtain⟨k,k1,k2⟩:=h3 j e hj he;exact⟨k,by omega,by rw[<-g1 k k1];exact k2⟩
def m0d (t:List (g8×Nat))(n:Nat)(G:Nat->Int):Prop:=n=t.length/\(∀i,i<n-> ∃e,e∈t/\G i=(e.2:Int))/\ ∀e,e∈t-> ∃i,i<n/\G i=(e.2:Int)
theorem l9j (t:List (g8×Nat))(hlen:t.length<=100000):
 ay AD 143 [.d .nil,.fn 144 [] [.ptr 1 0]] [yk t,.var [.map 0]] (fun pg v h'=>pg=[]/\ ∃n G o2 o3,m0d t n G/\v= .bi 4 1 Af n AK/\h'=[yk t,.var [.map 0],o2,o3,.arr 1 n fun i=>[.int .i64 (.v (G i))]]):=by
 have hc:=l8h t hlen;obtain⟨KS,jg⟩:=xA (mK me t);obtain⟨VS,o6⟩:=xA (mV t);have SF: ∀k,Aa k AK VS=VS:=fun k=>by rw[<-o6];exact Tm k AK t
 simp only[yk,jg,o6] at hc⊢;refine mh AC ci m2h rfl fun E Sg hb hS F hF=> ?_;have e:=fh hS;cbv;refine Q4 hS rfl ?_;refine ay.VK 1 (fun _=>[]) ?_ (Ku _ _ _) (L7 (m:=2) (i:=0) rfl rfl);refine ay.heap (ay.mono ?_ hc) (.cons (.refl _) (.cons (.refl _) (.cons (.refl _) (.cons (bx.loop (L1 rfl ⟨AA _,trivial⟩) fun a b h=>h) (.cons (.arr fun i hi=>absurd hi (AO i)) (.nil _)))))) rfl;rintro pg v h' ⟨rfl,rfl,n,G,qu,sq,jh,rfl⟩;refine⟨fun h=>(by rcases h with _|⟨_,h⟩;cases h),_,_,_,_,rfl,?_⟩;simp only[y0];cbv;simp only[j8,SF];exact⟨[],fun l hl hm=>(by simp only[List.mem_singleton] at hm;omega),hF (.same _) (AA _) (by simp) (.inr rfl) ⟨rfl,n,G,_,_,⟨qu,sq,jh⟩,rfl,rfl⟩⟩
theorem l8b (t:List (g8×Nat))(hlen:t.length<=100000):
 ay AD 105 [.fn 144 [] [.ptr 1 0]] [yk t,.var [.map 0]] (fun pg v h'=>pg=[]/\ ∃n G o2 o3,m0d t n G/\v= .bi 4 1 Af n AK/\h'=[yk t,.var [.map 0],o2,o3,.arr 1 n fun i=>[.int .i64 (.v (G i))]]):=by
 have hc:=l9j t hlen;obtain⟨KS,jg⟩:=xA (mK me t);obtain⟨VS,o6⟩:=xA (mV t);simp only[yk,jg,o6] at hc⊢;refine mh AC ci m2d rfl fun E Sg hb hS F hF=> ?_;have e:=fh hS;cbv;refine lj hS hc ?_;rintro pg v h' ⟨rfl,n,G,o2,o3,hv,rfl,rfl⟩;cbv;exact⟨[],fun l hl hm=>hm,hF (.same _) (AA _) (by simp) (.inr rfl) ⟨rfl,n,G,_,_,hv,rfl,rfl⟩⟩
def Tq (n:Nat)(G:Nat->Int)(r:Int):Prop:=(∃i,i<n/\G i=r)/\ ∀i,i<n->G i<=r
theorem m1h {n:Nat}(hn:n<=1000000)(h0:0<n)(G:Nat->Int)(r:Int)(hr:Tq n G r):au AD AE 104 [ac n G] (int r):=by
 refine su (cr AC ci m2c _ rfl fun E Sg hb hS=> ?_);have e:=fh hS;cbv;have g0:Sg.Vu (Sg.ofNat n) (AF 1)=AK:=by rw[e.Vu,e.ofNat];exact decide_eq_false (by simp only[AB];omega)
 simp only[g0];cbv;refine ad hS (gf hS h0) ?_;have hm1:Tq 1 G (G 0):=⟨⟨0,Nat.one_pos,rfl⟩,fun i hi=>by
  obtain rfl:i=0:=by omega
  exact AZ _⟩
 refine gg AC ci hS (σ:=Nat×Int) (fun s=>1<=s.1/\s.1<=n/\Tq s.1 G s.2) (fun s=>n-s.1)
  (fun s=>⟨dn [(0,ac n G),(3,int s.2),(4,int s.1)] 25,[],[]⟩) (1,G 0) ⟨AL _,h0,hm1⟩ ?_ ?_
 ·exact bq rfl ⟨AA _,br rfl,bg rfl,trivial⟩ (.nil _) (by rw[hb];exact AR _) (.inr rfl) rfl
 ·rintro⟨i,m⟩ ⟨h1,hi,h2,h3⟩ N hN;simp only at h1 hi h2 h3 hN;cbv;split
  ·rename_i h;have hlt:i<n:=tw hS h;cbv;refine ad hS (gf hS hlt) ?_;have en:nat Sg (IX.v (AF i))=i:=e.toNat _;refine ad hS (ji hS (by omega)) (hN (i+1,if m<G i then G i else m) _ ⟨by simp only;omega,hlt,?_⟩ (by simp only;omega) (bq rfl ⟨AA _,br (by simp only[en,e.VY,e.Vu,decide_eq_true_eq]),je hS,trivial⟩ (.nil _) (by rw[hb];exact AR _) (.inr rfl) rfl));obtain⟨j,j1,j2⟩:=h2;simp only;refine⟨?_,fun k hk=> ?_⟩
   ·split
    ·exact⟨i,Ab i,rfl⟩
    ·exact⟨j,by omega,j2⟩
   ·rcases AW.1 hk with h|rfl
    ·have:=h3 k h;split<;>omega
    ·split<;>omega
  ·rename_i h;have aq:i=n:=by have:=tz hS h;omega
   subst aq;cbv;refine br ?_;obtain⟨j,j1,j2⟩:=h2;obtain⟨k,k1,k2⟩:=hr.1;have:=hr.2 j j1;have:=h3 k k1;omega
end Go.Proofs.Tryz.Run
