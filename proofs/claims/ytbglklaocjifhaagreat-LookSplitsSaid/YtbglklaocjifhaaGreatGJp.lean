/- The program's Decided. Conditions: none. -/
import Derived.Test.YtbglklaocjifhaaGreatGXj
open Go.Vf.ab renaming refl->AA,Yf->AW,Yz->AX
open Go.Proofs.Tryz renaming prog->AB
open Bool renaming false->AC,true->AJ
open Nat renaming not_lt_zero->AD,zero_le->AH,le_trans->AI,le_refl->AR
open Go.Proofs.YtbglklaocjifhaaGreat.Tryz renaming mixed->AE
open Int renaming ofNat->AF,ofNat_eq_natCast->AG,ofNat_lt->Aa
open List renaming getD_eq_getElem?_getD->AK,getElem?_eq_getElem->AL,cons_append->AM,nil_append->AN,length_pos_iff->AO,range->AS,length_filter_le->AT,getElem_of_mem->AU,mem_range->AY
open Go.Vf.fl renaming tuple->AP,agg->AZ,same->Ae
open Go.Proofs.Tryz.Run.d8 renaming XW->AQ,YH->Ab,WW->Ac,Yl->Ad
set_option linter.unusedSimpArgs false
set_option linter.unusedVariables false
set_option maxHeartbeats 0
set_option maxRecDepth 100000
namespace Go.Proofs.Tryz.Run
open Go Go.Vf Go.Proofs
open Go.Proofs.YtbglklaocjifhaaGreat
theorem j9r {l:List Nat}{j:Nat}(h:j<l.length):l.getD j 0∈l:=by rw[AK,AL h];exact List.getElem_mem h
theorem k1q {G:Nat->Bool}{l:List Nat}:zy G l↔ ∀j,j<l.length->G (l.getD j 0)=G (l.getD 0 0):=by
 constructor
 ·intro h j hj;exact h _ (j9r hj) _ (j9r (by omega))
 ·intro h p hp q hq;obtain⟨i,hi,e1⟩:=AU hp;obtain⟨j,hj,e2⟩:=AU hq;have h1:=h i hi;have h2:=h j hj;rw[AK,AL hi] at h1;rw[AK,AL hj] at h2;simp only[Option.getD_some] at h1 h2;rw[<-e1,<-e2,h1,h2]
theorem om.Y9 (r:om): ∃(lk:Int) (nc nn:Nat) (C D:Nat->List DV),r.av= .agg [int lk,.d (.sl 2 nc C),.d (.sl 3 nn D)]/\r.row=[.int .i64 (.v lk),.sl 2 nc C,.sl 3 nn D]:=⟨_,_,_,_,_,om.Ze r,om.Zw r⟩
theorem j8x:ab (.agg [.d (.int .i64 (.l (.ofNat 0))),.d .nil,.d .nil]) om.none.av:=AZ (.cons (bg rfl) (.cons AX (.cons AX .nil)))
theorem k3z {n m:Nat}(hn:n<=140737488355328)(f g:Nat->g8){r:Bool}(hr:r=AJ↔n=m/\ ∀i,i<n->f i=g i):au AB AJ 62 [d7 n f,d7 m g] (bool r):=by
 obtain⟨A,hA⟩:=xB fun i:Nat=>(f i).fault;obtain⟨B,hB⟩:=xB fun i:Nat=>(f i).n;obtain⟨C,hC⟩:=xB fun i:Nat=>(g i).fault;obtain⟨D,hD⟩:=xB fun i:Nat=>(g i).n;have heq: ∀i,f i=g i↔A i=C i/\B i=D i:=fun i=>by
  rw[<-hA,<-hB,<-hC,<-hD];constructor
  ·intro h;rw[h];exact⟨rfl,rfl⟩
  ·rintro⟨h1,h2⟩;cases hf:f i;cases hg:g i;rw[hf,hg] at h1 h2;simp only at h1 h2;rw[h1,h2]
 simp only[heq] at hr;unfold d7;simp only[g8.row,hA,hB,hC,hD];clear heq hA hB hC hD;refine j6 (cr AE ci g9q _ rfl fun E Sg gz hS=> ?_);have e:=fh hS;have en: ∀k:Nat,nat Sg (IX.v (AF k))=k:=fun k=>by show Sg.toNat (AF k)=k;rw[e.toNat];rfl
 by_cases kp:n=m
 rotate_left
 ·have hb:Sg.jp (Sg.md (Sg.ofNat n) (Sg.ofNat m))=AJ:=by rw[e.jp,e.md,e.ofNat,e.ofNat,beq_false_of_ne (by omega)];rfl
  cbv;simp only[hb];cbv;exact jq hr fun h=>kp h.1
 subst kp;have hb:Sg.jp (Sg.md (Sg.ofNat n) (Sg.ofNat n))=AC:=by rw[e.jp,e.md];simp
 cbv;simp only[hb];cbv;refine gg AE ci hS (fun i=>i<=n/\ ∀j,j<i->A j=C j/\B j=D j) (fun i=>n-i)
  (fun i=>⟨dn [(0,.d (.sl 2 n fun i=>[.int .u8 (.v (A i)),.int .i64 (.v (B i))])),(1,.d (.sl 2 n fun i=>[.int .u8 (.v (C i)),.int .i64 (.v (D i))])),(5,int i)] 26,[],[]⟩) 0 ⟨by omega,by omega⟩ ?_ ?_
 ·exact bq rfl ⟨AA _,AA _,bg rfl,trivial⟩ (.same _) (by simp;omega) (.inr rfl) rfl
 ·intro i hi N hN;cbv;split
  ·rename_i h;have hlt:i<n:=tw hS h;cbv;simp only[en];refine ad hS (gf hS hlt) (ad hS (gf hS hlt) ?_);simp only[e.jp,e.V4,e.md];obtain⟨q,hq⟩:=xA (!(A i==C i&&(B i==D i&&AJ)));rw[hq];cases q
   ·cbv;refine ad hS (Jq hS (by simp only[AG];omega)) ?_;refine hN (i+1) _ ⟨hlt,fun j hj=> ?_⟩ (by omega) (bq rfl ⟨AA _,AA _,je hS,trivial⟩ (.same _) (by simp;omega) (.inr rfl) rfl);by_cases ej:j=i
    ·subst ej;simpa using hq
    ·exact hi.2 j (by omega)
   ·cbv;refine jq hr fun cd=> ?_;obtain⟨h1,h2⟩:=cd.2 i hlt;rw[h1,h2] at hq;simp at hq
  ·rename_i h;have aq:n<=i:=tz hS h;cbv;exact Ir hr ⟨rfl,fun j hj=>hi.2 j (by omega)⟩
structure S1 where
 i:Nat
 H:List ae
 mv:List Nat
 A:Nat
 B:Nat
 Q:Nat->Nat
section
variable {l:List Nat} {X:Nat->g8} {k0 k1:DV} {i:Nat} {H H':List ae} {mv mv':List Nat} {A B A' B' Qn q p:Nat} {Q:Nat->Nat} {KS:List g8}
end
structure P1 where
 i:Nat
 is:Bool
 dep:Nat
 bj:Nat
 bn:Nat
 be:Nat->List DV
 bp:Nat->List DV
 mv:List Nat
def P1.ok (K:d8)(l:List Nat)(s:P1):Prop:=
 s.i<=K.nl/\ ∃d j,K.upto l s.i s.is d j/\(s.is=AC->s.dep=0/\s.bj=0/\s.bn=0)/\
  (s.is=AJ->d<=4/\s.dep=d+1/\s.bj=j/\s.bn=(cellsOf (K.X j) l).length/\(∀t,t<s.bn->s.be t=((cellsOf (K.X j) l).getD t ⟨0,0⟩).row)/\ ∀t,t<s.bn->s.bp t=(K.bt d (K.pt j l t)).row)
def TJ (i:Nat):Nat:=if i<3 then i else i+8
theorem k3a {nl:Nat}(jy:nl<=4)(x0 x1:DV)(tl:List DV)(F:Nat->Nat->g8)(g:Nat->Bool)(a:Nat->Bool)(ha: ∀j,nl<=j->a j=AC){l:List Nat}(yz:l≠[])(GI:l.length<=1000000)
 (dp: ∀i,i<nl-> ∀q,q∈l->gb (F q i)/\0<=(F q i).fault) {K:d8} (hK:K=⟨nl,fun j=>!(a j),fun i q=>F q i,g⟩)
 (ih: ∀i,i<nl->a i=AC-> ∀v,v∈cellsOf (K.X i) l-> ∀z d r,K.res (ey (K.X i) v l) z d r->d<=4/\au AB AC 110 [.d9 (x0::x1:: .int .i64 (.v nl)::tl) 0,.d (.sl 9 (ey (K.X i) v l).length fun j=>WJ F g ((ey (K.X i) v l).getD j 0)),.agg [bool (a 0||decide (0=i)),bool (a 1||decide (1=i)),bool (a 2||decide (2=i)),bool (a 3||decide (3=i))]] (.tuple [r.av,int d,bool z]))
 (z:Bool) (d:Nat) (r:om) (hz:K.res l z d r):
 au AB AC 110 [.d9 (x0::x1:: .int .i64 (.v nl)::tl) 0,.d (.sl 9 l.length fun j=>WJ F g (l.getD j 0)),.agg [bool (a 0),bool (a 1),bool (a 2),bool (a 3)]] (.tuple [r.av,int d,bool z]):=by
 have z8:K.nl=nl:=by rw[hK]
 have hKX: ∀i q,K.X i q=F q i:=fun i q=>by rw[hK]
 have hKA: ∀i,K.A i=!(a i):=fun i=>by rw[hK]
 have hKG:K.G=g:=by rw[hK]
 have fz:0<l.length:=AO.2 yz;obtain⟨dd,hdd⟩: ∃dd:Bool,dd=AJ↔ ∃i,i<l.length/\g (l.getD i 0)≠g (l.getD 0 0):=by classical exact⟨decide _,decide_eq_true_iff⟩
 have PB:zy K.G l↔dd=AC:=by
  rw[hKG,k1q];constructor
  ·intro h;cases hd:dd with
   |false=>rfl
   |true=>obtain⟨i,h1,h2⟩:=hdd.1 hd;exact absurd (h i h1) h2
  ·intro h j hj;cases he:(g (l.getD j 0)==g (l.getD 0 0)) with
   |true=>simpa using he
   |false=>have:=hdd.2 ⟨j,hj,by simpa using he⟩;rw[h] at this;cases this
 have OV:=j6 (k2h fz GI (fun j=>WJ F g (l.getD j 0)) (fun i k=>(F (l.getD i 0) k).fault) (fun i k=>(F (l.getD i 0) k).n) (fun i=>g (l.getD i 0)) (fun i=>rfl) dd hdd);have OY:=k3k jy x0 x1 tl;obtain⟨n,hn⟩:=xA l.length;obtain⟨se,SV⟩: ∃f:Nat->List DV,(fun j=>WJ F g (l.getD j 0))=f:=⟨_,rfl⟩;obtain⟨qg,Nl⟩: ∃t:List DV,(x0::x1:: .int .i64 (.v nl)::tl)=t:=⟨_,rfl⟩;rw[hn,SV] at OV;have Il:AV.d (.sl 9 l.length fun j=>WJ F g (l.getD j 0))= .d (.sl 9 n se):=by rw[hn,SV]
 rw[Il];obtain⟨a0,If⟩:=xA (a 0);obtain⟨a1,M7⟩:=xA (a 1);obtain⟨a2,M8⟩:=xA (a 2);obtain⟨a3,Sz⟩:=xA (a 3);obtain⟨q0,P9⟩:=xA (decide (0<nl));obtain⟨q1,hq1⟩:=xA (decide (1<nl));obtain⟨q2,LK⟩:=xA (decide (2<nl));obtain⟨q3,hq3⟩:=xA (decide (3<nl));simp only[UM,P9,hq1,LK,hq3] at OY;rw[If,M7,M8,Sz];rw[If,M7,M8,Sz] at ih;have cd:(a0==q0&&(a1==q1&&(a2==q2&&(a3==q3&&AJ))))=AJ↔ ∀j,j<nl->a j=AJ:=by
  rw[<-If,<-M7,<-M8,<-Sz,<-P9,<-hq1,<-LK,<-hq3];simp only[Bool.and_eq_true,beq_iff_eq,Bool.and_true];constructor
  ·rintro⟨h0,h1,h2,h3⟩ j hj;obtain rfl|rfl|rfl|rfl:j=0\/j=1\/j=2\/j=3:=by omega
   ·rw[h0];exact decide_eq_true hj
   ·rw[h1];exact decide_eq_true hj
   ·rw[h2];exact decide_eq_true hj
   ·rw[h3];exact decide_eq_true hj
  ·intro h;have key: ∀j,a j=decide (j<nl):=fun j=>by
    by_cases hj:j<nl
    ·rw[h j hj,decide_eq_true hj]
    ·rw[ha j (by omega),decide_eq_false hj]
   exact⟨key 0,key 1,key 2,key 3⟩
 obtain⟨RA,Pm⟩:=xA r.av;rw[Pm];refine cr AE ci f0t _ rfl fun E Sg gz hS=> ?_;have e:=fh hS;have en: ∀k:Nat,nat Sg (IX.v (AF k))=k:=fun k=>by show Sg.toNat (AF k)=k;rw[e.toNat];rfl
 cbv;refine ad hS (by subst hS;rfl) ?_;refine bf hS _ OV ?_;cases dd
 ·have SA:K.can 0 l:=PB.2 rfl;have Ko:z=AJ/\d=0/\r=QK:=by obtain⟨g1,g2,g3⟩:=AQ hz (K:=K) (z':=AJ) (d':=0) (r':=QK) ⟨fun _=>⟨⟨SA,fun m hm=>absurd hm (AD m)⟩,rfl⟩,fun h=>(by cases h)⟩;exact⟨g1,g2,g3⟩
  have Lq:RA=QK.av:=by rw[<-Pm,Ko.2.2]
  cbv;refine bf hS _ k4a ?_;cbv;rw[Lq,Ko.1,Ko.2.1];exact AP (.cons (AZ (.cons (AA _) (.cons AX (.cons AX .nil)))) (.cons (bg rfl) (.cons (AA _) .nil)))
 have im: ¬zy K.G l:=fun h=>by have:=PB.1 h;cases this
 cbv;refine bf hS _ OY ?_;cbv;simp only[e.V4,e.beq];obtain⟨qa,hqa⟩:=xA (a0==q0&&(a1==q1&&(a2==q2&&(a3==q3&&AJ))));rw[hqa] at cd⊢;cases qa
 rotate_left
 ·have Ko:z=AC/\d=0/\r= .none:=by
   have jn: ∀n,¬K.can n l:=fun n hc=>by
    cases n with
    |zero=>exact im hc
    |succ n=>
     rcases hc with hc|⟨i,h1,h2,_⟩
     ·exact im hc
     ·rw[hKA,cd.1 rfl i (by rw[<-z8];exact h1)] at h2;cases h2
   exact AQ (z':=AC) (d':=0) (r':= .none) hz ⟨fun h=>(by cases h),fun _=>⟨rfl,rfl,jn⟩⟩
  have Lq:RA=om.none.av:=by rw[<-Pm,Ko.2.2]
  cbv;refine ad hS (mc hS) ?_;rw[Lq,Ko.1,Ko.2.1];exact AP (.cons j8x (.cons (bg rfl) (.cons (AA _) .nil)))
 cbv;refine ad hS (mc hS) ?_;refine HO AE ci hS (σ:=P1) (fun s=>s.ok K l) (fun s=>nl-s.i)
  (fun s=>⟨dn [(1,.d (.sl 9 n se)),(3,.ptr 0 0),(5,.ptr 1 0),(6,.ptr 2 0),(7,int s.dep),(8,bool s.is),(29,int nl),(30,int s.i)] 86,[.var [.d9 (x0::x1:: .int .i64 (.v nl)::tl) 0],.var [bool a0,bool a1,bool a2,bool a3],.var [int s.bj,.bi 3 2 none s.bn AC,.bi 4 3 none s.bn AC],.arr 2 s.bn s.be,.arr 3 s.bn s.bp],s.mv⟩) ⟨0,AC,0,0,0,fun _=>[],fun _=>[],[]⟩ ?_ ?_ ?_
 ·exact⟨AH _,0,0,d8.Y5 K l,fun _=>⟨rfl,rfl,rfl⟩,fun h=>(by cases h)⟩
 ·refine (fp.gh 2 1 2 (fun _=>[]) rfl rfl).trans ((fp.gh 2 2 3 (fun _=>[]) rfl rfl).trans (fp.le ?_));exact bq rfl ⟨AA _,AA _,AA _,AA _,bg rfl,AA _,AA _,bg rfl,trivial⟩ (.cons (.refl _) (.cons (.refl _) (.cons (.var (.cons (bg rfl) (.cons (AA _) (.cons (AA _) .nil)))) (.cons (.refl _) (.cons (.refl _) (.nil _)))))) (by rw[gz];exact AH _) (.inr rfl) rfl
 rintro⟨i,is,dep,bj,bn,be,bp,mv⟩ ⟨hi,d0,j0,Kn,jn,HF⟩ N hN;simp only at hi Kn jn HF;rw[z8] at hi;have Ki:(∀n,¬K.sp n l i)->i<nl-> ∀mv',P1.ok K l ⟨i+1,is,dep,bj,bn,be,bp,mv'⟩:=fun h hil mv'=>⟨by rw[z8];exact hil,d0,j0,d8.Yg Kn h,jn,HF⟩;cbv;split
 rotate_left
 ·rename_i h;have aq:i=nl:=by have:=Int.ofNat_le.1 (s9 hS h);omega
  cbv;refine ad hS (tq hS (AR _)) (ad hS (tq hS (AR _)) ?_);rw[aq,<-z8] at Kn;obtain⟨hf,ht⟩:=d8.X2 Kn im;cases is
  ·obtain⟨g1,g2,g3⟩:=jn rfl;obtain⟨k1,k2,k3⟩:=AQ (z':=AC) (d':=0) (r':= .none) hz ⟨fun h=>(by cases h),fun _=>⟨rfl,rfl,hf rfl⟩⟩;rw[<-Pm,k1,k2,k3,g1,g2,g3];exact AP (.cons (AZ (.cons (br rfl) (.cons (AW rfl fun i hi=>absurd hi (AD i)) (.cons (AW rfl fun i hi=>absurd hi (AD i)) .nil)))) (.cons (br rfl) (.cons (AA _) .nil)))
  ·obtain⟨g0,g1,g2,g3,g4,g5⟩:=HF rfl;obtain⟨h1,h2⟩:=ht rfl;obtain⟨k1,k2,k3⟩:=AQ (z':=AJ) (d':=d0+1) (r':=K.bt (d0+1) l) hz ⟨fun _=>⟨h1,rfl⟩,fun h=>(by cases h)⟩;rw[<-Pm,k1,k2,k3,h2,g1,g2,g3,om.Ze];simp only[Jw,om.look,om.nc,om.nn,om.c,om.nx];rw[g3] at g4 g5;refine AP (.cons (AZ (.cons (AA _) (.cons (AW rfl fun t ht=>g4 t ht) (.cons (AW rfl fun t ht=> ?_) .nil)))) (.cons (AA _) (.cons (AA _) .nil)));rw[if_pos ht,if_pos ht];exact g5 t ht
 rename_i h;have hil:i<nl:=Aa.1 (ry hS h);have hga:ax (α:=AV) [.d (.bool a0),.d (.bool a1),.d (.bool a2),.d (.bool a3)] (Sg.fd 0 (Sg.wp (Sg.toNat (AF i)) 1))=some (.d (.bool (a i))):=by
  rw[e.fd,e.wp,e.toNat,<-If,<-M7,<-M8,<-Sz];obtain rfl|rfl|rfl|rfl:i=0\/i=1\/i=2\/i=3:=by omega
  ·rfl
  ·rfl
  ·rfl
  ·rfl
 have SO:qm (α:=AV) [.d (.bool a0),.d (.bool a1),.d (.bool a2),.d (.bool a3)] (Sg.fd 0 (Sg.wp (Sg.toNat (AF i)) 1)) [.d (.bool AJ)]=some [.d (.bool (a0||decide (0=i))),.d (.bool (a1||decide (1=i))),.d (.bool (a2||decide (2=i))),.d (.bool (a3||decide (3=i)))]:=by
  rw[e.fd,e.wp,e.toNat];obtain rfl|rfl|rfl|rfl:i=0\/i=1\/i=2\/i=3:=by omega
  ·simp[qm]
  ·simp[qm]
  ·simp[qm]
  ·simp[qm]
 have ihi:=fun Ig=>ih i hil Ig;obtain⟨b0,o7⟩:=xA (a0||decide (0=i));obtain⟨b1,Jc⟩:=xA (a1||decide (1=i));obtain⟨b2,Pt⟩:=xA (a2||decide (2=i));obtain⟨b3,hb3⟩:=xA (a3||decide (3=i));rw[o7,Jc,Pt,hb3] at SO ihi;cbv;simp only[gw,hga];refine ad hS (gf hS (show i<4 by omega)) ?_;obtain⟨ai,Ig⟩:=xA (a i);rw[Ig];cases ai
 rotate_left
 ·cbv;refine ad hS (ji hS (by omega)) ?_;exact hN _ _ (Ki (fun n h=>by have:=h.1;rw[hKA,Ig] at this;cases this) hil _) (by simp only;omega) (fp.le (bq rfl ⟨AA _,AA _,AA _,AA _,AA _,AA _,AA _,je hS,trivial⟩ (.same _) (by rw[gz];exact AH _) (.inr rfl) (Gn _)))
 have ihv:=ihi Ig;clear ihi ih;cbv;simp only[kg,SO];refine ad hS (gf hS (show i<4 by omega)) ?_;cbv;refine lj hS (ay.frame (k2q (.sl 9 n se) .nil i ⟨n,se,rfl⟩) [] rfl rfl trivial) ?_;rintro pg v H' ⟨pg0,v0,h0,⟨rfl,rfl,rfl⟩,rfl,rfl,rfl⟩;cbv;refine Q4 hS rfl ?_;have hXi: ∀q,F q i=K.X i q:=fun q=>(hKX i q).symm;obtain⟨Xi,hXe⟩: ∃X,K.X i=X:=⟨_,rfl⟩;obtain⟨NN,ta⟩:=xA ((cellsOf (K.X i) l).length);obtain⟨SS,ub⟩:=xB fun p:Nat=>(cellsOf (K.X i) l).getD p ⟨0,0⟩;have J4:NN<=1000000:=by rw[<-ta];exact AI (Ow _ _) GI
 obtain⟨tt,Qp⟩:=Classical.axiomOfChoice (fun p=>(show∃t:Bool×Nat×om,K.res (K.pt i l p) t.1 t.2.1 t.2.2 from by
  obtain⟨z,d,r,h⟩:=Ab K (K.pt i l p);exact⟨(z,d,r),h⟩))
 obtain⟨zf,hzf⟩:=xB fun p:Nat=>(tt p).1;obtain⟨df,hdf⟩:=xB fun p:Nat=>(tt p).2.1;obtain⟨rf,Qc⟩:=xB fun p:Nat=>(tt p).2.2;simp only[hzf,hdf,Qc] at Qp;have hpt: ∀p,K.pt i l p=ey (K.X i) (SS p) l:=fun p=>by rw[d8.pt,ub]
 have fq: ∀p,p<NN->df p<=4/\au AB AC 110 [.d9 qg 0,.d (.sl 9 (ey (K.X i) (SS p) l).length fun j=>WJ F g ((ey (K.X i) (SS p) l).getD j 0)),.agg [bool b0,bool b1,bool b2,bool b3]] (.tuple [(rf p).av,int (df p),bool (zf p)]):=fun p hp=>by rw[<-Nl];exact ihv (SS p) (by rw[<-ub];exact IZ (by omega)) (zf p) (df p) (rf p) (by rw[<-hpt];exact Qp p)
 obtain⟨mx,mq⟩:=xB fun p:Nat=>Xy df p;have hmx0:mx 0=0:=(mq 0).symm;have hmxs: ∀p,mx (p+1)=max (mx p) (df p):=fun p=>by rw[<-mq,<-mq];rfl
 have hg:=k3v (k:=13) (y:=10) (a:=8) (b:=9) (by decide) (by decide) (by decide)
  (fun p=>Jl qg a0 a1 a2 a3 bj bn be bp b0 b1 b2 b3 i (mx p) n se (L4 .ready) p (fun t=>(SS t).row) (fun t=>(rf t).row))
  (fun p=>Jl qg a0 a1 a2 a3 bj bn be bp b0 b1 b2 b3 i (mx p) n se (L4 (.done (.exit 1))) p (fun t=>(SS t).row) (fun t=>(rf t).row))
  (fun _=>rfl) (fun _=>rfl) (fun _=>rfl) (fun _=>rfl) l yz GI i (by omega) F g (fun q hq=>dp i hil q hq) (by rw[Il];rfl) rfl (K.X i) hXi SS ub NN ta zf [11,12] (by simp) ?_
 ·refine ay.VK 2 (fun _=>[]) ?_ (Ku _ _ _) (L7 (m:=6) (i:=1) rfl rfl);refine ay.VK 3 (fun _=>[]) ?_ (Ku _ _ _) (L7 (m:=6) (i:=2) rfl rfl);refine ay.heap (ay.mono ?_ hg) (.cons (.var (.cons (by rw[<-Nl];exact AA _) .nil)) (.cons (.refl _) (.cons (.refl _) (.cons (.refl _) (.cons (.refl _) (.cons (.refl _) (.cons (.refl _) (.cons (.var (.cons (bg (by rw[hmx0];rfl)) .nil)) (.cons (.refl _) (.cons (.refl _) (.cons (bx.loop (L1 rfl ⟨AA _,AA _,AA _,AA _,trivial⟩) fun a b h=>h) (.cons (.arr fun i hi=>absurd hi (AD i)) (.cons (.arr fun i hi=>absurd hi (AD i)) (.nil _)))))))))))))) rfl;rintro pg v H' ⟨rfl,rfl,eo⟩;refine⟨show (10:Nat)∉[11,12] by decide,?_⟩;rcases eo with⟨J5,rfl⟩|⟨p,hp,jl,eb,rfl⟩
  ·have hm: ∀t,t<NN->K.t4 (df t) (K.pt i l t):=fun t ht=>((Qp t).1 (J5 t ht)).1;obtain⟨s1,s2⟩:=d8.YL yz (K:=K) (i:=i) (by rw[hKA,Ig];rfl) (D:=df) (by rw[ta];exact hm);rw[ta,mq] at s1 s2;have hm4:mx NN<=4:=by rw[<-mq];exact k3l fun j hj=>(fq j hj).1
   have cm:(is=AJ->mx NN<d0)-> ∀mv',P1.ok K l ⟨i+1,AJ,mx NN+1,i,NN,fun t=>(SS t).row,fun t=>(rf t).row,mv'⟩:=fun hb mv'=>
    ⟨by rw[z8];exact hil,mx NN,i,d8.X3 Kn s1 s2 hb,fun h=>(by cases h),fun _=>⟨hm4,rfl,rfl,ta.symm,fun t ht=>by rw[ub],fun t ht=>by
      have h1:=(Qp t).1 (J5 t ht);simp only;have h2:=Ad h1.1.1 (show df t<=mx NN by rw[<-mq];exact k2n ht);rw[h1.2,h2]⟩⟩
   have hold:is=AJ->d0<=mx NN-> ∀mv',P1.ok K l ⟨i+1,is,dep,bj,bn,be,bp,mv'⟩:=fun h1 h2 mv'=>
    ⟨by rw[z8];exact hil,d0,j0,by subst h1;exact d8.X4 Kn s2 h2,jn,HF⟩
   refine⟨_,_,_,_,rfl,?_⟩;cbv;cases is
   ·cbv;refine ad hS (ji hS (by omega)) (ad hS (mc hS) (ad hS (ji hS (by omega)) ?_));refine hN _ _ (cm (fun h=>(by cases h)) _) (by simp only;omega) ((fp.le (bq (l:=[(1,.d (.sl 9 n se)),(3,.ptr 0 0),(5,.ptr 1 0),(6,.ptr 2 0),(7,int (mx NN+1:Nat)),(8,bool AJ),(29,int nl),(30,int (i+1:Nat))]) (n:=86) rfl ⟨AA _,AA _,AA _,AA _,je hS,AA _,AA _,je hS,trivial⟩ (.same _) (by rw[gz];exact AH _) (.inr rfl) (Gn _))).trans
     (fp.pack TJ (fun i hi=>by rw[gz] at hi;exact absurd hi (AD i)) (by rw[gz];exact AH _) (fun i j _ _ h=>by unfold TJ at h;split at h<;>split at h<;>omega) (Ae _) (fun j o ho=> ?_) rfl rfl))
    match j,ho with
    |0,ho=>cases ho;exact⟨_,rfl,.var (.cons (by rw[Nl];exact AA _) .nil)⟩
    |1,ho=>cases ho;exact⟨_,rfl,.refl _⟩
    |2,ho=>cases ho;exact⟨_,rfl,.refl _⟩
    |3,ho=>cases ho;exact⟨_,rfl,.refl _⟩
    |4,ho=>cases ho;exact⟨_,rfl,.refl _⟩
    |j+5,ho=>simp at ho
   ·have hb:Sg.Vu (Sg.t8 (AF (mx NN)) (AF 1)) (AF dep)=decide (mx NN<d0):=by rw[e.t8,e.Vu,(HF rfl).2.1];exact decide_eq_decide.2 ⟨fun h=>by simp only[AG] at h;omega,fun h=>by simp only[AG];omega⟩
    obtain⟨q,hq⟩:=xA (decide (mx NN<d0));rw[hq] at hb;cbv;refine ad hS (ji hS (by omega)) ?_;simp only[hb];cases q
    ·have hge:d0<=mx NN:=by have:=of_decide_eq_false hq;omega
     cbv;refine ad hS (ji hS (by omega)) ?_;refine hN _ _ (hold rfl hge _) (by simp only;omega) (fp.le (bq rfl ⟨AA _,AA _,AA _,AA _,AA _,AA _,AA _,je hS,trivial⟩ (.cons (.var (.cons (by rw[Nl];exact AA _) .nil)) (.cons (.refl _) (.cons (.refl _) (.cons (.refl _) (.cons (.refl _) (.nil _)))))) (by rw[gz];exact AH _) (.inl ⟨rfl,rfl⟩) (Gn _)))
    ·have hlt:mx NN<d0:=of_decide_eq_true hq;cbv;refine ad hS (ji hS (by omega)) (ad hS (mc hS) (ad hS (ji hS (by omega)) ?_));refine hN _ _ (cm (fun _=>hlt) _) (by simp only;omega) ((fp.le (bq (l:=[(1,.d (.sl 9 n se)),(3,.ptr 0 0),(5,.ptr 1 0),(6,.ptr 2 0),(7,int (mx NN+1:Nat)),(8,bool AJ),(29,int nl),(30,int (i+1:Nat))]) (n:=86) rfl ⟨AA _,AA _,AA _,AA _,je hS,AA _,AA _,je hS,trivial⟩ (.same _) (by rw[gz];exact AH _) (.inr rfl) (Gn _))).trans
      (fp.pack TJ (fun i hi=>by rw[gz] at hi;exact absurd hi (AD i)) (by rw[gz];exact AH _) (fun i j _ _ h=>by unfold TJ at h;split at h<;>split at h<;>omega) (Ae _) (fun j o ho=> ?_) rfl rfl))
     match j,ho with
     |0,ho=>cases ho;exact⟨_,rfl,.var (.cons (by rw[Nl];exact AA _) .nil)⟩
     |1,ho=>cases ho;exact⟨_,rfl,.refl _⟩
     |2,ho=>cases ho;exact⟨_,rfl,.refl _⟩
     |3,ho=>cases ho;exact⟨_,rfl,.refl _⟩
     |4,ho=>cases ho;exact⟨_,rfl,.refl _⟩
     |j+5,ho=>simp at ho
  ·refine⟨_,_,_,_,rfl,?_⟩;cbv;refine ad hS (ji hS (by omega)) ?_;refine hN _ _ (Ki (fun m hm=>((Qp p).2 eb).2.2 m (Ac hm (by rw[ta];exact hp))) hil _) (by simp only;omega) (fp.le (bq rfl ⟨AA _,AA _,AA _,AA _,AA _,AA _,AA _,je hS,trivial⟩ (.cons (.var (.cons (by rw[Nl];exact AA _) .nil)) (.cons (.refl _) (.cons (.refl _) (.cons (.refl _) (.cons (.refl _) (.nil _)))))) (by rw[gz];exact AH _) (.inl ⟨rfl,rfl⟩) (Gn _)))
 ·intro p nn pe hp Ko hlen Nj;obtain⟨h4,o5⟩:=fq p hp;obtain⟨lk,nc,n3,Cc,Ee,qi,ft⟩:=(rf p).Y9;rw[qi] at o5;refine k3b qg a0 a1 a2 a3 bj bn be bp b0 b1 b2 b3 i (mx p) (mx (p+1)) n se p _ _ _ _ nn pe (SS p).fault (SS p).n lk (df p) nc n3 Cc Ee (zf p) (by omega) (o5.LE (.cons (AA _) (.cons (AW hlen.symm fun j hj=>Nj j hj) (.cons (AA _) .nil)))) (fun j _=> .refl _) rfl (fun j _=> .refl _) (fun _=>by rw[ft];exact .refl _) (fun _=> ?_);rw[hmxs];split<;>omega
theorem d8.Yd {K:d8}{l:List Nat}{d:Nat}(h:K.t4 d l):d<=K.nl:=by have:=d8.XI K (AS K.nl) l d (fun i hi _ hn=>absurd (AY.2 hi) hn) h.1;rw[List.length_range] at this;exact Nat.le_of_not_lt fun hlt=>h.2 _ hlt this
theorem d8.XV {K:d8}{l:List Nat}{z:Bool}{d:Nat}{r:om}(h:K.res l z d r):d<=K.nl:=by
 cases z with
 |true=>exact d8.Yd (h.1 rfl).1
 |false=>rw[(h.2 rfl).1];exact AH _
theorem k3t {nl:Nat}(jy:nl<=4)(x0 x1:DV)(tl:List DV)(F:Nat->Nat->g8)(g:Nat->Bool): ∀(m:Nat) (a:Nat->Bool) (l:List Nat),((AS nl).filter fun j=>!(a j)).length=m->(∀j,nl<=j->a j=AC)->l≠[]->l.length<=1000000->
 (∀i,i<nl-> ∀q,q∈l->gb (F q i)/\0<=(F q i).fault)-> ∀z d r,d8.res ⟨nl,fun j=>!(a j),fun i q=>F q i,g⟩ l z d r->
 au AB AC 110 [.d9 (x0::x1:: .int .i64 (.v nl)::tl) 0,.d (.sl 9 l.length fun j=>WJ F g (l.getD j 0)),.agg [bool (a 0),bool (a 1),bool (a 2),bool (a 3)]] (.tuple [r.av,int d,bool z]):=by
 intro m
 induction m using Nat.strongRecOn with
 |ind m ih=>
  intro a l hm ha yz GI dp z d r hz;refine k3a jy x0 x1 tl F g a ha yz GI dp (K:=⟨nl,fun j=>!(a j),fun i q=>F q i,g⟩) rfl (fun i hi Ig v hv z d r hr=> ?_) z d r hz;have hwo:d8.wo ⟨nl,fun j=>!(a j),fun i q=>F q i,g⟩ i=⟨nl,fun j=>!(a j||decide (j=i)),fun i q=>F q i,g⟩:=by unfold d8.wo;congr 1;funext j;by_cases e:j=i<;>simp[e]
  have mb:=(d8.YI (i:=i) k0v).2 hr;have hle:=d8.XV hr;refine⟨AI hle jy,?_⟩;rw[hwo] at mb;refine ih _ ?_ (fun j=>a j||decide (j=i)) (ey _ v l) rfl (fun j hj=>by rw[ha j hj,decide_eq_false (by omega)];rfl) (j9e hv) (AI (AT _ _) GI) (fun i hi q hq=>dp i hi q (Kw.1 hq).1) z d r mb;rw[<-hm];have e1:((AS nl).filter fun j=>!(a j||decide (j=i)))=((AS nl).filter fun j=>!(a j)).filter fun j=>!(decide (j=i)):=by rw[List.filter_filter];congr 1;funext j;cases a j<;>simp
  rw[e1];exact List.length_filter_lt_length_iff_exists.2 ⟨i,List.mem_filter.2 ⟨AY.2 hi,by simp[Ig]⟩,by simp⟩
theorem k3x (x0 x1 x2 x3:DV)(n:Nat)(e4:Nat->List DV){r:om}{d:Int}{z:Bool}(o5:au AB AC 110 [.d9 [x0,x1,x2,x3,.sl 9 n e4] 0,.d (.sl 9 n e4),.agg [bool AC,bool AC,bool AC,bool AC]] (.tuple [r.av,int d,bool z])):
 au AB AC 109 [.d9 [x0,x1,x2,x3,.sl 9 n e4] 0] (.tuple [r.av,int d,bool z]):=by
 obtain⟨lk,nc,nn,C,D,h1,_⟩:=r.Y9;rw[h1] at o5⊢;refine cr AE ci e9w _ rfl fun E Sg gz hS=> ?_;cbv;refine bf hS _ o5 ?_;cbv;exact AA _
theorem k4f (A B:g7){ns no nl n:Nat}{sz od:Nat->Int}{lk:Nat->g7}{x0 x1 x2 x3:DV}{e4:Nat->List DV}{r:om}{d:Int}{z:Bool}(hz:z=AC->r= .none/\d=0)
 (vx:au AB AC 108 [ac ns sz,ac no od,Wg nl lk,A.av,B.av] (.tuple [.d9 [x0,x1,x2,x3,.sl 9 n e4] 0,int 0])) (Lc:au AB AC 109 [.d9 [x0,x1,x2,x3,.sl 9 n e4] 0] (.tuple [r.av,int d,bool z])):
 au AB AC 73 [ac ns sz,ac no od,Wg nl lk,A.av,B.av] (.tuple [r.av,int d,int (if z=AJ then 0 else 7)]):=by
 obtain⟨ins,pn,ino,pk,ph,pf,nr,gr,pj,gq,dh⟩:=A;obtain⟨oy,o4,ow,oz,oi,gen,ov,gj,ot,gi,db⟩:=B;obtain⟨lk',nc,nn,C,D,h1,_⟩:=r.Y9;have h2:z=AC->ab (.agg [.d (.int .i64 (.l (.ofNat 0))),.d .nil,.d .nil]) r.av/\d=0:=fun h=>by obtain⟨h1,h2⟩:=hz h;rw[h1];exact⟨j8x,h2⟩
 rw[h1] at Lc h2⊢;clear h1 hz;cases z
 ·obtain⟨g1,g2⟩:=h2 rfl;refine cr AE ci h2b _ rfl fun E Sg gz hS=> ?_;have e:=fh hS;cbv;refine bf hS _ vx ?_;cbv;simp only[e.md,e.jp];cbv;refine bf hS _ Lc ?_;cbv;exact AP (.cons g1 (.cons (bg g2.symm) (.cons (bg rfl) .nil)))
 ·refine cr AE ci h2b _ rfl fun E Sg gz hS=> ?_;have e:=fh hS;cbv;refine bf hS _ vx ?_;cbv;simp only[e.md,e.jp];cbv;refine bf hS _ Lc ?_;cbv;exact AP (.cons (AA _) (.cons (AA _) (.cons (bg rfl) .nil)))
theorem k3m (c:i6)(nu:c.ns<=8)(jn:c.no<=8)(jy:c.nl<=6)(hl: ∀i,i<c.nl->(c.lk i).fit)(hi:c.nr.fit)(hg:c.goal.fit){r:om}{d er:Int}(Zc:au AB AC 73 [ac c.ns c.sz,ac c.no c.od,Wg c.nl c.lk,c.nr.av,c.goal.av] (.tuple [r.av,int d,int er])):
 au AB AC 20 [c.av] (.tuple [r.av,int d,int er]):=by
 have q1:=L2 (n:=c.ns) (by omega) c.sz;have q2:=L2 (n:=c.no) (by omega) c.od;have q3:=h9z c.nl (by omega) c.lk hl;have q4:=K9 c.nr hi;have q5:=K9 c.goal hg;obtain⟨lk',nc,nn',C,D,h1,_⟩:=r.Y9;rw[h1] at Zc⊢;obtain⟨ns,sz,no,od,nl,lk,⟨ins,pn,ino,pk,ph,pf,nr,gr,pj,gq,dh⟩,⟨oy,o4,ow,oz,oi,gen,ov,gj,ot,gi,db⟩⟩:=c;simp only[i6.av,g7.cs,AM,AN] at*
 refine cr AE ci g7i _ rfl fun E Sg gz hS=> ?_;have e:=fh hS;cbv
 repeat' (first|(refine bf hS _ q1 ?_;cbv)|(refine bf hS _ q2 ?_;cbv)|(refine bf hS _ q3 ?_;cbv)|(refine bf hS _ q4 ?_;cbv)|(refine bf hS _ q5 ?_;cbv)|(refine bf hS _ Zc ?_;cbv)|refine ad hS (mc hS) ?_)
 exact AA _
theorem Mt.cellAt {d:g7}(hd:Mt d)(hf:d.fit){T:Nat}(hT:(T:Int)=dv d.sz d.ns){p:Nat}(hp:p<T): ∃i,i<d.ne/\d.cell p=d.en i:=by obtain⟨_,h2,_⟩:=IU hd.fr;have qk:=(HW (n:=d.ns) (fun j hj=>(h2 j hj).1) p (by rw[<-hT];exact Aa.2 hp)).1;have hw:=(i6j d hd.loose hf (js d.sz d.ns p) fun j hj=>qk j hj).1;exact⟨(-1-jj d (js d.sz d.ns p) d.root).toNat,by have:=hw.1;have:=hw.2 (by omega);omega,rfl⟩
theorem i6.ok.cell {c:i6}{T:Nat}(h:c.ok T){i:Nat}(hi:i<c.nl+2){p:Nat}(hp:p<T):gb (c.X i p)/\0<=(c.X i p).fault:=by obtain⟨j,hj,e⟩:=(h.di i hi).cellAt (h.fit.dg i hi) (h.Td i hi) hp;unfold i6.X;rw[e];exact⟨(h.di i hi).loose.1 j hj,h.fit.Yu i hi j hj⟩
theorem k3f:QK.ok:=⟨⟨by decide,by decide⟩,by decide,by decide,fun i hi=>absurd hi (AD i),fun i hi=>absurd hi (AD i)⟩
theorem d8.Y1 (K:d8)(h4:K.nl<=4): ∀(n:Nat) (l:List Nat),K.can n l->l.length<=1000000->(∀i,i<K.nl-> ∀p,p∈l->gb (K.X i p)/\0<=(K.X i p).fault)->(K.bt n l).ok:=by
 intro n
 induction n with
 |zero=>intro l _ _ _;exact k3f
 |succ n ih=>
  intro l h hl dp;by_cases hc:K.can n l
  ·rw[Ad hc (by omega)];exact ih l hc hl dp
  have hm:K.t4 (n+1) l:=⟨h,fun m hm qq=>hc (d8.Wt qq (by omega))⟩;obtain⟨f1,f2,f3⟩:=hm.fst;rw[f3];generalize mi (K.sp n l) K.nl=i at f1 f2 f3⊢;have ig:(cellsOf (K.X i) l).length<=1000000:=AI (Ow _ _) hl;refine⟨⟨by omega,by omega⟩,by omega,by omega,fun j hj=> ?_,fun j hj=> ?_⟩
  ·obtain⟨p,hp,hx⟩:=wk.1 (IZ (show j<(cellsOf (K.X i) l).length from hj));show (0<=((cellsOf (K.X i) l).getD j ⟨0,0⟩).fault/\((cellsOf (K.X i) l).getD j ⟨0,0⟩).fault<=255)/\rq ((cellsOf (K.X i) l).getD j ⟨0,0⟩).n;rw[<-hx];obtain⟨g1,g2⟩:=dp i f1 p hp;exact g1.bd g2
  ·show om.ok (if j<(cellsOf (K.X i) l).length then K.bt n (K.pt i l j) else .none);rw[if_pos hj];exact ih _ (Ac f2 hj) (AI (AT _ _) hl) fun i' fw p hp=>dp i' fw p (Kw.1 hp).1
noncomputable def i6.K (c:i6):d8:=⟨c.nl,fun _=>AJ,c.X,c.G⟩
def i6.F (c:i6)(q k:Nat):g8:=XD c.nl c.X k q
noncomputable def i6.Kp (c:i6)(a:Nat->Bool):d8:=⟨c.nl,fun j=>!(a j),fun i q=>c.F q i,c.G⟩
theorem i6.Ys (c:i6)(l:List Nat):c.K.same (c.Kp fun _=>AC) l:=
 ⟨rfl,fun _ _=>rfl,fun i hi p _=>by show c.X i p=XD c.nl c.X i p;unfold XD;rw[if_pos (show i<c.nl from hi)],fun _ _ _ _=>Iff.rfl⟩
structure i6.Zg (c:i6)(T:Nat)(z:Bool)(d:Nat)(r:om):Prop where
 res:c.K.res (c.P T) z d r
 le:d<=4
 ok:r.ok
 Zc:au AB AC 73 [ac c.ns c.sz,ac c.no c.od,Wg c.nl c.lk,c.nr.av,c.goal.av] (.tuple [r.av,int d,int (if z=AJ then 0 else 7)])
theorem i6.ok.Zg {c:i6}{T:Nat}(h:c.ok T)(hT:T<=36)(fz:0<(c.P T).length)
 (vx:au AB AC 108 [ac c.ns c.sz,ac c.no c.od,Wg c.nl c.lk,c.nr.av,c.goal.av] (.tuple [.d9 (Rl c.ns c.sz c.no c.od c.nl (c.P T).length (fun j=>(c.W T j:Int)) c.X c.G) 0,int 0])): ∃z d r,c.Zg T z d r:=by
 obtain⟨z,d,r,hz⟩:=Ab c.K (c.P T);have hlen:(c.P T).length<=T:=Q0 _ T;have gm: ∀p,p∈c.P T->p<T:=fun p hp=>((i0h _ T _).1 hp).1;have hle:d<=4:=AI (d8.XV hz) h.nl;have jk: ∀i,i<c.nl-> ∀p,p∈c.P T->gb (c.X i p)/\0<=(c.X i p).fault:=fun i hi p hp=>h.cell (by omega) (gm p hp);refine⟨z,d,r,hz,hle,?_,?_⟩
 ·cases z with
  |true=>obtain⟨h1,h2⟩:=hz.1 rfl;rw[h2];exact d8.Y1 c.K h.nl d _ h1.1 (by omega) jk
  |false=>rw[(hz.2 rfl).2.1];exact trivial
 ·have o5:=k3t h.nl (.sl 1 c.ns fun i=>[.int .i64 (.v (c.sz i))]) (.sl 1 c.no fun i=>[.int .i64 (.v (c.od i))]) [.sl 1 (c.P T).length fun j=>[.int .i64 (.v (c.W T j:Int))],.sl 9 (c.P T).length fun j=>WJ c.F c.G ((c.P T).getD j 0)] c.F c.G _ (fun _=>AC) (c.P T) rfl (fun _ _=>rfl) (AO.1 fz) (by omega) (fun i hi q hq=>by
   show gb (XD c.nl c.X i q)/\0<=(XD c.nl c.X i q).fault;unfold XD;rw[if_pos hi];exact jk i hi q hq) z d r ((c.Ys _).res.1 hz)
  exact k4f _ _ (fun e=>⟨(hz.2 e).2.1,by rw[(hz.2 e).1];rfl⟩) vx (k3x _ _ _ _ _ _ o5)
theorem k6u (c:i6)(Lh:au AB AJ 18 [c.av] (bool AC)):au AB AJ 48 [c.av] (bool AC):=by
 obtain⟨ns,sz,no,od,nl,lk,⟨ins,pn,ino,pk,ph,pf,nr,gr,pj,gq,dh⟩,⟨oy,o4,ow,oz,oi,gen,ov,gj,ot,gi,db⟩⟩:=c;simp only[i6.av,g7.cs,AM,AN] at*
 refine j6 (cr AE ci k6z _ rfl fun E Sg gz hS=> ?_);cbv;refine bf hS _ Lh ?_;cbv;exact AA _
theorem k6t (c:i6){a k1 k2:DV}{er:Int}(Lh:au AB AJ 18 [c.av] (bool AJ))(h21:au AB AC 21 [c.av] (.tuple [.d a,.agg [.d k1,.d k2],int er])){z:Bool}(hz:z=(er==0)):au AB AJ 48 [c.av] (bool z):=by
 obtain⟨ns,sz,no,od,nl,lk,⟨ins,pn,ino,pk,ph,pf,nr,gr,pj,gq,dh⟩,⟨oy,o4,ow,oz,oi,gen,ov,gj,ot,gi,db⟩⟩:=c;simp only[i6.av,g7.cs,AM,AN] at*
 refine j6 (cr AE ci k6z _ rfl fun E Sg gz hS=> ?_);have e:=fh hS;cbv;refine bf hS _ Lh ?_;cbv;refine bf hS _ h21 ?_;cbv;have eb:Sg.md er (AF 0)=z:=by rw[e.md,hz];rfl
 simp only[eb];exact AA _
def ZJ:gy×gy:=match r_ with
 | .seq _ (.seq _ (.seq _ (.seq _ (.seq _ (.seq (.seq _ (.block _ (.range _ _ a b))) _)))))=>(a,b)
 |_=>(.ret,.ret)
def QM (s:Wz):ae:= .loop s (dn [(17,.ptr 2 0),(18,.ptr 3 0)] 69) [56,57] (fun ca cb=>comp AB YO.A ca=some ZJ.1/\comp AB YO.A cb=some ZJ.2)
def Nh (A B:List DV)(i:Int)(sn:Nat)(se:Nat->List DV)(lp:ae)(p:Nat)(ce pe:Nat->List DV):List ae:=
 [.var (A.map .d),.var (B.map .d),.var [.bi 7 2 none p AC],.var [.bi 8 1 none p AC],.var [.d (.sl 9 sn se)],.var [int i],lp,.arr 2 p ce,.arr 1 p pe]
theorem k6d (a0 a1 a2 a3 a4 b0 b1 b2 b3 b4:DV)(i:Int)(sn:Nat)(se:Nat->List DV)(p:Nat)(ce pe IN Jx:Nat->List DV)(n:Nat)(e9:Nat->List DV)(vf vn:Int)
 (hp:p<=1000000) (Je: ∀j,j<p->RL (ce j) (IN j)) (Lu:IN p=[.int .u8 (.v vf),.int .i64 (.v vn)]) (Nj: ∀j,j<p->RL (pe j) (Jx j)) (LI:Jx p=[.int .i64 (.v n)]):
 lh AB 6 [.agg [u8 vf,int vn],.bi 9 9 none n AC] (ba (Nh [a0,a1,a2,a3,a4] [b0,b1,b2,b3,b4] i sn se (QM .ready) p ce pe) [.arr 9 n e9])
  (fun pg v h'=>(∀x,x∈pg->x∈[7,8])/\v= .d (.bool AJ)/\ ∃o,h'=ba (Nh [a0,a1,a2,a3,a4] [b0,b1,b2,b3,b4] i sn se (QM .ready) (p+1) IN Jx) [o]):=by
 refine lh.cut (Mr AE ci (A:=YO.A) rfl (fun _ _ h=>h) rfl fun ro E Sg hS=> ?_);have e:=fh hS;cbv;refine⟨fun h=>(nomatch h),_,_,_,rfl,?_⟩;cbv;refine ad hS trivial (ad hS (uh hS (by omega)) (ad hS (mc hS) (ad hS trivial (ad hS (uh hS (by omega)) ?_))));refine⟨fun h=>(by rcases h with _|⟨_,h⟩<;>rcases h with _|⟨_,h⟩<;>cases h),_,_,_,rfl,[8,7],fun m _ h=>h,?_⟩;refine⟨ba (Nh [a0,a1,a2,a3,a4] [b0,b1,b2,b3,b4] i sn se (QM .ready) (p+1) IN Jx) [.arr 9 n e9],.d (.bool AJ),?_,AA _,by simp[Nh,ba],.inl ⟨rfl,rfl⟩,fun x h=> ?_,rfl,_,rfl⟩
 ·exact .cons (.refl _) (.cons (.refl _) (.cons (.var (.cons (w7 hS) .nil)) (.cons (.var (.cons (w7 hS) .nil)) (.cons (.refl _) (.cons (.refl _) (.cons (.refl _)
   (.cons (yc hS Je (by rw[Lu];exact .refl _)) (.cons (yc hS Nj (by rw[LI];exact .one (DL.int (e.ofNat n)))) (.cons (.refl _) (.nil _))))))))))
 ·simp only[List.mem_cons,List.not_mem_nil,or_false] at h⊢;omega
theorem k6e (A B:g7){ns no nl:Nat}{sz od:Nat->Int}{lk:Nat->g7}{x0 x1 x2 x3:DV}{l:List Nat}(yz:l≠[])(GI:l.length<=1000000)(F:Nat->Nat->g8)(g:Nat->Bool){i:Nat}(hi:i<nl)(hi4:i<4)
 (dp: ∀q,q∈l->gb (F q i)/\0<=(F q i).fault)
 (G5:au AB AC 131 [ac ns sz,ac no od,Wg nl lk,A.av,B.av] (.tuple [.d9 [x0,x1,x2,x3,.sl 9 l.length fun j=>WJ F g (l.getD j 0)] 0,int 0]))
 (X:Nat->g8) (hX: ∀q,F q i=X q):
 au AB AC 97 [ac ns sz,ac no od,Wg nl lk,A.av,B.av,int i] (.tuple [d7 (cellsOf X l).length fun j=>(cellsOf X l).getD j ⟨0,0⟩,ac (cellsOf X l).length fun j=>((ey X ((cellsOf X l).getD j ⟨0,0⟩) l).length:Int),int 0]):=by
 obtain⟨ins,pn,ino,pk,ph,pf,nr,gr,pj,gq,dh⟩:=A;obtain⟨oy,o4,ow,oz,oi,gen,ov,gj,ot,gi,db⟩:=B;have fz:0<l.length:=AO.2 yz;obtain⟨n,hn⟩:=xA l.length;obtain⟨se,SV⟩: ∃f:Nat->List DV,(fun j=>WJ F g (l.getD j 0))=f:=⟨_,rfl⟩;have Il:DV.sl 9 l.length (fun j=>WJ F g (l.getD j 0))= .sl 9 n se:=by rw[hn,SV]
 rw[Il] at G5;obtain⟨NN,ta⟩:=xA ((cellsOf X l).length);obtain⟨SS,ub⟩:=xB fun p:Nat=>(cellsOf X l).getD p ⟨0,0⟩;obtain⟨MM,hMM⟩:=xB fun p:Nat=>(ey X (SS p) l).length;have J4:NN<=1000000:=by rw[<-ta];exact AI (Ow _ _) GI
 simp only[ta,ub,hMM];refine cr AE ci g6b _ rfl fun E Sg gz hS=> ?_;have e:=fh hS;cbv;refine bf hS _ G5 ?_;cbv;simp only[e.md,e.jp];cbv;have h1:Sg.Vu (AF i) (AF 0)=AC:=by rw[e.Vu];exact decide_eq_false (by simp only[AG];omega)
 have h2:Sg.WA (Sg.ofNat nl) (AF i)=AC:=by rw[e.WA,e.ofNat];exact decide_eq_false (by simp only[AG];omega)
 have h3:Sg.md (Sg.ofNat n) (AF 0)=AC:=by rw[e.md,e.ofNat];exact beq_false_of_ne (by simp only[AG];omega)
 simp only[h1];cbv;simp only[h2];cbv;simp only[h3];cbv;refine lj hS (ay.frame (k2q (.sl 9 n se) .nil i ⟨n,se,rfl⟩) [] rfl rfl trivial) ?_;rintro pg v H' ⟨pg0,v0,h0,⟨rfl,rfl,rfl⟩,rfl,rfl,rfl⟩;cbv;refine Q4 hS rfl ?_;have hg:=k3v (k:=9) (y:=6) (a:=4) (b:=5) (by decide) (by decide) (by decide)
  (fun p=>Nh [.sl 1 ins fun i=>[.int .i64 (.v (pn i))],.sl 1 ino fun i=>[.int .i64 (.v (pk i))],.sl 2 ph fun i=>(pf i).row,.sl 2 nr fun i=>[.int .i64 (.v (gr i)),.sl 1 (pj i) fun j=>[.int .i64 (.v (gq i j))]],.int .i64 (.v dh)]
    [.sl 1 oy fun i=>[.int .i64 (.v (o4 i))],.sl 1 ow fun i=>[.int .i64 (.v (oz i))],.sl 2 oi fun i=>(gen i).row,.sl 2 ov fun i=>[.int .i64 (.v (gj i)),.sl 1 (ot i) fun j=>[.int .i64 (.v (gi i j))]],.int .i64 (.v db)] i n se (QM .ready) p (fun t=>(SS t).row) (fun t=>[.int .i64 (.v (MM t))]))
  (fun p=>Nh [.sl 1 ins fun i=>[.int .i64 (.v (pn i))],.sl 1 ino fun i=>[.int .i64 (.v (pk i))],.sl 2 ph fun i=>(pf i).row,.sl 2 nr fun i=>[.int .i64 (.v (gr i)),.sl 1 (pj i) fun j=>[.int .i64 (.v (gq i j))]],.int .i64 (.v dh)]
    [.sl 1 oy fun i=>[.int .i64 (.v (o4 i))],.sl 1 ow fun i=>[.int .i64 (.v (oz i))],.sl 2 oi fun i=>(gen i).row,.sl 2 ov fun i=>[.int .i64 (.v (gj i)),.sl 1 (ot i) fun j=>[.int .i64 (.v (gi i j))]],.int .i64 (.v db)] i n se (QM .ready) p (fun t=>(SS t).row) (fun t=>[.int .i64 (.v (MM t))]))
  (fun _=>rfl) (fun _=>rfl) (fun _=>rfl) (fun _=>rfl) l yz GI i hi4 F g dp (by rw[Il];rfl) rfl X hX SS ub NN ta (fun _=>AJ) [7,8] (by simp) ?_
 ·refine ay.VK 2 (fun _=>[]) ?_ (Ku _ _ _) (L7 (m:=2) (i:=0) rfl rfl);refine ay.VK 1 (fun _=>[]) ?_ (Ku _ _ _) (L7 (m:=3) (i:=0) rfl rfl);refine ay.heap (ay.mono ?_ hg) (.cons (.refl _) (.cons (.refl _) (.cons (.refl _) (.cons (.refl _) (.cons (.refl _) (.cons (.refl _) (.cons (bx.loop (L1 rfl ⟨AA _,AA _,trivial⟩) fun a b h=>h) (.cons (.arr fun i hi=>absurd hi (AD i)) (.cons (.arr fun i hi=>absurd hi (AD i)) (.nil _)))))))))) rfl;rintro pg v H' ⟨rfl,rfl,eo⟩;refine⟨show (6:Nat)∉[7,8] by decide,?_⟩;rcases eo with⟨_,rfl⟩|⟨p,_,_,hz,_⟩
  ·refine⟨_,_,_,_,rfl,?_⟩;cbv;refine ad hS (tq hS (AR _)) (ad hS (tq hS (AR _)) ?_);exact AP (.cons (AA _) (.cons (AA _) (.cons (bg rfl) .nil)))
  ·cases hz
 ·intro p m pe hp _ hlen Nj;exact k6d _ _ _ _ _ _ _ _ _ _ _ _ _ p _ _ _ _ m pe (SS p).fault (SS p).n (by omega) (fun j _=> .refl _) rfl (fun j _=> .refl _) (by rw[<-hMM,hlen])
theorem k5p (c:i6)(nu:c.ns<=8)(jn:c.no<=8)(jy:c.nl<=6)(hl: ∀i,i<c.nl->(c.lk i).fit)(hi:c.nr.fit)(hg:c.goal.fit){x:Int}{u v:DV}{er:Int}(h97:au AB AC 97 [ac c.ns c.sz,ac c.no c.od,Wg c.nl c.lk,c.nr.av,c.goal.av,int x] (.tuple [.d u,.d v,int er])):
 au AB AC 58 [c.av,int x] (.tuple [.d u,.d v,int er]):=by
 have q1:=L2 (n:=c.ns) (by omega) c.sz;have q2:=L2 (n:=c.no) (by omega) c.od;have q3:=h9z c.nl (by omega) c.lk hl;have q4:=K9 c.nr hi;have q5:=K9 c.goal hg;obtain⟨ns,sz,no,od,nl,lk,⟨ins,pn,ino,pk,ph,pf,nr,gr,pj,gq,dh⟩,⟨oy,o4,ow,oz,oi,gen,ov,gj,ot,gi,db⟩⟩:=c;simp only[i6.av,g7.cs,AM,AN] at*
 refine cr AE ci g8o _ rfl fun E Sg gz hS=> ?_;have e:=fh hS;cbv
 repeat' (first|(refine bf hS _ q1 ?_;cbv)|(refine bf hS _ q2 ?_;cbv)|(refine bf hS _ q3 ?_;cbv)|(refine bf hS _ q4 ?_;cbv)|(refine bf hS _ q5 ?_;cbv)|(refine bf hS _ h97 ?_;cbv)|refine ad hS (mc hS) ?_)
 exact AA _
end Go.Proofs.Tryz.Run
