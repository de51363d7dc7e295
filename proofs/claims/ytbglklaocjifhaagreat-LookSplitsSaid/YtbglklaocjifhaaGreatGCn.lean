/- LookSplits answers true. Conditions: none. -/
import Derived.Test.YtbglklaocjifhaaGreatGJp
open Go.Vf.ab renaming refl->AA,Zx->AT
open Go.Proofs.Tryz renaming prog->AB
open Int renaming ofNat->AC,ofNat_eq_natCast->AH,toNat_natCast->AJ,le_refl->AS
open Bool renaming false->AD,true->AF
open Go.Proofs.YtbglklaocjifhaaGreat.Tryz renaming mixed->AE
open List renaming length_append->AG,length_pos_iff->AI,cons_append->AK,nil_append->AN,getElem?_eq_getElem->AO,length_pos_of_mem->AP
open Nat renaming lt_succ_self->AL,le_refl->AM,le_trans->AQ,zero_le->AR,mod_lt->AU
set_option linter.unusedSimpArgs false
set_option linter.unusedVariables false
set_option maxHeartbeats 0
set_option maxRecDepth 100000
namespace Go.Proofs.Tryz.Run
open Go Go.Vf Go.Proofs
open Go.Proofs.YtbglklaocjifhaaGreat
theorem ab.Zi {sz n m:Nat}{e e':Nat->List DV}(hn:n=m)(h: ∀i,e i=e' i):ab (.lm sz n e) (.lm sz m e'):=by obtain rfl:e=e':=funext h;subst hn;exact .refl _
theorem m0j (n:Nat)(l:Nat->g7):ay AB 100 [Wg n l] [] (fun pg v h'=>pg=[]/\v= .lm 5 n (fun i=>(l i).row)/\h'=[]):=by refine mh AE ci m2m rfl fun E Sg hb hS F hF=> ?_;have e:=fh hS;cbv;refine ad hS (HH hS (by omega)) (ad hS (HH hS (by simp only[e.ofNat];omega)) (ad hS (HH hS (AS _)) (ad hS trivial ?_)));exact⟨[],fun _ h=>absurd h (Nat.not_lt_zero _),hF (.nil _) (ab.Zi (by simp only[e.T9,e.toNat,e.ofNat,AJ,Nat.sub_zero]) fun _=>rfl) (AM _) (.inr rfl) ⟨rfl,rfl,rfl⟩⟩
theorem l8a {n:Nat}(hn:1<=n/\n<=1000)(l:Nat->g7)(hE: ∀i,i<n->s8 (l i)=0)(hf: ∀i,i<n->(l i).fit)(h0: ∀i,i<n-> ∀j,j<(l i).ne->0<=((l i).en j).fault)(jn: ∀i,i<n->(l i).no<=12)
 (hs: ∀i,i<n->L (l i).ns (l i).sz=L (l 0).ns (l 0).sz/\L (l i).no (l i).od=L (l 0).no (l 0).od):au AB AF 99 [Wg n l] (int 0):=by
 have Lf:=fun i hi=>U1 (l i) (hf i hi) (h0 i hi) (jn i hi) 0 (hE i hi);have Lg:=j5s (ns:=(l 0).ns) (no:=(l 0).no) (l 0).sz (l 0).od (n:=n) (by omega) l (fun i hi=>⟨(hf i hi).ns,(hf i hi).no⟩) AF (by simpa using hs);clear hE hf h0 jn hs;refine su (cr AE ci h0e _ rfl fun E Sg hb hS=> ?_);have e:=fh hS;cbv;refine gg AE ci hS (fun i=>i<=n) (fun i=>n-i)
  (fun i=>⟨dn [(0,Wg n l),(6,Wg n l),(7,int n),(8,int i)] 31,[],[]⟩) 0 (by omega) ?_ ?_
 ·exact bq rfl ⟨AA _,AA _,br (e.ofNat _),bg rfl,trivial⟩ (.same _) (by simp;omega) (.inr rfl) rfl
 rintro i hi N hN;cbv;split
 ·rename_i h;have hlt:i<n:=Int.ofNat_lt.1 (ry hS h);have h1:=Lf i hlt;cbv;simp only[nat,e.toNat,AH,AJ];refine ad hS (gf hS hlt) ?_;refine bf hS _ h1 ?_;cbv;split
  ·rename_i h;exact absurd rfl (e8q hS h)
  cbv;refine ad hS (ji hS (by omega)) ?_;exact hN (i+1) _ hlt (by omega) (bq rfl ⟨AA _,AA _,AA _,je hS,trivial⟩ (.nil _) (by simp;omega) (.inl ⟨rfl,rfl⟩) rfl)
 ·cbv;refine ad hS (gf hS (by omega)) (ad hS (gf hS (by omega)) ?_);have e0:nat Sg (IX.l (AC 0))=0:=rfl;simp only[e0];refine lu hS Lg ?_;cbv;exact bg rfl
theorem m1t:ab (.d (.sl 1 1 (Vf.rowAt [[.int .i64 (.l (AC 0))]]))) (.d (.sl 1 1 fun _=>[.int .i64 (.v 0)])):=AT rfl fun i hi=>by
 obtain rfl:i=0:=by omega
 exact RL.one (DL.int rfl)
theorem Gt.len {T:Nat}{M:Nat->Bool}{X:Nat->g8}{t:List (g8×Nat)}(h:Gt T M X t):t.length<=T:=by
 have h1: ∀l:List (g8×Nat),(∀e,e∈l->0<e.2)->l.length<=Ok l fun _=>1:=fun l=>by
  induction l with
  |nil=>intro _;exact AM _
  |cons e l ih=>intro hp;have:=ih fun x hx=>hp x (List.mem_cons_of_mem _ hx);have:=hp e (by simp);simp only[Ok,List.length_cons];omega
 have h2:=h1 t h.pos;have h3:=h.sum fun _=>1;have h4:=m0l (n:=T) (f:=fun q=>if M q=AF then 1 else 0) (g:=fun _=>1) fun i _=>by split<;>omega
 rw[Me] at h4;omega
def u6 (a b:g7)(i:Nat):g7:=if i=0 then a else b
theorem m1i {a b:g7}(ha:s8 a=0)(hb:s8 b=0)(fa:a.fit)(fb:b.fit)(a0: ∀j,j<a.ne->0<=(a.en j).fault)(b0: ∀j,j<b.ne->0<=(b.en j).fault)(hs:L b.ns b.sz=L a.ns a.sz/\L b.no b.od=L a.no a.od):nh 2 (u6 a b) a.ns a.no a.sz a.od:=by
 have key: ∀{P:g7->Prop},P a->P b-> ∀i,i<2->P (u6 a b i):=fun h1 h2 i _=>by
  unfold u6;split
  ·exact h1
  ·exact h2
 exact⟨by omega,(MO ha).fr,key (MO ha).loose (MO hb).loose,key fa fb,key (P:=fun d=> ∀j,j<d.ne->0<=(d.en j).fault) a0 b0,key (P:=fun d=>L d.ns d.sz=L a.ns a.sz) rfl hs.1,key (P:=fun d=>L d.no d.od=L a.no a.od) rfl hs.2⟩
def l7u (T:Nat)(M:Nat->Bool)(X:Nat->g8)(r:Int):Prop:=(∃v,0<wm T M X v/\(wm T M X v:Int)=r)/\ ∀v,(wm T M X v:Int)<=r
def l8q (r:Int):AV:= .agg [u8 8,bool AD,bool AD,int r,int 0,int 0,bool AD,ac 1 fun _=>0,.d .nil]
theorem m1d (a b:g7)(ha:s8 a=0)(hb:s8 b=0)(fa:a.fit)(fb:b.fit)(a0: ∀j,j<a.ne->0<=(a.en j).fault)(b0: ∀j,j<b.ne->0<=(b.en j).fault)(na:a.no<=12)(nb:b.no<=12)(hs:L b.ns b.sz=L a.ns a.sz/\L b.no b.od=L a.no a.od)
 {T:Nat} (hT:(T:Int)=dv a.sz a.ns) (r:Int) (hr:l7u T (w9 2 (u6 a b)) a.cell r):au AB AD 69 [Wg 1 fun _=>a,b.av] (.tuple [l8q r,int 0]):=by
 have hj:=m1i ha hb fa fb a0 b0 hs;have h99:=l8a (n:=2) (by omega) (u6 a b) (fun i _=>by unfold u6;split<;>assumption) (fun i _=>by unfold u6;split<;>assumption) (fun i _=>by unfold u6;split<;>assumption) (fun i _=>by unfold u6;split<;>assumption) (fun i _=>by
  unfold u6;split
  ·exact⟨rfl,rfl⟩
  ·exact hs)
 have La:au AB AD 101 [.fn 102 [] [],Wg 2 (u6 a b)] (Js a.ns a.sz a.no a.od 2 (u6 a b) a.ns (fun _=> -1) Y4):=l6y (m:=2) (ds:=u6 a b) (by omega) (by have:=hj.YM;show a.ns<=6;omega);have Lb:=l7r (op:=Y4) (gv:=fun _=> -1) hj hT (fun _ _=>rfl);have h100:=m0j 1 fun _=>a;have hT2:T<=2000:=Int.ofNat_le.1 (show (T:Int)<=((2000:Nat):Int) by rw[hT];exact hj.YM.2.1);refine cr AE ci m1u _ rfl fun E Sg gz hS=> ?_;have e:=fh hS;cbv;have g0:Sg.Vu (AC 4) (Sg.ofNat 1)=AD:=by rw[e.Vu,e.ofNat];rfl
 simp only[g0];cbv;refine lj hS (ay.frame h100 [] rfl rfl trivial) ?_;rintro pg w H' ⟨pg0,v0,OS,⟨rfl,rfl,rfl⟩,rfl,rfl,rfl⟩;cbv;have oa:Sg.fd 1 1=2:=by rw[e.fd]
 refine ad hS (mc hS) (ad hS (uh hS (by omega)) (ad hS (HJ hS (by omega)) (ad hS (tq hS (AM _)) ?_)));refine bf hS _ (au.LE (.cons (AT oa fun i hi=> ?_) .nil) h99) ?_
 ·have hi:i<2:=by simp only[oa] at hi;exact hi
  simp only[e.app];obtain rfl|rfl:i=0\/i=1:=by omega
  ·exact RL.refl a.row
  ·exact RL.refl b.row
 cbv;simp only[e.md,e.jp];cbv;have g1:Sg.md (Sg.ofNat 1) (AC 0)=AD:=by rw[e.md,e.ofNat];rfl
 simp only[g1];cbv;refine i5z AE ci hS 2 ?_;cbv;have g2:Sg.Vu (AC 0) (Sg.ofNat 1)=AF:=by rw[e.Vu,e.ofNat];rfl
 simp only[g2];cbv;have q2: ∀i,i<2->RL (Vf.rowAt [[.sl 1 a.ns fun i=>[.int .i64 (.v (a.sz i))],.sl 1 a.no fun i=>[.int .i64 (.v (a.od i))],.sl 2 a.ne fun i=>(a.en i).row,.sl 2 a.nn fun i=>[.int .i64 (.v (a.var i)),.sl 1 (a.nk i) fun j=>[.int .i64 (.v (a.dq i j))]],.int .i64 (.v a.root)],
  [.sl 1 b.ns fun i=>[.int .i64 (.v (b.sz i))],.sl 1 b.no fun i=>[.int .i64 (.v (b.od i))],.sl 2 b.ne fun i=>(b.en i).row,.sl 2 b.nn fun i=>[.int .i64 (.v (b.var i)),.sl 1 (b.nk i) fun j=>[.int .i64 (.v (b.dq i j))]],.int .i64 (.v b.root)]] i) (u6 a b i).row:=fun i hi=>by
  obtain rfl|rfl:i=0\/i=1:=by omega
  ·exact RL.refl a.row
  ·exact RL.refl b.row
 refine ad hS (gf hS Nat.one_pos) (bf hS _ (au.LE (.cons (.refl _) (.cons (AT rfl q2) .nil)) La) ?_);cbv;refine lj hS (ay.frame Lb [] rfl rfl trivial) ?_;rintro pg w H' ⟨pg0,v0,OS,⟨rfl,rfl,o,rfl,t,ht,rfl⟩,rfl,rfl,rfl⟩;have hlen:t.length<=100000/\0<t.length:=by obtain⟨⟨v,sq,_⟩,_⟩:=hr;have h1:=AP (ht.has sq);have h2:=ht.len;exact⟨by omega,h1⟩
 have OU:=l8m t;have OT:=l8b t hlen.1;obtain⟨KS,jg⟩:=xA (mK me t);obtain⟨VS,o6⟩:=xA (mV t);have hVr: ∀π,AV.ul π VS=VS:=fun π=>by rw[<-o6];exact Kt π t
 have GH:az KS=t.length:=by rw[<-jg];exact l8j t
 simp only[uj,l7t];simp only[yk,jg,o6] at OU OT⊢;cbv;have g3:Sg.md (Sg.ofNat (az KS)) (AC 0)=AD:=by rw[e.md,e.ofNat,GH];exact beq_false_of_ne (by simp only[AH];omega)
 simp only[fo,g3];cbv;have SN: ∀π,bx (.dz AF [.u8,.i64] KS VS) ((ae.dz AF [.u8,.i64] KS VS).ml π):=fun π=>by show bx _ (.dz AF [.u8,.i64] KS (AV.ul π VS));rw[hVr];exact .refl _
 refine lj hS (ay.frame OU [4] rfl rfl ⟨SN _,trivial⟩) ?_;rintro pg w H' ⟨pg0,v0,OS,⟨rfl,rfl,rfl⟩,rfl,rfl,rfl⟩;simp only[uj,ae.ml,hVr];cbv;refine lj hS (ay.frame OT [4,5] rfl rfl ⟨SN _,.refl _,trivial⟩) ?_;rintro pg w H' ⟨pg0,v0,OS,⟨rfl,n,G,o2,o3,hv,rfl,rfl⟩,rfl,rfl,rfl⟩;have mq:Tq n G r:=by
  obtain⟨⟨v,v1,v2⟩,v3⟩:=hr;obtain⟨_,w1,w2⟩:=hv;refine⟨?_,fun i hi=> ?_⟩
  ·obtain⟨i,i1,i2⟩:=w2 _ (ht.has v1);exact⟨i,i1,i2.trans v2⟩
  ·obtain⟨e,e1,e2⟩:=w1 i hi;rw[e2,ht.mem e1];exact v3 e.1
 have h104:=m1h (n:=n) (by rw[hv.1];omega) (by rw[hv.1];omega) G r mq;simp only[uj,ae.ml,hVr];cbv;refine ad hS (tq hS (AM _)) (bf hS _ h104 ?_);cbv;refine ad hS (ru hS (by decide)) ?_;have g4:Sg.Vu (AC 1) (Sg.ofNat 1)=AD:=by rw[e.Vu,e.ofNat];rfl
 simp only[g4];cbv;exact fl.tuple (.cons (fl.agg (.cons (bg rfl) (.cons (.refl _) (.cons (.refl _) (.cons (.refl _) (.cons (bg rfl) (.cons (bg rfl) (.cons (.refl _) (.cons m1t (.cons (.refl _) .nil)))))))))) (.cons (bg rfl) .nil))
section
variable {P:Program} {A:Go.Vf.t7} {ro:Option Nat} {E:x4} {Sg:We}
theorem k7w (hS:Sg=ms P A ro E){z:Int}(h:0<=z/\z<=255):Sg.Wc .i64 z=z:=by rw[(fh hS).Wc];exact e7 (by omega) (by omega)
theorem k7o (hS:Sg=ms P A ro E){z:Int}{n:Nat}(h:0<=z):Sg.W4 z (Sg.ofNat n)=((z.toNat % n:Nat):Int):=by rw[(fh hS).W4,(fh hS).ofNat];obtain⟨k,rfl⟩: ∃k:Nat,z=k:=⟨z.toNat,by omega⟩;rw[AJ,Int.tmod_eq_emod_of_nonneg h];rfl
theorem k7t (hS:Sg=ms P A ro E){n:Nat}(h:n≠0):Sg.nz (Sg.ofNat n):=by subst hS;exact fun h2=>h (Int.ofNat.inj h2)
end
theorem l6q (c:i6)(u:Int)(I4:au AB AF 48 [c.av] (bool AD)):au AB AF 17 [c.av,u8 u] (bool AF):=by
 have Lt:=US;obtain⟨ns,sz,no,od,nl,lk,⟨ins,pn,ino,pk,ph,pf,nr,gr,pj,gq,dh⟩,⟨oy,o4,ow,oz,oi,gen,ov,gj,ot,gi,db⟩⟩:=c;simp only[i6.av,g7.cs,AK,AN] at*
 refine j6 (cr AE ci m0g _ rfl fun E Sg gz hS=> ?_);cbv;refine bf hS _ I4 ?_;cbv;refine bf hS _ Lt ?_;cbv;exact AA _
theorem l6t (c:i6)(u:Int)(h0:c.nl=0)(I4:au AB AF 48 [c.av] (bool AF)):au AB AF 17 [c.av,u8 u] (bool AF):=by
 have Lt:=US;obtain⟨ns,sz,no,od,nl,lk,⟨ins,pn,ino,pk,ph,pf,nr,gr,pj,gq,dh⟩,⟨oy,o4,ow,oz,oi,gen,ov,gj,ot,gi,db⟩⟩:=c;simp only[i6.av,g7.cs,AK,AN] at*
 subst h0;refine j6 (cr AE ci m0g _ rfl fun E Sg gz hS=> ?_);have e:=fh hS;have g1:Sg.md (Sg.ofNat 0) (AC 0)=AF:=by rw[e.ofNat,e.md];rfl
 cbv;refine bf hS _ I4 ?_;cbv;simp only[g1];cbv;refine bf hS _ Lt ?_;cbv;exact AA _
def kz (M:Nat->Int):Nat->Int
 |0=>0
 |i+1=>kz M i+M i
def GO (M:Nat->Int):Nat->Int
 |0=>0
 |i+1=>if GO M i<M i then M i else GO M i
theorem l6k (c:i6)(u:Int)(hu:0<=u/\u<=255)(h0:c.nl≠0){k:Nat}(hk:k=u.toNat % c.nl)(Ly:(c.lk k).fit)(PE:c.nr.fit){NN:Nat}{S:Nat->g8}{M:Nat->Int}(ta:NN<=1000000)(hb: ∀i,i<=NN->0<=kz M i/\kz M i<=1000000){p:om}{d:Nat}{er:Int}
 (I4:au AB AF 48 [c.av] (bool AF)) (Sr:au AB AD 58 [c.av,int k] (.tuple [d7 NN S,ac NN M,int 0]))
 (O8:au AB AD 69 [Wg 1 fun _=>c.lk k,c.nr.av] (.tuple [l8q (GO M NN),int 0])) (Pb:au AB AF 71 [c.nr.av,g8.av ⟨0,1⟩] (.tuple [int (kz M NN),int 0]))
 (M3:au AB AD 20 [c.av] (.tuple [p.av,int d,int er]))
 (eo:er=7\/er=0/\(p.look<0\/ ∃(N2:Nat) (S2:Nat->g8) (M2:Nat->Int),au AB AD 58 [c.av,int p.look] (.tuple [d7 N2 S2,ac N2 M2,int 0])/\au AB AF 62 [d7 N2 S2,d7 p.nc p.c] (bool AF)/\0<=p.look)):
 au AB AF 17 [c.av,u8 u] (bool AF):=by
 have Lt:=US;have Pa:=K9 (c.lk k) Ly;have O9:=K9 c.nr PE;have ep:k<c.nl:=by rw[hk];exact AU _ (by omega)
 rw[om.Ze] at M3;have Nc:d7 p.nc p.c= .d (.sl 2 p.nc fun j=>(p.c j).row):=rfl;obtain⟨lkx,ny⟩:=xA p.look;obtain⟨nc,GJ⟩:=xA p.nc;obtain⟨CC,hCC⟩: ∃f:Nat->List DV,(fun j=>(p.c j).row)=f:=⟨_,rfl⟩;obtain⟨DD,hDD⟩: ∃f:DV,(.sl 3 p.nn fun j=>if j<p.nn then (p.nx j).row else Ma)=f:=⟨_,rfl⟩;simp only[Nc] at eo;simp only[hCC,hDD] at M3 eo;simp only[ny,GJ] at M3 eo;clear Nc ny GJ hCC hDD;obtain⟨SU,Pn⟩:=xB fun i:Nat=>kz M i;obtain⟨MX,Pk⟩:=xB fun i:Nat=>GO M i;have s0:SU 0=0:=(Pn 0).symm;have m0:MX 0=0:=(Pk 0).symm;have s1: ∀i,SU i+M i=SU (i+1):=fun i=>by rw[<-Pn,<-Pn,kz]
 have m1: ∀i,(if MX i<M i then M i else MX i)=MX (i+1):=fun i=>by rw[<-Pk,<-Pk,GO]
 simp only[Pn,Pk] at O8 Pb hb;clear Pn Pk;obtain⟨Gh,PU⟩:=xA (c.lk k);rw[PU] at Pa O8;obtain⟨ns,sz,no,od,nl,lk,⟨ins,pn,ino,pk,ph,pf,nr,gr,pj,gq,dh⟩,⟨oy,o4,ow,oz,oi,gen,ov,gj,ot,gi,db⟩⟩:=c;simp only[i6.av,g7.cs,AK,AN] at*
 refine j6 (cr AE ci m0g _ rfl fun E Sg gz hS=> ?_);have e:=fh hS;have g1:Sg.md (Sg.ofNat nl) (AC 0)=AD:=by rw[e.ofNat,e.md];exact beq_false_of_ne fun h=>h0 (Int.ofNat.inj h)
 have Vn:Sg.W4 (Sg.Wc .i64 u) (Sg.ofNat nl)=AC k:=by rw[k7w hS hu,k7o hS hu.1,hk];rfl
 have gnz:Sg.nz (Sg.ofNat nl):=k7t hS h0;clear hk;cbv;refine bf hS _ I4 ?_;cbv;simp only[g1];cbv;refine ad hS gnz ?_;simp only[Vn];refine bf hS _ Sr ?_;cbv;refine ad hS (gf hS ep) ?_;cbv;have en: ∀k:Nat,nat Sg (IX.v (AC k))=k:=fun k=>by show Sg.toNat (AC k)=k;rw[e.toNat];rfl
 simp only[en,PU];refine bf hS _ Pa ?_;cbv;refine bf hS _ O9 ?_;cbv;have q0: ∀i,i<1->RL (Vf.rowAt [[.sl 1 Gh.ns fun i=>[.int .i64 (.v (Gh.sz i))],.sl 1 Gh.no fun i=>[.int .i64 (.v (Gh.od i))],.sl 2 Gh.ne fun i=>(Gh.en i).row,.sl 2 Gh.nn fun i=>[.int .i64 (.v (Gh.var i)),.sl 1 (Gh.nk i) fun j=>[.int .i64 (.v (Gh.dq i j))]],.int .i64 (.v Gh.root)]] i) Gh.row:=fun i hi=>by
  obtain rfl:i=0:=by omega
  exact RL.refl Gh.row
 refine bf hS _ (au.LE (.cons (AT rfl q0) (.cons (.refl _) .nil)) O8) ?_;cbv;refine bf hS _ O9 ?_;cbv;refine bf hS _ Pb ?_;cbv;simp only[e.md,e.jp,BEq.rfl];cbv;simp only[e.md,e.jp,BEq.rfl];cbv;simp only[e.md,e.jp,BEq.rfl];cbv;refine HO AE ci hS (σ:=Nat×List Nat) (fun s=>s.1<=NN) (fun s=>NN-s.1)
  (fun s=>⟨dn [(1,u8 u),(2,.ptr 0 0),(5,int k),(6,d7 NN S),(7,ac NN M),(8,int 0),(9,.ptr 1 0),(10,int 0),(11,int (SU NN)),(12,int 0),(13,int (SU s.1)),(14,int (MX s.1)),(15,int s.1)] 145,
    [.var [ac ns sz,ac no od,Wg nl lk,ac ins pn,ac ino pk,d7 ph pf,WD nr gr pj gq,int dh,ac oy o4,ac ow oz,d7 oi gen,WD ov gj ot gi,int db],.var [u8 8,bool AD,bool AD,int (MX NN),int 0,int 0,bool AD,ac 1 fun _=>0,.d .nil]],s.2⟩) (0,[]) (AR _) ?_ ?_
 ·exact fp.le (bq rfl ⟨by first|exact AA _|exact bg rfl,by first|exact AA _|exact bg rfl,by first|exact AA _|exact bg rfl,by first|exact AA _|exact bg rfl,by first|exact AA _|exact bg rfl,by first|exact AA _|exact bg rfl,by first|exact AA _|exact bg rfl,by first|exact AA _|exact bg rfl,by first|exact AA _|exact bg rfl,by first|exact AA _|exact bg rfl,by rw[s0];exact bg rfl,by rw[m0];exact bg rfl,bg rfl,trivial⟩ (.same _) (by rw[gz];exact AR _) (.inl ⟨rfl,rfl⟩) (Gn _))
 rintro⟨i,mv⟩ hi N hN;simp only at hi;cbv;split
 rotate_left
 ·rename_i h;have hiN:i=NN:=by simp only[e.Vu,e.ofNat] at h;have:=of_decide_eq_false h;simp only[AH] at this;omega
  subst hiN;have t1:Sg.md (SU i) (SU i)=AF:=by rw[e.md];exact beq_self_eq_true _
  have t2:Sg.md (MX i) (MX i)=AF:=by rw[e.md];exact beq_self_eq_true _
  cbv;refine bf hS _ M3 ?_;cbv;simp only[t1,e.jp];cbv;simp only[t2,e.jp];cbv;rcases eo with rfl|⟨rfl,hl|⟨N2,S2,M2,g58,g62,hl⟩⟩
  ·simp only[e.md,e.jp];cbv;simp only[e.md,e.jp];cbv;simp only[e.md,e.jp];cbv;refine bf hS _ Lt ?_;cbv;exact AA _
  ·have f1:Sg.Vu lkx (AC 0)=AF:=by rw[e.Vu];exact decide_eq_true hl
   simp only[e.md,e.jp];cbv;simp only[e.md,e.jp];cbv;simp only[f1];cbv;refine bf hS _ Lt ?_;cbv;exact AA _
  ·have f1:Sg.Vu lkx (AC 0)=AD:=by rw[e.Vu];exact decide_eq_false (by show¬lkx<0;omega)
   simp only[e.md,e.jp];cbv;simp only[e.md,e.jp];cbv;simp only[f1];cbv;refine bf hS _ g58 ?_;cbv;simp only[e.md,e.jp,BEq.rfl];cbv;refine bf hS _ g62 ?_;cbv;refine bf hS _ Lt ?_;cbv;exact AA _
 ·rename_i h;have hil:i<NN:=tw hS h;have q1:Sg.t8 (SU i) (M i)=SU (i+1):=by rw[e.t8,s1]
  have q2:Sg.VY (Sg.Vu (MX i) (M i)) (M i) (MX i)=MX (i+1):=by rw[e.VY,e.Vu,<-m1];simp only[decide_eq_true_eq]
  have Jc:=hb (i+1) hil;cbv;refine ad hS (gf hS hil) ?_;simp only[en];cbv;refine ad hS (gf hS hil) (ad hS (Jq hS (by rw[s1];omega)) (ad hS (ji hS (by omega)) ?_));simp only[q1,q2];exact hN (i+1,mv) _ hil (by simp only;omega) (fp.le (bq rfl ⟨AA _,AA _,AA _,AA _,AA _,AA _,AA _,AA _,AA _,AA _,AA _,AA _,je hS,trivial⟩ (.same _) (by rw[gz];exact AR _) (.inl ⟨rfl,rfl⟩) (Gn _)))
def d8.dc (K:d8):Nat->om->List Nat->Prop
 |0,p,l=>p.look= -1/\zy K.G l
 |d+1,p,l=>(p.look= -1/\zy K.G l)\/ ∃i:Nat,p.look=i/\i<K.nl/\p.nc=(cellsOf (K.X i) l).length/\(∀j,j<p.nc->p.c j=(cellsOf (K.X i) l).getD j ⟨0,0⟩)/\ ∀j,j<p.nc->d8.dc K d (p.nx j) (K.pt i l j)
theorem d8.Xm {K:d8}: ∀{d:Nat} {p:om} {l:List Nat},K.dc d p l->K.dc (d+1) p l
 |0,_,_,h=> .inl h
 |_+1,_,_,.inl h=> .inl h
 |d+1,p,l,.inr ⟨i,h1,h2,h3,h4,h5⟩=> .inr ⟨i,h1,h2,h3,h4,fun j hj=>d8.Xm (h5 j hj)⟩
theorem d8.XH {K:d8}: ∀{n:Nat} {l:List Nat},K.can n l->K.dc n (K.bt n l) l
 |0,_,h=>⟨rfl,h⟩
 |n+1,l,h=>by
  by_cases hc:K.can n l
  ·rw[d8.Yl hc (by omega)];exact d8.Xm (d8.XH hc)
  have hm:K.t4 (n+1) l:=⟨h,fun m hm qq=>hc (d8.Wt qq (by omega))⟩;obtain⟨f1,f2,f3⟩:=hm.fst;rw[f3];generalize mi (K.sp n l) K.nl=i at f1 f2 f3⊢;refine .inr ⟨i,rfl,f1,rfl,fun j hj=>rfl,fun j hj=> ?_⟩;rw[k1a hj];exact d8.XH (d8.WW f2 hj)
theorem Wo {α:Type}[DecidableEq α](l:List α)(x:α):Law.Xe l x<=l.length:=by
 induction l with
 |nil=>simp[Law.Xe]
 |cons y l ih=>simp only[Law.Xe];split<;>simp<;>omega
theorem UO {α:Type}[DecidableEq α]{l:List α}{v:α}(h:Law.Xe l v<l.length):v∈l:=by
 by_cases hm:v∈l
 ·exact hm
 ·rw[Law.VT hm] at h;omega
structure i_ where
 ns:Nat
 sz:Nat->Int
 no:Nat
 od:Nat->Int
 T:Nat
 C:Nat->g8
 str:Nat->Nat
section
variable {C:Nat->g8} {sz od str:Nat->Nat} {no:Nat}
end
section
variable {o:i_}
theorem getD_some {α:Type}{l:List α}{i:Nat}{d:α}(hi:i<l.length):l[i]? =some (l.getD i d):=by rw[List.getD,AO hi];rfl
end
section
variable {ns no T:Nat} {sz od:Nat->Int} {C:Nat->g8}
end
theorem l0u (c:i6)(hw:c.wf): ∃z:Bool,au AB AF 48 [c.av] (bool z)/\(z=AF-> ∃T:Nat,c.ok T/\T<=36/\0<(c.P T).length/\Gy c 0/\
 au AB AD 108 [ac c.ns c.sz,ac c.no c.od,Wg c.nl c.lk,c.nr.av,c.goal.av] (.tuple [.d9 (Rl c.ns c.sz c.no c.od c.nl (c.P T).length (fun j=>(c.W T j:Int)) c.X c.G) 0,int 0])):=by
 classical
 by_cases ht:KL c
 rotate_left
 ·exact⟨AD,k6u c (i3u c AD (by simp[ht])),fun h=>by cases h⟩
 have Lh:=i3u c AF (by simp[ht]);have hf:=ht.fit hw;obtain⟨er,hE⟩:=i3o c;by_cases h0:er=0
 rotate_left
 ·exact⟨AD,k6t c Lh (i3r c (i2f c hf er hE) h0) (z:=AD) (beq_false_of_ne h0).symm,fun h=>by cases h⟩
 subst h0;obtain⟨T,h⟩:=i6.Y2 hf hE;have hT:=h.j_ ht;obtain⟨a1,a2⟩:=i3p c (h.q_ hE) (h.YG hT);rcases Nat.eq_zero_or_pos (c.P T).length with fz|fz
 ·exact⟨AD,k6t c Lh (a1 fz) (z:=AD) rfl,fun h=>by cases h⟩
 exact⟨AF,k6t c Lh (a2 fz) (z:=AF) rfl,fun _=>⟨T,h,hT,fz,hE,(i3a c.nr c.goal (h.read hE hT)).2 fz⟩⟩
theorem i6.ok.o_ {c:i6}{T:Nat}(h:c.ok T)(hT:T<=36)(fz:0<(c.P T).length)
 (vx:au AB AD 108 [ac c.ns c.sz,ac c.no c.od,Wg c.nl c.lk,c.nr.av,c.goal.av] (.tuple [.d9 (Rl c.ns c.sz c.no c.od c.nl (c.P T).length (fun j=>(c.W T j:Int)) c.X c.G) 0,int 0])):
 ∃z d r,c.K.res (c.P T) z d r/\d<=4/\au AB AD 20 [c.av] (.tuple [r.av,int d,int (if z=AF then 0 else 7)]):=by
 have hf:=h.fit;have hl: ∀i,i<c.nl->(c.lk i).fit:=fun i hi=>by have:=hf.dg i (by omega);rwa [c.WL hi] at this
 have hi:c.nr.fit:=by have:=hf.dg c.nl (by omega);rwa [c.WK] at this
 have hg:c.goal.fit:=by have:=hf.dg (c.nl+1) (by omega);rwa [c.Wj] at this
 obtain⟨z,d,r,hb⟩:=h.Zg hT fz vx;exact⟨z,d,r,hb.res,hb.le,k3m c hf.ns hf.no hf.nl hl hi hg hb.Zc⟩
theorem l9d (d:g7)(X:Nat->g8): ∀T,wm T (w9 1 fun _=>d) X ⟨0,1⟩=(Wh X T).length
 |0=>rfl
 |i+1=>by
  have ih:=l9d d X i;unfold wm at ih⊢;rw[sm,Wh,ih];by_cases h:X i=⟨0,1⟩
  ·rw[if_pos ⟨rfl,h⟩,if_pos h,AG];rfl
  ·rw[if_neg fun h'=>h h'.2,if_neg h];rfl
theorem l7x (a b:g7)(q:Nat):w9 2 (u6 a b) q=AF↔b.cell q=⟨0,1⟩:=by unfold w9;rw[show u6 a b 1=b from rfl];simp[Nat.ble]
theorem l7q (a b:g7)(X:Nat->g8)(v:g8): ∀T,wm T (w9 2 (u6 a b)) X v=(ey X v (Wh b.cell T)).length
 |0=>rfl
 |i+1=>by
  have ih:=l7q a b X v i;unfold wm at ih⊢;rw[sm,Wh,ih];by_cases h:b.cell i=⟨0,1⟩
  ·rw[if_pos h,NG];by_cases h2:X i=v
   ·rw[if_pos ⟨(l7x a b i).2 h,h2⟩,if_pos h2,AG];rfl
   ·rw[if_neg fun h'=>h2 h'.2,if_neg h2];rfl
  ·rw[if_neg fun h'=>h ((l7x a b i).1 h'.1),if_neg h];rfl
theorem l7n {S:Nat->g8}{v:g8}{j:Nat}: ∀n,(∀i,i<n->S i=v->i=j)->kz (fun i=>if S i=v then 1 else 0) n=if j<n/\S j=v then 1 else 0
 |0,_=>by simp[kz]
 |n+1,hd=>by
  rw[kz,l7n n fun i hi=>hd i (by omega)];by_cases h:S n=v
  ·have e:=hd n (AL n) h;subst e;rw[if_neg (by omega),if_pos h,if_pos ⟨AL _,h⟩];rfl
  ·rw[if_neg h];by_cases h2:j<n/\S j=v
   ·rw[if_pos h2,if_pos ⟨by omega,h2.2⟩];rfl
   ·rw[if_neg h2,if_neg fun h3=> ?_];rfl;have:j≠n:=fun e=>h (e▸h3.2);exact h2 ⟨by omega,h3.2⟩
theorem l7o (f g:Nat->Int): ∀n,kz (fun i=>f i+g i) n=kz f n+kz g n
 |0=>rfl
 |n+1=>by rw[kz,kz,kz,l7o f g n];omega
theorem l6c {f g:Nat->Int}: ∀{n:Nat},(∀i,i<n->f i=g i)->kz f n=kz g n
 |0,_=>rfl
 |n+1,h=>by rw[kz,kz,l6c fun i hi=>h i (by omega),h n (by omega)]
theorem l8v {X:Nat->g8}{S:Nat->g8}{n:Nat}(hd: ∀i j,i<n->j<n->S i=S j->i=j)(l:List Nat)(hl: ∀p,p∈l-> ∃j,j<n/\S j=X p):kz (fun j=>((ey X (S j) l).length:Int)) n=l.length:=by
 induction l using NQ with
 |h0=>
  have: ∀m,kz (fun j=>((ey X (S j) []).length:Int)) m=0:=fun m=>by
   induction m with
   |zero=>rfl
   |succ m ih=>rw[kz,ih];rfl
  exact this n
 |h1 l p ih=>
  obtain⟨j,hj,e⟩:=hl p (by simp);have h1:=ih fun q hq=>hl q (by simp[hq]);have h2:kz (fun i=>if S i=X p then 1 else 0) n=1:=by rw[l7n (j:=j) n fun i hi h=>hd i j hi hj (h.trans e.symm),if_pos ⟨hj,e⟩]
  have h3:kz (fun j=>((ey X (S j) (l++[p])).length:Int)) n=kz (fun j=>((ey X (S j) l).length:Int)) n+kz (fun i=>if S i=X p then 1 else 0) n:=by
   rw[<-l7o];refine l6c fun i hi=> ?_;rw[NG];by_cases h:S i=X p
   ·rw[if_pos h.symm,if_pos h,AG];rfl
   ·rw[if_neg fun h'=>h h'.symm,if_neg h];omega
  rw[AG,h3,h1,h2];rfl
theorem l7m (M:Nat->Int): ∀i j,j<i->M j<=GO M i
 |i+1,j,h=>by
  rw[GO];rcases Nat.lt_succ_iff_lt_or_eq.1 h with h|rfl
  ·have:=l7m M i j h;split<;>omega
  ·split<;>omega
theorem l8z (M:Nat->Int): ∀i,GO M i=0\/ ∃j,j<i/\M j=GO M i
 |0=> .inl rfl
 |i+1=>by
  rw[GO];split
  ·exact .inr ⟨i,AL i,rfl⟩
  ·rcases l8z M i with h|⟨j,h1,h2⟩
   ·exact .inl h
   ·exact .inr ⟨j,by omega,h2⟩
theorem l8s {M:Nat->Int}{n:Nat}(h0: ∀j,j<n->0<=M j): ∀i,i<=n->0<=kz M i/\kz M i<=kz M n:=by
 have h1: ∀i,i<=n->0<=kz M i:=fun i=>by
  induction i with
  |zero=>intro _;exact AS _
  |succ i ih=>intro h;rw[kz];have:=ih (by omega);have:=h0 i (by omega);omega
 have h2: ∀k i,i+k<=n->kz M i<=kz M (i+k):=fun k=>by
  induction k with
  |zero=>intro i _;exact AS _
  |succ k ih=>intro i h;have:=ih i (by omega);have:=h0 (i+k) (by omega);rw[show i+(k+1)=i+k+1 by omega,kz];omega
 exact fun i hi=>⟨h1 i hi,by have:=h2 (n-i) i (by omega);rwa [show i+(n-i)=n by omega] at this⟩
theorem k8z {c:i6}(h:Gy c 0): ∀i,i<c.nl+2->c.same i:=by
 rcases h with⟨h1,h2⟩|⟨h1,⟨_,h2⟩|⟨h2,h3⟩⟩
 ·exact absurd h2.symm h1
 ·cases h2
 ·rcases h3 with⟨j,a,b,d,e⟩|⟨a,⟨b,_⟩|⟨_,b⟩⟩
  ·exact absurd e.symm d
  ·exact b
  ·cases b
theorem i6.ok.ZU {c:i6}{T:Nat}(h:c.ok T)(hE:Gy c 0)(hT:T<=36)(h1:0<(c.P T).length){i:Nat}(jx:i<c.nl):
 au AB AD 58 [c.av,int i] (.tuple [d7 (cellsOf (c.X i) (c.P T)).length fun j=>(cellsOf (c.X i) (c.P T)).getD j ⟨0,0⟩,ac (cellsOf (c.X i) (c.P T)).length fun j=>((ey (c.X i) ((cellsOf (c.X i) (c.P T)).getD j ⟨0,0⟩) (c.P T)).length:Int),int 0]):=by
 have hf:=h.fit;have hl: ∀i,i<c.nl->(c.lk i).fit:=fun i hi=>by have:=hf.dg i (by omega);rwa [c.WL hi] at this
 have hi:c.nr.fit:=by have:=hf.dg c.nl (by omega);rwa [c.WK] at this
 have hg:c.goal.fit:=by have:=hf.dg (c.nl+1) (by omega);rwa [c.Wj] at this
 have ck:c.P T≠[]:=AI.1 h1;have hlen:(c.P T).length<=T:=Q0 _ T;have gm: ∀p,p∈c.P T->p<T:=fun p hp=>((i0h _ T _).1 hp).1;have hi4:i<4:=by have:=h.nl;omega
 have hX: ∀q,c.F q i=c.X i q:=fun q=>by show XD c.nl c.X i q=_;unfold XD;rw[if_pos jx]
 exact k5p c hf.ns hf.no hf.nl hl hi hg (k6e c.nr c.goal (ns:=c.ns) (no:=c.no) (nl:=c.nl) (sz:=c.sz) (od:=c.od) (lk:=c.lk) ck (by omega) c.F c.G jx hi4 (fun q hq=>by rw[hX];exact h.cell (by omega) (gm q hq)) (h.read hE hT) (c.X i) hX)
theorem l6z (c:i6)(hw:c.wf)(u:Int)(hu:0<=u/\u<=255):au AB AF 17 [c.av,u8 u] (bool AF):=by
 obtain⟨z,I4,hz⟩:=l0u c hw;cases z with
 |false=>exact l6q c u I4
 |true=>
 by_cases h0:c.nl=0
 ·exact l6t c u h0 I4
 obtain⟨T,h,hT,fz,hE,vx⟩:=hz rfl;have hf:=h.fit;obtain⟨k,hk⟩: ∃k,k=u.toNat % c.nl:=⟨_,rfl⟩;have ep:k<c.nl:=by rw[hk];exact AU _ (by omega)
 have hl: ∀i,i<c.nl->(c.lk i).fit:=fun i hi=>by have:=hf.dg i (by omega);rwa [c.WL hi] at this
 have hi:c.nr.fit:=by have:=hf.dg c.nl (by omega);rwa [c.WK] at this
 have ck:c.P T≠[]:=AI.1 fz;have hlen:(c.P T).length<=T:=Q0 _ T;have Sr:=h.ZU hE hT fz ep;obtain⟨NN,ta⟩:=xA ((cellsOf (c.X k) (c.P T)).length);obtain⟨S,hS⟩: ∃f:Nat->g8,f=fun j=>(cellsOf (c.X k) (c.P T)).getD j ⟨0,0⟩:=⟨_,rfl⟩;obtain⟨M,hM⟩: ∃f:Nat->Int,f=fun j=>((ey (c.X k) (S j) (c.P T)).length:Int):=⟨_,rfl⟩;have hSj: ∀j,(cellsOf (c.X k) (c.P T)).getD j ⟨0,0⟩=S j:=fun j=>by rw[hS]
 have Lp: ∀j,((ey (c.X k) (S j) (c.P T)).length:Int)=M j:=fun j=>by rw[hM]
 simp only[ta,hSj,Lp] at Sr;have hS2: ∀j,j<NN->(cellsOf (c.X k) (c.P T))[j]? =some (S j):=fun j hj=>by rw[<-hSj,List.getD_eq_getElem?_getD,AO (by omega)];rfl
 have Vx: ∀i j,i<NN->j<NN->S i=S j->i=j:=fun i j hi hj e=>by have im:=UL (MG (c.X k) (c.P T));have e1:=hS2 i hi;have e2:=hS2 j hj;rw[e] at e1;exact (List.getElem?_inj (by omega) im).1 (e1.trans e2.symm)
 have hex: ∀p,p∈c.P T-> ∃j,j<NN/\S j=c.X k p:=fun p hp=>by obtain⟨j,h1,h2⟩:=k1f ((wk (X:=c.X k) (l:=c.P T)).2 ⟨p,hp,rfl⟩);exact⟨j,by omega,by rw[<-hSj];exact h2⟩
 have hsum:kz M NN=((c.P T).length:Int):=by have:=l8v Vx (c.P T) hex;rw[<-this];exact l6c fun j _=>(Lp j).symm
 have GC: ∀j,0<=M j:=fun j=>by rw[<-Lp];omega
 have hNle:NN<=36:=by rw[<-ta];exact AQ (Ow _ _) (by omega)
 have hb: ∀i,i<=NN->0<=kz M i/\kz M i<=1000000:=fun i hi=>by have:=l8s (fun j _=>GC j) i hi;omega
 have hMp: ∀j,j<NN->0<M j:=fun j hj=>by obtain⟨p,hp,e⟩:=wk.1 (List.mem_of_getElem? (hS2 j hj));rw[<-Lp];have:p∈ey (c.X k) (S j) (c.P T):=List.mem_filter.2 ⟨hp,decide_eq_true e⟩;have:=AP this;omega
 have I8:0<NN:=by have:=AI.2 (j9y (X:=c.X k) ck);omega
 have hdk:c.dg k=c.lk k:=c.WL ep;have hdi:c.dg c.nl=c.nr:=c.WK;have hPi:Wh c.nr.cell T=c.P T:=by unfold i6.P i6.X;rw[hdi]
 have hXk:(c.lk k).cell=c.X k:=by unfold i6.X;rw[hdk]
 have mq:GO M NN≥M 0:=l7m M NN 0 I8;have PR:l7u T (w9 2 (u6 (c.lk k) c.nr)) (c.lk k).cell (GO M NN):=by
  have Lw: ∀v,wm T (w9 2 (u6 (c.lk k) c.nr)) (c.lk k).cell v=(ey (c.X k) v (c.P T)).length:=fun v=>by rw[l7q,hPi,hXk]
  refine⟨?_,fun v=> ?_⟩
  ·rcases l8z M NN with h|⟨j,h1,h2⟩
   ·have:=hMp 0 I8;omega
   ·refine⟨S j,?_,?_⟩
    ·rw[Lw];have:=hMp j h1;rw[<-Lp] at this;omega
    ·rw[Lw,Lp,h2]
  ·rw[Lw];by_cases hv: ∃p,p∈c.P T/\c.X k p=v
   ·obtain⟨p,hp,e⟩:=hv;obtain⟨j,h1,h2⟩:=hex p hp;rw[<-e,<-h2,Lp];exact l7m M NN j h1
   ·have:ey (c.X k) v (c.P T)=[]:=List.filter_eq_nil_iff.2 fun p hp he=>hv ⟨p,hp,of_decide_eq_true he⟩;rw[this];have:=GC 0;show (0:Int)<=_;omega
 have Ql:=k8z hE;have s1:=Ql k (by omega);have s2:=Ql c.nl (by omega);unfold i6.same at s1 s2;rw[hdk] at s1;rw[hdi] at s2;have e1:=h.err k (by omega);have e2:=h.err c.nl (by omega);have f1:=hf.Yu k (by omega);have f2:=hf.Yu c.nl (by omega);have o1:=hf.od k (by omega);have o2:=hf.od c.nl (by omega);have t1:=h.Td k (by omega);have t2:=h.Td c.nl (by omega);rw[hdk] at e1 f1 o1 t1;rw[hdi] at e2 f2 o2 t2;have O8:=m1d (c.lk k) c.nr e1 e2 (hl k ep) hi f1 f2 (by omega) (by omega) ⟨s2.1.trans s1.1.symm,s2.2.trans s1.2.symm⟩ t1 _ PR;have Pb:=m0w c.nr e2 hi f2 (by omega) t2 ⟨0,1⟩ (by unfold gb;decide) (by decide);rw[l9d,hPi,<-hsum] at Pb;obtain⟨z,d,r,cq,hd4,M3⟩:=h.o_ hT fz vx;refine l6k c u hu h0 hk (hl k ep) hi (by omega) hb I4 Sr O8 Pb M3 ?_;cases z with
 |false=>exact .inl rfl
 |true=>
  refine .inr ⟨rfl,?_⟩;obtain⟨hm,rfl⟩:=cq.1 rfl;have SB:=d8.XH hm.1;have hc:(c.K.bt d (c.P T)).look= -1\/ ∃i:Nat,(c.K.bt d (c.P T)).look=i/\i<c.nl/\(c.K.bt d (c.P T)).nc=(cellsOf (c.X i) (c.P T)).length/\(∀j,j<(c.K.bt d (c.P T)).nc->(c.K.bt d (c.P T)).c j=(cellsOf (c.X i) (c.P T)).getD j ⟨0,0⟩):=by
   cases d with
   |zero=>exact .inl SB.1
   |succ d=>
    rcases SB with SB|⟨i,a1,a2,a3,a4,_⟩
    ·exact .inl SB.1
    ·exact .inr ⟨i,a1,a2,a3,a4⟩
  rcases hc with hc|⟨i,a1,a2,a3,a4⟩
  ·exact .inl (by omega)
  ·refine .inr ⟨_,_,_,by rw[a1];exact h.ZU hE hT fz a2,k3z (AQ (AQ (Ow _ _) hlen) (by omega)) _ _ ⟨fun _=>⟨a3.symm,fun j hj=>(a4 j (by omega)).symm⟩,fun _=>rfl⟩,by omega⟩
end Go.Proofs.Tryz.Run
