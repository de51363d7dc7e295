/- LookProves answers true. Conditions: none. -/
import Derived.Test.YtbglklaocjifhaaGreatFXt
open Go.Proofs.Tryz renaming prog->AA
open Go.Vf.a0x renaming refl->AB
open Bool renaming true->AC,false->AD
open Int renaming ofNat->AE,ofNat_eq_natCast->AG,negSucc->AP
open Go.Proofs.YtbglklaocjifhaaGreat.Tryz renaming mixed->AF
open Classical renaming byContradiction->AH
open List renaming cons_append->AI,nil_append->AJ,length_pos_iff->AK,length_filter_le->AO
open Iff renaming rfl->AM
open Nat renaming le_trans->AN,lt_irrefl->AQ,le_refl->AR
set_option linter.unusedSimpArgs false
set_option linter.unusedVariables false
set_option maxHeartbeats 0
set_option maxRecDepth 100000
namespace Go.Proofs.Tryz.Run
open Go Go.Vf Go.Proofs
open Go.Proofs.YtbglklaocjifhaaGreat
def PbR.dc (K:PbR):Nat->PlR->List Nat->Prop
 |0,p,l=>p.look= -1/\k1e K.G l
 |d+1,p,l=>(p.look= -1/\k1e K.G l)\/ ∃i:Nat,p.look=i/\i<K.nl/\p.nc=(cellsOf (K.X i) l).length/\(∀j,j<p.nc->p.c j=(cellsOf (K.X i) l).getD j ⟨0,0⟩)/\ ∀j,j<p.nc->PbR.dc K d (p.nx j) (K.pt i l j)
theorem PbR.dc_leaf {K:PbR}{d:Nat}{p:PlR}{l:List Nat}(h:p.look= -1):K.dc d p l↔k1e K.G l:=by
 cases d with
 |zero=>exact⟨fun h=>h.2,fun h'=>⟨h,h'⟩⟩
 |succ d=>exact⟨fun h'=>by
   rcases h' with h'|⟨i,h1,_⟩
   ·exact h'.2
   ·omega,fun h'=> .inl ⟨h,h'⟩⟩
theorem PbR.dc_node {K:PbR}{d i:Nat}{p:PlR}{l:List Nat}(h:p.look=i):K.dc (d+1) p l↔i<K.nl/\p.nc=(cellsOf (K.X i) l).length/\(∀j,j<p.nc->p.c j=(cellsOf (K.X i) l).getD j ⟨0,0⟩)/\ ∀j,j<p.nc->K.dc d (p.nx j) (K.pt i l j):=by
 constructor
 ·rintro (⟨h1,_⟩|⟨i',h1,h2⟩)
  ·omega
  ·obtain rfl:i'=i:=by omega
   exact h2
 ·exact fun h2=> .inr ⟨i,h,h2⟩
theorem PbR.dc_cut {K:PbR}: ∀(d k:Nat) (p:PlR) (l:List Nat),d<=k->(K.dc d (PlR.cut k p) l↔K.dc d p l)
 |0,k,p,l,_=>by cases k<;>exact AM
 |d+1,k,p,l,h=>by obtain⟨k,rfl⟩: ∃m,k=m+1:=⟨k-1,by omega⟩;refine or_congr AM (exists_congr fun i=>and_congr AM (and_congr AM (and_congr AM (and_congr AM ?_))));exact forall_congr' fun j=>imp_congr_right fun _=>PbR.dc_cut d k (p.nx j) _ (by omega)
theorem PbR.same.dc {K K':PbR}: ∀{d:Nat} {p:PlR} {l:List Nat},K.same K' l->(K.dc d p l↔K'.dc d p l)
 |0,p,l,h=>and_congr AM h.dec
 |d+1,p,l,h=>or_congr (and_congr AM h.dec) (exists_congr fun i=>by
  rw[<-h.nl];refine and_congr_right fun _=>and_congr_right fun hi=> ?_;rw[j8q (h.X i hi)];refine and_congr_right fun hn=>and_congr_right fun _=>forall_congr' fun j=>imp_congr_right fun hj=> ?_;have hp:K.pt i l j=K'.pt i l j:=by unfold PbR.pt;rw[j8q (h.X i hi),j9d (h.X i hi)]
  rw[<-hp];exact PbR.same.dc (h.sub j8p))
theorem PlR.look_of {p:PlR}{lk:Int}{xs:List AV}(h:p.av= .agg (int lk::xs)):p.look=lk:=by have:=p.avE.symm.trans h;simp[int] at this;exact this.1
theorem k8c {nl T:Nat}{X:Nat->Nat->VaR}{G:Nat->Bool}{l:List Nat}(p:PlR)(h0:p.look= -1){r:Bool}(h60:a0j AA AC 60 [.agg (knC nl T X G),pll l] (bool r)):a0j AA AC 46 [.agg (knC nl T X G),pll l,p.av] (bool r):=by
 obtain⟨lk,nc,nn,C,D,h1,h2⟩:=p.avX;have h3:lk= -1:=(PlR.look_of h1).symm.trans h0;subst h3;rw[h1];unfold pll knC at*
 obtain⟨W,hWe⟩: ∃W:Nat->Nat,∀j,l.getD j 0=W j:=⟨_,fun _=>rfl⟩;obtain⟨n,hn⟩: ∃n,l.length=n:=⟨_,rfl⟩;simp only[hWe,hn] at*
 refine a1e (a0k AF okP k8t _ rfl fun E Sg hbs hS=> ?_);have e:=b2k hS;have g1:Sg.ieq (-1) (AP 0)=AC:=by rw[e.ieq];rfl
 cbv;simp only[g1];cbv;refine a0v hS _ h60 ?_;cbv;exact AB _
theorem k8m {nl T:Nat}{X:Nat->Nat->VaR}{G:Nat->Bool}{l:List Nat}(p:PlR)(h0:(nl:Int)<=p.look):a0j AA AC 46 [.agg (knC nl T X G),pll l,p.av] (bool AD):=by
 obtain⟨lk,nc,nn,C,D,h1,h2⟩:=p.avX;have h3:(nl:Int)<=lk:=by rw[<-PlR.look_of h1];exact h0
 rw[h1];unfold pll knC at*
 refine a1e (a0k AF okP k8t _ rfl fun E Sg hbs hS=> ?_);have e:=b2k hS;have g1:Sg.ieq lk (AP 0)=AD:=by rw[e.ieq];exact beq_false_of_ne (by omega)
 have g2:Sg.ile (Sg.ofNat nl) lk=AC:=by rw[e.ile,e.ofNat];exact decide_eq_true h3
 cbv;simp only[g1];cbv;simp only[g2];cbv;exact AB _
theorem k8k {nl T:Nat}{X:Nat->Nat->VaR}{G:Nat->Bool}{l:List Nat}(hll:l.length<=1000000)(p:PlR)(hnn:p.nn=p.nc){i:Nat}(h0:p.look=i)(hil:i<nl){K:PbR}
 (h61:a0j AA AD 61 [.agg (knC nl T X G),pll l,int i] (.tuple [vsl (cellsOf (K.X i) l).length fun j=>(cellsOf (K.X i) l).getD j ⟨0,0⟩,prt K i l]))
 {a:Bool} (ha:a=AC↔(cellsOf (K.X i) l).length=p.nc/\ ∀j,j<(cellsOf (K.X i) l).length->(cellsOf (K.X i) l).getD j ⟨0,0⟩=p.c j) (b:Nat->Bool)
 (hk:(cellsOf (K.X i) l).length=p.nc-> ∀j,j<p.nc->a0j AA AC 46 [.agg (knC nl T X G),pll (K.pt i l j),(p.nx j).av] (bool (b j)))
 {r:Bool} (hr:r=AC↔a=AC/\ ∀j,j<p.nc->b j=AC):a0j AA AC 46 [.agg (knC nl T X G),pll l,p.av] (bool r):=by
 have hcl:(cellsOf (K.X i) l).length<=1000000:=AN (j9v _ _) hll;have h62:=k3z (n:=(cellsOf (K.X i) l).length) (m:=p.nc) (by omega) (fun j=>(cellsOf (K.X i) l).getD j ⟨0,0⟩) p.c ha;have hal:a=AC->(cellsOf (K.X i) l).length=p.nc:=fun h=>(ha.1 h).1;clear ha;obtain⟨lk,ncs,nns,C,E,hrow,hav,hpav⟩:=p.kids;rw[hpav,h0];obtain⟨nc,hnc⟩: ∃z,p.nc=z:=⟨_,rfl⟩;rw[hnn,hnc] at hav;rw[hnn];rw[hnc] at h62 hk hr hal⊢;obtain⟨kd,hkd⟩: ∃f:Nat->AV,∀j,(p.nx j).av=f j:=⟨_,fun _=>rfl⟩;simp only[hkd] at hk hav;obtain⟨PC,hPC⟩: ∃f:Nat->List DV,∀j,(p.c j).row=f j:=⟨_,fun _=>rfl⟩;unfold pll prt knC vsl at*
 obtain⟨W,hWe⟩: ∃W:Nat->Nat,∀j,l.getD j 0=W j:=⟨_,fun _=>rfl⟩;obtain⟨n,hn⟩: ∃n,l.length=n:=⟨_,rfl⟩;obtain⟨NN,hNN⟩: ∃z,(cellsOf (K.X i) l).length=z:=⟨_,rfl⟩;obtain⟨CE,hCE⟩: ∃f:Nat->List DV,∀j,((cellsOf (K.X i) l).getD j ⟨0,0⟩).row=f j:=⟨fun j=>_,fun _=>rfl⟩;obtain⟨PN,hPN⟩: ∃f:Nat->Nat,∀j,(K.pt i l j).length=f j:=⟨fun j=>_,fun _=>rfl⟩;obtain⟨PE,hPE⟩: ∃f:Nat->Nat->Nat,∀j t,(K.pt i l j).getD t 0=f j t:=⟨fun j t=>_,fun _ _=>rfl⟩;simp only[hWe,hn,hNN,hCE,hPN,hPE,hPC] at h61 h62 hk hcl hal⊢;obtain⟨x0,hx0⟩: ∃f:Nat->List DV,(fun i=>[DV.sl 2 T fun p=>(X i p).row])=f:=⟨_,rfl⟩;obtain⟨x1,hx1⟩: ∃f:Nat->List DV,(fun p=>[DV.bool (G p)])=f:=⟨_,rfl⟩;rw[hx0,hx1] at h61 hk⊢;clear hx0 hx1 hWe hn hNN hCE hPN hPE hPC hpav hnc hnn hrow hkd;refine a1e (a0k AF okP k8t _ rfl fun E0 Sg hbs hS=> ?_);have e:=b2k hS;have en: ∀k:Nat,nat Sg (IX.v (AE k))=k:=fun k=>by show Sg.toNat (AE k)=k;rw[e.toNat];rfl
 have g1:Sg.ieq (AE i) (AP 0)=AD:=by rw[e.ieq];exact beq_false_of_ne (by simp only[AG];omega)
 have g2:Sg.ile (Sg.ofNat nl) (AE i)=AD:=by rw[e.ile,e.ofNat];exact decide_eq_false (by simp only[AG];omega)
 cbv;simp only[g1];cbv;simp only[g2];cbv;refine a0v hS _ h61 ?_;cbv;refine a0v hS _ h62 ?_;cases a
 ·cbv;exact e8z hr fun h=>by cases h.1
 have hNc:=hal rfl;subst hNc;have hk2:=hk rfl;clear hk hal;cbv;refine a7r AF okP hS (fun j=>j<=NN/\ ∀t,t<j->b t=AC) (fun j=>NN-j)
  (fun j=>⟨b5r [(1,isl n fun j=>(W j:Int)),(3,.ptr 0 0),(5,.ptr 1 0),(8,.d (.sl 1 NN fun j=>[.sl 1 (PN j) fun t=>[.int .i64 (.v (PE j t))]])),(9,int j)] 53,[.var [.d (.sl 1 nl x0),.d (.sl 1 T x1)],.var [int i,.d (.sl 2 NN PC),.d (.sl 3 NN fun i=>[.int .i64 (.v (lk i)),.sl 2 (ncs i) (C i),.sl 3 (nns i) (E i)])]],[]⟩) 0 ⟨Nat.zero_le _,fun t ht=>absurd ht (Nat.not_lt_zero t)⟩ ?_ ?_
 ·exact a4c rfl ⟨AB _,AB _,AB _,AB _,a6c rfl,trivial⟩ (.same _) (by simp;omega) (.inr rfl) rfl
 rintro j ⟨hj,hb⟩ N hN;cbv;split
 ·rename_i h;have hjl:j<NN:=d3r hS h;have g4:=hk2 j hjl;rw[hav j hjl] at g4;obtain⟨q,hq⟩: ∃q,b j=q:=⟨_,rfl⟩;rw[hq] at g4;cbv;simp only[en];refine a1g hS (a5p hS hjl) (a1g hS (a5p hS hjl) ?_);refine a0v hS _ g4 ?_;cases q
  ·cbv;exact e8z hr fun h=>by have:=h.2 j hjl;rw[hq] at this;cases this
  ·cbv;refine a1g hS (e1n hS (by omega)) ?_;refine hN (j+1) _ ⟨hjl,fun t ht=> ?_⟩ (by omega) (a4c rfl ⟨AB _,AB _,AB _,AB _,b2s hS,trivial⟩ (.same _) (by simp;omega) (.inr rfl) rfl);by_cases et:t=j
   ·subst et;exact hq
   ·exact hb t (by omega)
 ·rename_i h;have hjn:NN<=j:=d3c hS h;cbv;exact h8e hr ⟨rfl,fun t ht=>hb t (by omega)⟩
theorem k8o {nl T:Nat}(hnl:nl<=4)(hT:T<=1000000){X:Nat->Nat->VaR}{G:Nat->Bool}{K:PbR}(hK:K.nl=nl)(hKX: ∀i,K.X i=X i)(hKG:K.G=G): ∀(d:Nat),d<=4-> ∀p:PlR,p.ok->p.isP d-> ∀l:List Nat,l≠[]->l.length<=1000000->(∀q,q∈l->q<T)-> ∀r:Bool,(r=AC↔K.dc d p l)->
 a0j AA AC 46 [.agg (knC nl T X G),pll l,p.av] (bool r):=by
 classical
 intro d
 induction d with
 |zero=>intro _ p hp hP l hl0 hll hW r hr;obtain⟨a1,a2,a3,a4,a5⟩:=hP;have h0:p.look= -1:=AH fun h=>absurd (a5 h).1 (AQ 0);exact k8c p h0 (k2k hT hll hW (hr.trans ((PbR.dc_leaf h0).trans (by rw[hKG]))))
 |succ d ih=>
  intro hd p hp hP l hl0 hll hW r hr;obtain⟨a1,a2,a3,a4,a5⟩:=hP;by_cases h0:p.look= -1
  ·exact k8c p h0 (k2k hT hll hW (hr.trans ((PbR.dc_leaf h0).trans (by rw[hKG]))))
  obtain⟨i,hi⟩: ∃i:Nat,p.look=i:=⟨p.look.toNat,by omega⟩;rw[PbR.dc_node hi,hK] at hr;by_cases hil:i<nl
  rotate_left
  ·have:r=AD:=by cases r with
    |false=>rfl
    |true=>exact absurd (hr.1 rfl).1 hil
   subst this;exact k8m p (by omega)
  obtain⟨_,b2,b3⟩:=a5 h0;obtain⟨_,_,_,_,o5⟩:=p.ok_iff.1 hp;have h61:=k3w (nl:=nl) (T:=T) (X:=X) (G:=G) hnl hT hl0 hll hW hil;rw[<-hKX] at h61;refine k8k hll p a3 hi hil (K:=K) h61 (a:=decide ((cellsOf (K.X i) l).length=p.nc/\ ∀j,j<(cellsOf (K.X i) l).length->(cellsOf (K.X i) l).getD j ⟨0,0⟩=p.c j)) decide_eq_true_iff (fun j=>decide (K.dc d (p.nx j) (K.pt i l j))) (fun hn j hj=> ?_) ?_
  ·have hne:K.pt i l j≠[]:=j9e (j8e (by omega));exact ih (by omega) (p.nx j) (o5 j (by omega)) (b3 j hj).2.2 _ hne (AN (AO _ _) hll) (fun q hq=>hW q (j8c.1 hq).1) _ decide_eq_true_iff
  ·rw[hr];simp only[decide_eq_true_eq];constructor
   ·rintro⟨_,c1,c2,c3⟩;exact⟨⟨c1.symm,fun j hj=>(c2 j (by omega)).symm⟩,c3⟩
   ·rintro⟨⟨c1,c2⟩,c3⟩;exact⟨hil,c1.symm,fun j hj=>(c2 j (by omega)).symm,c3⟩
def k8w:a0c×a0c:=match g7d with
 | .seq _ (.seq _ (.seq _ (.seq _ (.seq (.seq _ (.block _ (.range _ _ a b))) _))))=>(a,b)
 |_=>(.ret,.ret)
def k8d (s:LSt):a0f:= .loop s (b5r [(3,.ptr 0 0),(4,.ptr 1 0),(6,.ptr 2 0),(7,.ptr 3 0)] 60) [26,27] (fun ca cb=>comp AA g2i.A ca=some k8w.1/\comp AA g2i.A cb=some k8w.2)
def k7z (trow:List DV)(l:Int)(nc:Nat)(A B:Nat->Int)(nn:Nat)(lk:Nat->Int)(ncs nns:Nat->Nat)(C D:Nat->Nat->List DV)(p:Nat)(sn:Nat)(se:Nat->List DV)(lp:a0f):List a0f:=
 [.var [.dptr trow 0],.var [int l,.d (.sl 2 nc fun j=>[.int .u8 (.v (A j)),.int .i64 (.v (B j))]),.d (.sl 3 nn fun i=>[.int .i64 (.v (lk i)),.sl 2 (ncs i) (C i),.sl 3 (nns i) (D i)])],.var [bool AD],.var [int p],.var [.d (.sl 9 sn se)],.var [int l],lp]
theorem k8q (trow:List DV)(l:Int)(nc:Nat)(A B:Nat->Int)(nn:Nat)(lk:Nat->Int)(ncs nns:Nat->Nat)(C D:Nat->Nat->List DV)(p:Nat)(sn:Nat)(se:Nat->List DV)(n:Nat)(e9:Nat->List DV)(vf vn:Int)(z:Bool)(hnc:nc<=1000000)(hp:p<=nc)(hnn:nc<=nn)
 (h1:p=nc->z=AD) (h2:p<nc-> ¬(A p=vf/\B p=vn)->z=AD) (h3:p<nc->A p=vf->B p=vn->a0j AA AD 124 [.dptr trow 0,.agg [int (lk p),.d (.sl 2 (ncs p) (C p)),.d (.sl 3 (nns p) (D p))],.d (.sl 9 n e9)] (bool z)):
 b5d AA 6 [.agg [u8 vf,int vn],.msl 7 9 none n AD] (a2u (k7z trow l nc A B nn lk ncs nns C D p sn se (k8d .ready)) [.arr 9 n e9])
  (fun pg v h'=>(∀x,x∈pg->x∈([]:List Nat))/\v= .d (.bool z)/\ ∃o,h'=a2u (if z=AC then k7z trow l nc A B nn lk ncs nns C D (p+1) sn se (k8d .ready) else k7z trow l nc A B nn lk ncs nns C D p sn se (k8d (.done .ret))) [o]):=by
 refine b5d.cut (b9t AF okP (A:=g2i.A) rfl (fun _ _ h=>h) rfl fun ro E Sg hS=> ?_);have e:=b2k hS;have en: ∀k:Nat,nat Sg (IX.v (AE k))=k:=fun k=>by show Sg.toNat (AE k)=k;rw[e.toNat];rfl
 by_cases c1:p=nc
 ·have g1:Sg.ieq (AE p) (Sg.ofNat nc)=AC:=j6i hS c1;have hz:=h1 c1;subst hz;cbv;refine⟨fun h=>(nomatch h),_,_,_,rfl,?_⟩;cbv;simp only[g1];cbv;refine⟨fun h=>(nomatch h),_,_,_,rfl,[],fun m _ h=>h,?_⟩;refine⟨a2u (k7z trow l nc A B nn lk ncs nns C D p sn se (k8d (.done .ret))) [.arr 9 n e9],.d (.bool AD),?_,AB _,by simp[k7z,a2u],.inl ⟨rfl,rfl⟩,fun x h=>(nomatch h),rfl,_,rfl⟩;exact .cons (.refl _) (.cons (.refl _) (.cons (.refl _) (.cons (.refl _) (.cons (.refl _) (.cons (.refl _) (.cons (.refl _) (.cons (.refl _) (.nil _))))))))
 have c2:p<nc:=by omega
 have g1:Sg.ieq (AE p) (Sg.ofNat nc)=AD:=j6f hS c1;by_cases c3:A p=vf/\B p=vn
 rotate_left
 ·have hz:=h2 c2 c3;subst hz;have g3:Sg.bnot (Sg.band (Sg.ieq (A p) vf) (Sg.band (Sg.ieq (B p) vn) AC))=AC:=by
   rw[e.bnot,e.band,e.band,e.ieq,e.ieq];by_cases q1:A p=vf
   ·have q2:B p≠vn:=fun h=>c3 ⟨q1,h⟩;rw[q1,beq_false_of_ne q2];simp
   ·rw[beq_false_of_ne q1];rfl
  cbv;refine⟨fun h=>(nomatch h),_,_,_,rfl,?_⟩;cbv;simp only[g1];cbv;refine a1g hS (a5p hS c2) ?_;simp only[en,g3];cbv;refine⟨fun h=>(nomatch h),_,_,_,rfl,[],fun m _ h=>h,?_⟩;refine⟨a2u (k7z trow l nc A B nn lk ncs nns C D p sn se (k8d (.done .ret))) [.arr 9 n e9],.d (.bool AD),?_,AB _,by simp[k7z,a2u],.inl ⟨rfl,rfl⟩,fun x h=>(nomatch h),rfl,_,rfl⟩;exact .cons (.refl _) (.cons (.refl _) (.cons (.refl _) (.cons (.refl _) (.cons (.refl _) (.cons (.refl _) (.cons (.refl _) (.cons (.refl _) (.nil _))))))))
 have h124:=h3 c2 c3.1 c3.2;have g3:Sg.bnot (Sg.band (Sg.ieq (A p) vf) (Sg.band (Sg.ieq (B p) vn) AC))=AD:=by rw[e.bnot,e.band,e.band,e.ieq,e.ieq,c3.1,c3.2];simp
 cbv;refine⟨fun h=>(nomatch h),_,_,_,rfl,?_⟩;cbv;simp only[g1];cbv;refine a1g hS (a5p hS c2) ?_;simp only[en,g3];cbv;refine a1g hS (a5p hS (show p<nn by omega)) ?_;simp only[en];refine a1g hS (e8l hS (AR _)) ?_;refine a0v hS _ h124 ?_;cases z
 ·cbv;refine⟨fun h=>(nomatch h),_,_,_,rfl,[],fun m _ h=>h,?_⟩;refine⟨a2u (k7z trow l nc A B nn lk ncs nns C D p sn se (k8d (.done .ret))) [.frz 9 n e9],.d (.bool AD),?_,AB _,by simp[k7z,a2u],.inl ⟨rfl,rfl⟩,fun x h=>(nomatch h),rfl,_,rfl⟩;exact .cons (.refl _) (.cons (.refl _) (.cons (.refl _) (.cons (.refl _) (.cons (.refl _) (.cons (.refl _) (.cons (.refl _) (.cons (.refl _) (.nil _))))))))
 ·cbv;refine a1g hS (e1n hS (by omega)) ?_;refine⟨fun h=>(nomatch h),_,_,_,rfl,[],fun m _ h=>h,?_⟩;refine⟨a2u (k7z trow l nc A B nn lk ncs nns C D (p+1) sn se (k8d .ready)) [.frz 9 n e9],.d (.bool AC),?_,AB _,by simp[k7z,a2u],.inl ⟨rfl,rfl⟩,fun x h=>(nomatch h),rfl,_,rfl⟩;exact .cons (.refl _) (.cons (.refl _) (.cons (.refl _) (.cons (.var (.cons (b2s hS) .nil)) (.cons (.refl _) (.cons (.refl _) (.cons (.refl _) (.cons (.refl _) (.nil _))))))))
theorem k8b {x0 x1:DV}{tl:List DV}{nl n:Nat}{se:Nat->List DV}(p:PlR)(h0:p.look= -1){r:Bool}(h130:a0j AA AC 130 [.d (.sl 9 n se)] (bool r)):
 a0j AA AD 124 [.dptr (x0::x1:: .int .i64 (.v nl)::tl) 0,p.av,.d (.sl 9 n se)] (bool r):=by
 obtain⟨lk,nc,nn,C,D,h1,h2⟩:=p.avX;have h3:lk= -1:=(PlR.look_of h1).symm.trans h0;subst h3;rw[h1];refine a0k AF okP f0c _ rfl fun E Sg hbs hS=> ?_;have e:=b2k hS;have g1:Sg.ilt (-1) (AE 0)=AC:=by rw[e.ilt];rfl
 cbv;simp only[g1];cbv;refine a0v hS _ h130 ?_;cbv;exact AB _
theorem k8i {x0 x1:DV}{tl:List DV}{nl n:Nat}{se:Nat->List DV}(p:PlR)(h0:(nl:Int)<=p.look):
 a0j AA AD 124 [.dptr (x0::x1:: .int .i64 (.v nl)::tl) 0,p.av,.d (.sl 9 n se)] (bool AD):=by
 obtain⟨lk,nc,nn,C,D,h1,h2⟩:=p.avX;have h3:(nl:Int)<=lk:=by rw[<-PlR.look_of h1];exact h0
 rw[h1];refine a0k AF okP f0c _ rfl fun E Sg hbs hS=> ?_;have e:=b2k hS;have g1:Sg.ilt lk (AE 0)=AD:=by rw[e.ilt];exact decide_eq_false (by show¬lk<0;omega)
 have g2:Sg.ile (AE nl) lk=AC:=by rw[e.ile];exact decide_eq_true h3
 cbv;simp only[g1];cbv;simp only[g2];cbv;exact AB _
theorem k8g {x0 x1:DV}{tl:List DV}{nl:Nat}(hnl:nl<=4)(F:Nat->Nat->VaR)(g:Nat->Bool){l:List Nat}(hl0:l≠[])(hll:l.length<=1000000)(p:PlR)(hnn:p.nn=p.nc)(hnc6:p.nc<=1000000){i:Nat}(h0:p.look=i)(hil:i<nl)
 (hok: ∀q,q∈l->a1i (F q i)/\0<=(F q i).fault) {X:Nat->VaR} (hX: ∀q,F q i=X q) (b:Nat->Bool)
 (hk: ∀j,j<p.nc->j<(cellsOf X l).length->p.c j=(cellsOf X l).getD j ⟨0,0⟩->a0j AA AD 124 [.dptr (x0::x1:: .int .i64 (.v nl)::tl) 0,(p.nx j).av,.d (.sl 9 (j7u X ((cellsOf X l).getD j ⟨0,0⟩) l).length fun t=>spR F g ((j7u X ((cellsOf X l).getD j ⟨0,0⟩) l).getD t 0))] (bool (b j)))
 {r:Bool} (hr:r=AC↔p.nc=(cellsOf X l).length/\(∀j,j<p.nc->p.c j=(cellsOf X l).getD j ⟨0,0⟩)/\ ∀j,j<p.nc->b j=AC):
 a0j AA AD 124 [.dptr (x0::x1:: .int .i64 (.v nl)::tl) 0,p.av,.d (.sl 9 l.length fun j=>spR F g (l.getD j 0))] (bool r):=by
 classical
 obtain⟨NN,hNN⟩: ∃z,(cellsOf X l).length=z:=⟨_,rfl⟩;obtain⟨SS,hSS⟩: ∃f:Nat->VaR,∀p,(cellsOf X l).getD p ⟨0,0⟩=f p:=⟨_,fun _=>rfl⟩;obtain⟨lk,ncs,nns,C,D,hrow,hav,hpav⟩:=p.kids;rw[hpav,h0];obtain⟨nc,hnc⟩: ∃z,p.nc=z:=⟨_,rfl⟩;obtain⟨pc,hpc⟩: ∃z,p.c=z:=⟨_,rfl⟩;rw[hnn,hnc] at hav;rw[hnn];simp only[hnc,hpc,hNN,hSS] at hk hr hnc6⊢;obtain⟨kd,hkd⟩: ∃f:Nat->AV,∀j,(p.nx j).av=f j:=⟨_,fun _=>rfl⟩;simp only[hkd] at hk hav;clear hpav hnc hnn hrow hkd h0 hpc;obtain⟨A,hA⟩: ∃f:Nat->Int,∀j,(pc j).fault=f j:=⟨_,fun _=>rfl⟩;obtain⟨B,hB⟩: ∃f:Nat->Int,∀j,(pc j).n=f j:=⟨_,fun _=>rfl⟩;have hvs:vsl nc pc= .d (.sl 2 nc fun j=>[.int .u8 (.v (A j)),.int .i64 (.v (B j))]):=by show AV.d (.sl 2 nc fun j=>[.int .u8 (.v (pc j).fault),.int .i64 (.v (pc j).n)])=_;simp only[hA,hB]
 rw[hvs];have hv: ∀a b:VaR,a.fault=b.fault->a.n=b.n->a=b:=fun a b h1 h2=>by cases a;cases b;simp only at h1 h2;subst h1 h2;rfl
 have hAB: ∀j,(A j=(SS j).fault/\B j=(SS j).n)↔pc j=SS j:=fun j=>by rw[<-hA,<-hB];exact⟨fun h=>hv _ _ h.1 h.2,fun h=>by rw[h];exact⟨rfl,rfl⟩⟩
 obtain⟨zf,hzf⟩: ∃f:Nat->Bool,∀j,f j=AC↔(j<nc/\pc j=SS j)/\b j=AC:=⟨fun j=>decide _,fun j=>decide_eq_true_iff⟩;obtain⟨trow,htr⟩: ∃t:List DV,(x0::x1:: .int .i64 (.v nl)::tl)=t:=⟨_,rfl⟩;rw[htr] at hk;obtain⟨n,hn⟩: ∃n,l.length=n:=⟨_,rfl⟩;obtain⟨se,hse⟩: ∃f:Nat->List DV,(fun j=>spR F g (l.getD j 0))=f:=⟨_,rfl⟩;have hsl:AV.d (.sl 9 l.length fun j=>spR F g (l.getD j 0))= .d (.sl 9 n se):=by rw[hn,hse]
 rw[hsl];have hNl:NN<=1000000:=by rw[<-hNN];exact AN (j9v _ _) hll
 refine a0k AF okP f0c _ rfl fun E Sg hbs hS=> ?_;have e:=b2k hS;have g1:Sg.ilt (AE i) (AE 0)=AD:=by rw[e.ilt];exact decide_eq_false (by simp only[AG];omega)
 have g2:Sg.ile (AE nl) (AE i)=AD:=by rw[e.ile];exact decide_eq_false (by simp only[AG];omega)
 cbv;simp only[g1];cbv;simp only[g2];cbv;refine h3v hS (a1h.frame (k2q (.sl 9 n se) .nil i ⟨n,se,rfl⟩) [] rfl rfl trivial) ?_;rintro pg v H' ⟨pg0,v0,h0,⟨rfl,rfl,rfl⟩,rfl,rfl,rfl⟩;cbv;refine i0x hS rfl ?_;have hg:=k3v (k:=7) (y:=6) (a:=4) (b:=5) (by decide) (by decide) (by decide)
  (fun p=>k7z trow i nc A B nc lk ncs nns C D p n se (k8d .ready))
  (fun p=>k7z trow i nc A B nc lk ncs nns C D p n se (k8d (.done .ret)))
  (fun _=>rfl) (fun _=>rfl) (fun _=>rfl) (fun _=>rfl) l hl0 hll i (by omega) F g hok (by rw[hsl];rfl) rfl X hX SS hSS NN hNN zf [] (fun x hx=>by cases hx) ?_
 ·refine a1h.heap (a1h.mono ?_ hg) (.cons (.var (.cons (by rw[<-htr];exact AB _) .nil)) (.cons (.refl _) (.cons (.refl _) (.cons (.var (.cons (a6c rfl) .nil)) (.cons (.refl _) (.cons (.refl _) (.cons (a9v.loop (d2w rfl ⟨AB _,AB _,AB _,AB _,trivial⟩) fun a b h=>h) (.nil _)))))))) rfl;rintro pg v H' ⟨rfl,rfl,hcase⟩;refine⟨fun h=>(nomatch h),?_⟩;rcases hcase with⟨hallz,rfl⟩|⟨p,hp,hz1,hz2,rfl⟩
  ·refine⟨_,_,_,_,rfl,?_⟩;cbv;refine a0s ?_;by_cases hc:NN=nc
   ·refine (j6i hS hc).trans ?_;exact (hr.2 ⟨hc.symm,fun j hj=>((hzf j).1 (hallz j (by omega))).1.2,fun j hj=>((hzf j).1 (hallz j (by omega))).2⟩).symm
   ·refine (j6f hS hc).trans ?_;cases r with
    |false=>rfl
    |true=>exact absurd (hr.1 rfl).1.symm hc
  ·refine⟨_,_,_,_,rfl,?_⟩;cbv;refine a0s ?_;cases r with
   |false=>rfl
   |true=>obtain⟨q1,q2,q3⟩:=hr.1 rfl;have:=(hzf p).2 ⟨⟨by omega,q2 p (by omega)⟩,q3 p (by omega)⟩;rw[this] at hz2;cases hz2
 ·intro q m pe hq hzz hlen hpe;refine k8q trow i nc A B nc lk ncs nns C D q n se m pe (SS q).fault (SS q).n (zf q) hnc6 ?_ (AR _) (fun h=> ?_) (fun h1 h2=> ?_) (fun h1 h2 h3=> ?_)
  ·rcases Nat.eq_zero_or_pos q with h0|h0
   ·omega
   ·have:=((hzf (q-1)).1 (hzz (q-1) (by omega))).1.1;omega
  ·cases hz:zf q with
   |false=>rfl
   |true=>have:=((hzf q).1 hz).1.1;omega
  ·cases hz:zf q with
   |false=>rfl
   |true=>exact absurd ((hAB q).2 ((hzf q).1 hz).1.2) h2
  ·have h4:=(hAB q).1 ⟨h2,h3⟩;have h5:=hk q h1 hq h4;rw[hav q h1] at h5;have h6:zf q=b q:=by
    cases hb:b q with
    |true=>exact (hzf q).2 ⟨⟨h1,h4⟩,hb⟩
    |false=>
     cases hz:zf q with
     |false=>rfl
     |true=>have:=((hzf q).1 hz).2;rw[hb] at this;cases this
   rw[h6];exact h5.like (.cons (AB _) (.cons (AB _) (.cons (a0x.sl' hlen.symm fun j hj=>hpe j hj) .nil)))
theorem k8l {nl:Nat}(hnl:nl<=4)(x0 x1:DV)(tl:List DV)(F:Nat->Nat->VaR)(g:Nat->Bool){K:PbR}(hK:K.nl=nl)(hKX: ∀i q,K.X i q=F q i)(hKG:K.G=g): ∀(d:Nat),d<=4-> ∀p:PlR,p.ok->p.isP d->PlR.slim d p-> ∀l:List Nat,l≠[]->l.length<=1000000->(∀i,i<nl-> ∀q,q∈l->a1i (F q i)/\0<=(F q i).fault)-> ∀r:Bool,(r=AC↔K.dc d p l)->
 a0j AA AD 124 [.dptr (x0::x1:: .int .i64 (.v nl)::tl) 0,p.av,.d (.sl 9 l.length fun j=>spR F g (l.getD j 0))] (bool r):=by
 classical
 have leaf: ∀l:List Nat,l≠[]->l.length<=1000000-> ∀r:Bool,(r=AC↔k1e K.G l)->a0j AA AC 130 [.d (.sl 9 l.length fun j=>spR F g (l.getD j 0))] (bool r):=fun l hl0 hll r hr=>by
  obtain⟨dd,hdd⟩: ∃dd:Bool,dd=AC↔ ∃i,i<l.length/\g (l.getD i 0)≠g (l.getD 0 0):=⟨decide _,decide_eq_true_iff⟩;have h130:=a1e (k2h (AK.2 hl0) hll (fun j=>spR F g (l.getD j 0)) (fun i k=>(F (l.getD i 0) k).fault) (fun i k=>(F (l.getD i 0) k).n) (fun i=>g (l.getD i 0)) (fun i=>rfl) dd hdd);have:r=!dd:=by
   rw[hKG,k1q] at hr;cases dd with
   |true=>
    obtain⟨i,h1,h2⟩:=hdd.1 rfl;cases r with
    |false=>rfl
    |true=>exact absurd (hr.1 rfl i h1) h2
   |false=>exact hr.2 fun j hj=>AH fun h=>by have:=hdd.2 ⟨j,hj,h⟩;cases this
  rw[this];exact h130
 intro d
 induction d with
 |zero=>intro _ p hp hP hsl l hl0 hll hok r hr;obtain⟨a1,a2,a3,a4,a5⟩:=hP;have h0:p.look= -1:=AH fun h=>absurd (a5 h).1 (AQ 0);exact k8b p h0 (leaf l hl0 hll r (hr.trans (PbR.dc_leaf h0)))
 |succ d ih=>
  intro hd p hp hP hsl l hl0 hll hok r hr;obtain⟨a1,a2,a3,a4,a5⟩:=hP;by_cases h0:p.look= -1
  ·exact k8b p h0 (leaf l hl0 hll r (hr.trans (PbR.dc_leaf h0)))
  obtain⟨i,hi⟩: ∃i:Nat,p.look=i:=⟨p.look.toNat,by omega⟩;rw[PbR.dc_node hi,hK] at hr;by_cases hil:i<nl
  rotate_left
  ·have:r=AD:=by cases r with
    |false=>rfl
    |true=>exact absurd (hr.1 rfl).1 hil
   subst this;exact k8i p (by omega)
  obtain⟨_,b2,b3⟩:=a5 h0;obtain⟨_,_,_,_,o5⟩:=p.ok_iff.1 hp;refine k8g hnl F g hl0 hll p a3 (by have:=hsl.1;omega) hi hil (hok i hil) (X:=K.X i) (fun q=>(hKX i q).symm) (fun j=>decide (K.dc d (p.nx j) (K.pt i l j))) (fun j hj hj2 hc=> ?_) ?_
  ·have hne:K.pt i l j≠[]:=j9e (j8e hj2);exact ih (by omega) (p.nx j) (o5 j (by omega)) (b3 j hj).2.2 (hsl.2.2 j (by omega)) _ hne (AN (AO _ _) hll) (fun i' hi' q hq=>hok i' hi' q (j8c.1 hq).1) _ decide_eq_true_iff
  ·rw[hr];simp only[decide_eq_true_eq];exact⟨fun h=>h.2,fun h=>⟨hil,h⟩⟩
theorem k8j (A B:DiR){ns no nl:Nat}{sz od:Nat->Int}{lk:Nat->DiR}(q:PlR){fe:Int}(h0:fe≠0)(h35:a0j AA AC 35 [q.av] (int fe)):
 a0j AA AC 89 [q.av,isl ns sz,isl no od,dsl nl lk,A.av,B.av] (bool AD):=by
 obtain⟨ins,isz,ino,iod,ine,ien,inn,ivar,ink,ikid,iroot⟩:=A;obtain⟨gns,gsz,gno,god,gne,gen,gnn,gvar,gnk,gkid,groot⟩:=B;obtain⟨l',nc,nn,C,D,h1,_⟩:=q.avX;rw[h1] at h35⊢;clear h1;refine a1e (a0k AF okP g7c _ rfl fun E Sg hbs hS=> ?_);have e:=b2k hS;have g0:Sg.bnot (Sg.ieq fe (AE 0))=AC:=by rw[e.ieq,e.bnot,beq_false_of_ne (show fe≠AE 0 from h0)];rfl
 cbv;refine a0v hS _ h35 ?_;cbv;simp only[g0];cbv;exact AB _
theorem k8r (A B:DiR){ns no nl:Nat}{sz od:Nat->Int}{lk:Nat->DiR}(q:PlR){er:Int}(h0:er≠0)(h35:a0j AA AC 35 [q.av] (int 0))(h108:a0j AA AD 108 [isl ns sz,isl no od,dsl nl lk,A.av,B.av] (.tuple [.d (.raw (.pointer none)),int er])):
 a0j AA AC 89 [q.av,isl ns sz,isl no od,dsl nl lk,A.av,B.av] (bool AD):=by
 obtain⟨ins,isz,ino,iod,ine,ien,inn,ivar,ink,ikid,iroot⟩:=A;obtain⟨gns,gsz,gno,god,gne,gen,gnn,gvar,gnk,gkid,groot⟩:=B;obtain⟨l',nc,nn,C,D,h1,_⟩:=q.avX;rw[h1] at h35⊢;clear h1;refine a1e (a0k AF okP g7c _ rfl fun E Sg hbs hS=> ?_);have e:=b2k hS;have g0:Sg.bnot (Sg.ieq 0 (AE 0))=AD:=by rw[e.ieq,e.bnot];rfl
 have g1:Sg.ieq er (AE 0)=AD:=by rw[e.ieq];exact beq_false_of_ne h0
 cbv;refine a0v hS _ h35 ?_;cbv;simp only[e.ieq,e.bnot];cbv;refine a0v hS _ h108 ?_;cbv;simp only[g1];cbv;exact AB _
theorem k8s (A B:DiR){ns no nl:Nat}{sz od:Nat->Int}{lk:Nat->DiR}(q:PlR){x0 x1 x2 x3:DV}{n:Nat}{e4:Nat->List DV}{r:Bool}(h35:a0j AA AC 35 [q.av] (int 0))(h108:a0j AA AD 108 [isl ns sz,isl no od,dsl nl lk,A.av,B.av] (.tuple [.dptr [x0,x1,x2,x3,.sl 9 n e4] 0,int 0]))
 (h124:a0j AA AD 124 [.dptr [x0,x1,x2,x3,.sl 9 n e4] 0,q.av,.d (.sl 9 n e4)] (bool r)):
 a0j AA AC 89 [q.av,isl ns sz,isl no od,dsl nl lk,A.av,B.av] (bool r):=by
 obtain⟨ins,isz,ino,iod,ine,ien,inn,ivar,ink,ikid,iroot⟩:=A;obtain⟨gns,gsz,gno,god,gne,gen,gnn,gvar,gnk,gkid,groot⟩:=B;obtain⟨l',nc,nn,C,D,h1,_⟩:=q.avX;rw[h1] at h35 h124⊢;clear h1;refine a1e (a0k AF okP g7c _ rfl fun E Sg hbs hS=> ?_);have e:=b2k hS;cbv;refine a0v hS _ h35 ?_;cbv;simp only[e.ieq,e.bnot];cbv;refine a0v hS _ h108 ?_;cbv;simp only[e.ieq,e.bnot];cbv;refine a0v hS _ h124 ?_;cbv;exact AB _
theorem k8n (c:CaR)(hns:c.ns<=8)(hno:c.no<=8)(hnl:c.nl<=6)(hl: ∀i,i<c.nl->(c.lk i).fit)(hi:c.inn.fit)(hg:c.goal.fit)(p q:PlR)(h36:a0j AA AD 36 [p.av] q.av){r:Bool}(h89:a0j AA AC 89 [q.av,isl c.ns c.sz,isl c.no c.od,dsl c.nl c.lk,c.inn.av,c.goal.av] (bool r)):
 a0j AA AC 47 [c.av,p.av] (bool r):=by
 have q1:=h7c (n:=c.ns) (by omega) c.sz;have q2:=h7c (n:=c.no) (by omega) c.od;have q3:=h9z c.nl (by omega) c.lk hl;have q4:=h8i c.inn hi;have q5:=h8i c.goal hg;obtain⟨l',nc,nn,C,D,h1,_⟩:=p.avX;rw[h1] at h36⊢;clear h1;obtain⟨l2,nc2,nn2,C2,D2,h1,_⟩:=q.avX;rw[h1] at h36 h89;clear h1;obtain⟨ns,sz,no,od,nl,lk,⟨ins,isz,ino,iod,ine,ien,inn,ivar,ink,ikid,iroot⟩,⟨gns,gsz,gno,god,gne,gen,gnn,gvar,gnk,gkid,groot⟩⟩:=c;simp only[CaR.av,DiR.cs,AI,AJ] at*
 refine a1e (a0k AF okP g9f _ rfl fun E Sg hbs hS=> ?_);have e:=b2k hS;cbv
 repeat' (first|(refine a0v hS _ h36 ?_;cbv)|(refine a0v hS _ q1 ?_;cbv)|(refine a0v hS _ q2 ?_;cbv)|(refine a0v hS _ q3 ?_;cbv)|(refine a0v hS _ q4 ?_;cbv)|(refine a0v hS _ q5 ?_;cbv)|(refine a0v hS _ h89 ?_;cbv)|refine a1g hS (c3d hS) ?_)
 exact AB _
theorem k8f (c:CaR)(p:PlR)(z18 z23:Bool)(h18:a0j AA AC 18 [c.av] (bool z18))(h23:a0j AA AC 23 [p.av] (bool z23))(h:z18=AD\/z23=AD):a0j AA AC 8 [c.av,p.av] (bool AC):=by
 have haw:=c4a;obtain⟨l',nc,nn,C,D,h1,_⟩:=p.avX;rw[h1] at h23⊢;clear h1;obtain⟨ns,sz,no,od,nl,lk,⟨ins,isz,ino,iod,ine,ien,inn,ivar,ink,ikid,iroot⟩,⟨gns,gsz,gno,god,gne,gen,gnn,gvar,gnk,gkid,groot⟩⟩:=c;simp only[CaR.av,DiR.cs,AI,AJ] at*
 refine a1e (a0k AF okP ok8 _ rfl fun E Sg hbs hS=> ?_);cbv;refine a0v hS _ h18 ?_;cases z18
 ·cbv;refine a0v hS _ haw ?_;cbv;exact AB _
 obtain rfl:z23=AD:=by simpa using h
 cbv;refine a0v hS _ h23 ?_;cbv;refine a0v hS _ haw ?_;cbv;exact AB _
theorem k8e (c:CaR)(p:PlR)(h18:a0j AA AC 18 [c.av] (bool AC))(h23:a0j AA AC 23 [p.av] (bool AC)){er:Int}(h0:er≠0){k1 k2:DV}(h21:a0j AA AD 21 [c.av] (.tuple [.d .nil,.agg [.d k1,.d k2],int er]))(h47:a0j AA AC 47 [c.av,p.av] (bool AD)):a0j AA AC 8 [c.av,p.av] (bool AC):=by
 have haw:=c4a;obtain⟨l',nc,nn,C,D,h1,_⟩:=p.avX;rw[h1] at h23 h47⊢;clear h1;obtain⟨ns,sz,no,od,nl,lk,⟨ins,isz,ino,iod,ine,ien,inn,ivar,ink,ikid,iroot⟩,⟨gns,gsz,gno,god,gne,gen,gnn,gvar,gnk,gkid,groot⟩⟩:=c;simp only[CaR.av,DiR.cs,AI,AJ] at*
 refine a1e (a0k AF okP ok8 _ rfl fun E Sg hbs hS=> ?_);have e:=b2k hS;have g1:Sg.ieq er (AE 0)=AD:=by rw[e.ieq];exact beq_false_of_ne h0
 cbv;refine a0v hS _ h18 ?_;cbv;refine a0v hS _ h23 ?_;cbv;refine a0v hS _ h21 ?_;cbv;simp only[g1];cbv;refine a0v hS _ h47 ?_;cbv;simp only[e.beq,BEq.rfl];cbv;refine a0v hS _ haw ?_;cbv;exact AB _
theorem k8a (c:CaR)(p:PlR)(h18:a0j AA AC 18 [c.av] (bool AC))(h23:a0j AA AC 23 [p.av] (bool AC)){n nl T:Nat}{W:Nat->Int}{X:Nat->Nat->VaR}{G:Nat->Bool}(h21:a0j AA AD 21 [c.av] (.tuple [isl n W,.agg (knC nl T X G),int 0]))
 {z r:Bool} (h24:a0j AA AC 24 [p.av,int 4] (bool z)) (h46:z=AC->a0j AA AC 46 [.agg (knC nl T X G),isl n W,p.av] (bool r)) (h47:a0j AA AC 47 [c.av,p.av] (bool r)) (hr:z=AD->r=AD):a0j AA AC 8 [c.av,p.av] (bool AC):=by
 have haw:=c4a;obtain⟨l',nc,nn,C,D,h1,_⟩:=p.avX;rw[h1] at h23 h24 h46 h47⊢;clear h1;obtain⟨ns,sz,no,od,nl',lk,⟨ins,isz,ino,iod,ine,ien,inn,ivar,ink,ikid,iroot⟩,⟨gns,gsz,gno,god,gne,gen,gnn,gvar,gnk,gkid,groot⟩⟩:=c;simp only[CaR.av,DiR.cs,AI,AJ,knC] at*
 refine a1e (a0k AF okP ok8 _ rfl fun E Sg hbs hS=> ?_);have e:=b2k hS;cbv;refine a0v hS _ h18 ?_;cbv;refine a0v hS _ h23 ?_;cbv;refine a0v hS _ h21 ?_;cbv;simp only[e.ieq,BEq.rfl];cbv;refine a0v hS _ h24 ?_;cases z
 ·obtain rfl:=hr rfl;cbv;refine a0v hS _ h47 ?_;cbv;simp only[e.beq,BEq.rfl];cbv;refine a0v hS _ haw ?_;cbv;exact AB _
 ·have h46:=h46 rfl;have g2:Sg.beq r r=AC:=by rw[e.beq];simp
  cbv;refine a0v hS _ h46 ?_;cbv;refine a0v hS _ h47 ?_;cbv;simp only[g2];cbv;refine a0v hS _ haw ?_;cbv;exact AB _
theorem CaR.ok.prove {c:CaR}{T:Nat}(h:c.ok T)(hT:T<=36)(hpos:0<(c.P T).length)
 (h108:a0j AA AD 108 [isl c.ns c.sz,isl c.no c.od,dsl c.nl c.lk,c.inn.av,c.goal.av] (.tuple [.dptr (i0q c.ns c.sz c.no c.od c.nl (c.P T).length (fun j=>(c.W T j:Int)) c.X c.G) 0,int 0])) (p:PlR) (hp:p.ok) (hcnt:PlR.cnt 6 p<300) {r:Bool} (hr:r=AC↔p.isP 4/\c.K.dc 4 p (c.P T)):
 a0j AA AC 47 [c.av,p.av] (bool r):=by
 classical
 have hf:=h.fit;have hl: ∀i,i<c.nl->(c.lk i).fit:=fun i hi=>by have:=hf.dg i (by omega);rwa [c.dg_lk hi] at this
 have hi:c.inn.fit:=by have:=hf.dg c.nl (by omega);rwa [c.dg_in] at this
 have hg:c.goal.fit:=by have:=hf.dg (c.nl+1) (by omega);rwa [c.dg_goal] at this
 obtain⟨z24,hz24⟩: ∃z:Bool,z=AC↔p.isP 4:=⟨decide _,decide_eq_true_iff⟩;have h35:=e0r p hp hcnt z24 hz24;have h36:=d1z p hcnt;have hlen:(c.P T).length<=T:=h8g _ T;have hne:c.P T≠[]:=AK.1 hpos;have hmem: ∀p,p∈c.P T->p<T:=fun p hp=>((i0h _ T _).1 hp).1;refine k8n c hf.ns hf.no hf.nl hl hi hg p (PlR.cut 6 p) h36 ?_;cases z24 with
 |false=>
  have:r=AD:=by cases r with
   |false=>rfl
   |true=>have:=hz24.2 (hr.1 rfl).1;cases this
  subst this;exact k8j _ _ _ (by decide) h35
 |true=>
  have hP:p.isP 4:=hz24.1 rfl;have hr2:r=AC↔c.K.dc 4 p (c.P T):=hr.trans ⟨fun h=>h.2,fun h=>⟨hP,h⟩⟩;have hq:(PlR.cut 6 p).isP 4:=(PlR.isP_cut 4 6 p (by omega)).2 hP;have h124:=k8l h.nl (.sl 1 c.ns fun i=>[.int .i64 (.v (c.sz i))]) (.sl 1 c.no fun i=>[.int .i64 (.v (c.od i))]) [.sl 1 (c.P T).length fun j=>[.int .i64 (.v (c.W T j:Int))],.sl 9 (c.P T).length fun j=>spR c.F c.G ((c.P T).getD j 0)] c.F c.G (K:=c.Kp fun _=>AD) rfl (fun _ _=>rfl) rfl 4 (by omega) (PlR.cut 6 p) (PlR.ok_cut 6 p hp) hq (PlR.slim_cut 6 p hcnt 4) (c.P T) hne (by omega) (fun i hi q hq=>by
   show a1i (cel c.nl c.X i q)/\0<=(cel c.nl c.X i q).fault;unfold cel;rw[if_pos hi];exact h.cell (by omega) (hmem q hq)) r (hr2.trans (((c.K_same _).dc).trans (PbR.dc_cut 4 6 p _ (by omega)).symm))
  exact k8s _ _ _ h35 h108 h124
theorem k8h (c:CaR)(hw:c.wf)(p:PlR)(hp:p.ok):a0j AA AC 8 [c.av,p.av] (bool AC):=by
 classical
 have h18:=i3u c (decide (h6v c)) (by simp);have h23:=e4c p hp (decide (PlR.cnt 6 p<300)) (by simp);by_cases hall:h6v c/\PlR.cnt 6 p<300
 rotate_left
 ·refine k8f c p _ _ h18 h23 ?_;by_cases h1:h6v c
  ·exact .inr (decide_eq_false fun h2=>hall ⟨h1,h2⟩)
  ·exact .inl (decide_eq_false h1)
 obtain⟨ht,hcnt⟩:=hall;rw[decide_eq_true ht] at h18;rw[decide_eq_true hcnt] at h23;have hf:=ht.fit hw;have hl: ∀i,i<c.nl->(c.lk i).fit:=fun i hi=>by have:=hf.dg i (by omega);rwa [c.dg_lk hi] at this
 have hi:c.inn.fit:=by have:=hf.dg c.nl (by omega);rwa [c.dg_in] at this
 have hg:c.goal.fit:=by have:=hf.dg (c.nl+1) (by omega);rwa [c.dg_goal] at this
 obtain⟨z24,hz24⟩: ∃z:Bool,z=AC↔p.isP 4:=⟨decide _,decide_eq_true_iff⟩;have h24:=d1b 4 (by omega) p hp z24 hz24;have h35:=e0r p hp hcnt z24 hz24;have h36:=d1z p hcnt;have h47:=fun {r:Bool} (h89:a0j AA AC 89 [(PlR.cut 6 p).av,isl c.ns c.sz,isl c.no c.od,dsl c.nl c.lk,c.inn.av,c.goal.av] (bool r))=>k8n c hf.ns hf.no hf.nl hl hi hg p (PlR.cut 6 p) h36 h89;rcases i1x c ht hw with⟨er,h0,⟨k1,k2,h21⟩,h108⟩|⟨T,h,hT,hpos,h21,h108⟩
 ·refine k8e c p h18 h23 h0 h21 (h47 ?_);cases z24 with
  |false=>exact k8j _ _ _ (by decide) h35
  |true=>exact k8r _ _ _ h0 h35 h108
 have hlen:(c.P T).length<=T:=h8g _ T;have hne:c.P T≠[]:=AK.1 hpos;have hmem: ∀p,p∈c.P T->p<T:=fun p hp=>((i0h _ T _).1 hp).1;obtain⟨r,hr⟩: ∃r:Bool,r=AC↔p.isP 4/\c.K.dc 4 p (c.P T):=⟨decide _,decide_eq_true_iff⟩;have hpv:=h.prove hT hpos h108 p hp hcnt hr;cases z24 with
 |false=>
  have:r=AD:=by cases r with
   |false=>rfl
   |true=>have:=hz24.2 (hr.1 rfl).1;cases this
  subst this;exact k8a c p h18 h23 h21 h24 (fun e=>by cases e) hpv (fun _=>rfl)
 |true=>have hP:p.isP 4:=hz24.1 rfl;have h46:=k8o (K:=c.K) h.nl (show T<=1000000 by omega) (X:=c.X) (G:=c.G) rfl (fun _=>rfl) rfl 4 (by omega) p hp hP (c.P T) hne (by omega) hmem r (hr.trans ⟨fun h=>h.2,fun h=>⟨hP,h⟩⟩);exact k8a c p h18 h23 h21 h24 (fun _=>h46) hpv (fun e=>by cases e)
end Go.Proofs.Tryz.Run
