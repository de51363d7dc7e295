/- The reference's Decided, Within and Best. The reference's Within. Cells alike; plans alike; a plan with nothing in it. Conditions: none. -/
import Derived.Test.YtbglklaocjifhaaGreatCXk
open List renaming getD_eq_getElem?_getD->AA,getElem?_eq_getElem->AB,getElem_of_mem->AE
open Go.Vf.a0x renaming refl->AC
open Int renaming ofNat->AD
set_option linter.unusedSimpArgs false
set_option linter.unusedVariables false
set_option maxHeartbeats 0
namespace Go.Proofs.Tryz.Run
open Go Go.Vf Go.Proofs
open Go.Proofs.YtbglklaocjifhaaGreat
def pll (l:List Nat):AV:=isl l.length fun j=>((l.getD j 0:Nat):Int)
theorem j9r {l:List Nat}{j:Nat}(h:j<l.length):l.getD j 0∈l:=by rw[AA,AB h];exact List.getElem_mem h
theorem k1q {G:Nat->Bool}{l:List Nat}:k1e G l↔ ∀j,j<l.length->G (l.getD j 0)=G (l.getD 0 0):=by
 constructor
 ·intro h j hj;exact h _ (j9r hj) _ (j9r (by omega))
 ·intro h p hp q hq;obtain⟨i,hi,e1⟩:=AE hp;obtain⟨j,hj,e2⟩:=AE hq;have h1:=h i hi;have h2:=h j hj;rw[AA,AB hi] at h1;rw[AA,AB hj] at h2;simp only[Option.getD_some] at h1 h2;rw[<-e1,<-e2,h1,h2]
theorem k2k {nl T:Nat}(hT:T<=1000000){X:Nat->Nat->VaR}{G:Nat->Bool}{l:List Nat}(hl:l.length<=1000000)(hW: ∀p,p∈l->p<T){r:Bool}(hr:r=true↔k1e G l):
 a0j Tryz.prog true 60 [.agg (knC nl T X G),pll l] (bool r):=by
 rw[k1q] at hr;have hW2: ∀j,j<l.length->l.getD j 0<T:=fun j hj=>hW _ (j9r hj);unfold pll;obtain⟨W,hWe⟩: ∃W:Nat->Nat,∀j,l.getD j 0=W j:=⟨_,fun _=>rfl⟩;obtain⟨n,hn⟩: ∃n,l.length=n:=⟨_,rfl⟩;simp only[hWe,hn] at*
 unfold knC;refine a1e (a0k Tryz.mixed okP k4r _ rfl fun E Sg hbs hS=> ?_);have e:=b2k hS;have en: ∀k:Nat,nat Sg (IX.v (AD k))=k:=fun k=>by show Sg.toNat (AD k)=k;rw[e.toNat];rfl
 cbv;refine a7r Tryz.mixed okP hS (fun i=>i<=n/\ ∀j,j<i->G (W j)=G (W 0)) (fun i=>n-i)
  (fun i=>⟨b5r [(1,isl n fun j=>(W j:Int)),(2,.ptr 0 0),(5,int i)] 28,[.var [.d (.sl 1 nl fun i=>[.sl 2 T fun p=>(X i p).row]),.d (.sl 1 T fun p=>[.bool (G p)])]],[]⟩) 0 ⟨by omega,by omega⟩ ?_ ?_
 ·exact a4c rfl ⟨AC _,AC _,a6c rfl,trivial⟩ (.same _) (by simp;omega) (.inr rfl) rfl
 ·intro i hi N hN;cbv;split
  ·rename_i h;have hlt:i<n:=d3r hS h;have wi:=hW2 i hlt;have w0:=hW2 0 (by omega);cbv;have en0:nat Sg (IX.l (AD 0))=0:=rfl;simp only[en,en0];refine a1g hS (a5p hS hlt) (a1g hS (a5p hS (show 0<n by omega)) (a1g hS (a5p hS wi) (a1g hS (a5p hS w0) ?_)));simp only[e.bnot,e.beq];obtain⟨q,hq⟩: ∃q,(!(G (W i)==G (W 0)))=q:=⟨_,rfl⟩;rw[hq];cases q
   ·cbv;refine a1g hS (e1n hS (by omega)) ?_;refine hN (i+1) _ ⟨hlt,fun j hj=> ?_⟩ (by omega) (a4c rfl ⟨AC _,AC _,b2s hS,trivial⟩ (.same _) (by simp;omega) (.inr rfl) rfl);by_cases ej:j=i
    ·subst ej;simpa using hq
    ·exact hi.2 j (by omega)
   ·cbv;refine e8z hr fun hall=> ?_;rw[hall i hlt] at hq;simp at hq
  ·rename_i h;have hin:n<=i:=d3c hS h;cbv;exact h8e hr fun j hj=>hi.2 j (by omega)
theorem k3z {n m:Nat}(hn:n<=140737488355328)(f g:Nat->VaR){r:Bool}(hr:r=true↔n=m/\ ∀i,i<n->f i=g i):a0j Tryz.prog true 62 [vsl n f,vsl m g] (bool r):=by
 obtain⟨A,hA⟩: ∃A:Nat->Int,∀i,(f i).fault=A i:=⟨_,fun _=>rfl⟩;obtain⟨B,hB⟩: ∃A:Nat->Int,∀i,(f i).n=A i:=⟨_,fun _=>rfl⟩;obtain⟨C,hC⟩: ∃A:Nat->Int,∀i,(g i).fault=A i:=⟨_,fun _=>rfl⟩;obtain⟨D,hD⟩: ∃A:Nat->Int,∀i,(g i).n=A i:=⟨_,fun _=>rfl⟩;have heq: ∀i,f i=g i↔A i=C i/\B i=D i:=fun i=>by
  rw[<-hA,<-hB,<-hC,<-hD];constructor
  ·intro h;rw[h];exact⟨rfl,rfl⟩
  ·rintro⟨h1,h2⟩;cases hf:f i;cases hg:g i;rw[hf,hg] at h1 h2;simp only at h1 h2;rw[h1,h2]
 simp only[heq] at hr;unfold vsl;simp only[VaR.row,hA,hB,hC,hD];clear heq hA hB hC hD;refine a1e (a0k Tryz.mixed okP g9q _ rfl fun E Sg hbs hS=> ?_);have e:=b2k hS;have en: ∀k:Nat,nat Sg (IX.v (AD k))=k:=fun k=>by show Sg.toNat (AD k)=k;rw[e.toNat];rfl
 by_cases hnm:n=m
 rotate_left
 ·have hb:Sg.bnot (Sg.ieq (Sg.ofNat n) (Sg.ofNat m))=true:=by rw[e.bnot,e.ieq,e.ofNat,e.ofNat,beq_false_of_ne (by omega)];rfl
  cbv;simp only[hb];cbv;exact e8z hr fun h=>hnm h.1
 subst hnm;have hb:Sg.bnot (Sg.ieq (Sg.ofNat n) (Sg.ofNat n))=false:=by rw[e.bnot,e.ieq];simp
 cbv;simp only[hb];cbv;refine a7r Tryz.mixed okP hS (fun i=>i<=n/\ ∀j,j<i->A j=C j/\B j=D j) (fun i=>n-i)
  (fun i=>⟨b5r [(0,.d (.sl 2 n fun i=>[.int .u8 (.v (A i)),.int .i64 (.v (B i))])),(1,.d (.sl 2 n fun i=>[.int .u8 (.v (C i)),.int .i64 (.v (D i))])),(5,int i)] 26,[],[]⟩) 0 ⟨by omega,by omega⟩ ?_ ?_
 ·exact a4c rfl ⟨AC _,AC _,a6c rfl,trivial⟩ (.same _) (by simp;omega) (.inr rfl) rfl
 ·intro i hi N hN;cbv;split
  ·rename_i h;have hlt:i<n:=d3r hS h;cbv;simp only[en];refine a1g hS (a5p hS hlt) (a1g hS (a5p hS hlt) ?_);simp only[e.bnot,e.band,e.ieq];obtain⟨q,hq⟩: ∃q,(!(A i==C i&&(B i==D i&&true)))=q:=⟨_,rfl⟩;rw[hq];cases q
   ·cbv;refine a1g hS (a4p hS (by simp only[Int.ofNat_eq_natCast];omega)) ?_;refine hN (i+1) _ ⟨hlt,fun j hj=> ?_⟩ (by omega) (a4c rfl ⟨AC _,AC _,b2s hS,trivial⟩ (.same _) (by simp;omega) (.inr rfl) rfl);by_cases ej:j=i
    ·subst ej;simpa using hq
    ·exact hi.2 j (by omega)
   ·cbv;refine e8z hr fun hall=> ?_;obtain⟨h1,h2⟩:=hall.2 i hlt;rw[h1,h2] at hq;simp at hq
  ·rename_i h;have hin:n<=i:=d3c hS h;cbv;exact h8e hr ⟨rfl,fun j hj=>hi.2 j (by omega)⟩
end Go.Proofs.Tryz.Run
