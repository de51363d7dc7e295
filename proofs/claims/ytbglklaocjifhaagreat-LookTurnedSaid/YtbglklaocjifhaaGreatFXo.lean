/- Cells alike. Conditions: none. -/
import Derived.Test.YtbglklaocjifhaaGreatFXj
open List renaming getD_eq_getElem?_getD->AA,getElem?_eq_getElem->AC,getElem_of_mem->AE
open Go.Vf.a0x renaming refl->AB,nil0->AG
open Int renaming ofNat->AD,ofNat_eq_natCast->AF
set_option linter.unusedSimpArgs false
set_option linter.unusedVariables false
set_option maxHeartbeats 0
namespace Go.Proofs.Tryz.Run
open Go Go.Vf Go.Proofs
open Go.Proofs.YtbglklaocjifhaaGreat
theorem j9r {l:List Nat}{j:Nat}(h:j<l.length):l.getD j 0∈l:=by rw[AA,AC h];exact List.getElem_mem h
theorem k1q {G:Nat->Bool}{l:List Nat}:k1e G l↔ ∀j,j<l.length->G (l.getD j 0)=G (l.getD 0 0):=by
 constructor
 ·intro h j hj;exact h _ (j9r hj) _ (j9r (by omega))
 ·intro h p hp q hq;obtain⟨i,hi,e1⟩:=AE hp;obtain⟨j,hj,e2⟩:=AE hq;have h1:=h i hi;have h2:=h j hj;rw[AA,AC hi] at h1;rw[AA,AC hj] at h2;simp only[Option.getD_some] at h1 h2;rw[<-e1,<-e2,h1,h2]
theorem PlR.avX (r:PlR): ∃(lk:Int) (nc nn:Nat) (C D:Nat->List DV),r.av= .agg [int lk,.d (.sl 2 nc C),.d (.sl 3 nn D)]/\r.row=[.int .i64 (.v lk),.sl 2 nc C,.sl 3 nn D]:=⟨_,_,_,_,_,PlR.avE r,PlR.rowE r⟩
theorem j8x:a0x (.agg [.d (.int .i64 (.l (.ofNat 0))),.d .nil,.d .nil]) PlR.none.av:=a3x.agg (.cons (a6c rfl) (.cons AG (.cons AG .nil)))
structure S1 where
 i:Nat
 H:List a0f
 mv:List Nat
 A:Nat
 B:Nat
 Q:Nat->Nat
section
variable {l:List Nat} {X:Nat->VaR} {k0 k1:DV} {i:Nat} {H H':List a0f} {mv mv':List Nat} {A B A' B' Qn q p:Nat} {Q:Nat->Nat} {KS:List VaR}
end
theorem k3z {n m:Nat}(hn:n<=140737488355328)(f g:Nat->VaR){r:Bool}(hr:r=true↔n=m/\ ∀i,i<n->f i=g i):a0j Tryz.prog true 62 [vsl n f,vsl m g] (bool r):=by
 obtain⟨A,hA⟩: ∃A:Nat->Int,∀i,(f i).fault=A i:=⟨_,fun _=>rfl⟩;obtain⟨B,hB⟩: ∃A:Nat->Int,∀i,(f i).n=A i:=⟨_,fun _=>rfl⟩;obtain⟨C,hC⟩: ∃A:Nat->Int,∀i,(g i).fault=A i:=⟨_,fun _=>rfl⟩;obtain⟨D,hD⟩: ∃A:Nat->Int,∀i,(g i).n=A i:=⟨_,fun _=>rfl⟩;have heq: ∀i,f i=g i↔A i=C i/\B i=D i:=fun i=>by
  rw[<-hA,<-hB,<-hC,<-hD];constructor
  ·intro h;rw[h];exact⟨rfl,rfl⟩
  ·rintro⟨h1,h2⟩;cases hf:f i;cases hg:g i;rw[hf,hg] at h1 h2;simp only at h1 h2;rw[h1,h2]
 simp only[heq] at hr;unfold vsl;simp only[VaR.row,hA,hB,hC,hD];clear heq hA hB hC hD;refine a1e (a0k Tryz.mixed okP g9q _ rfl fun E Sg hbs hS=> ?_);have e:=b2k hS;have en: ∀k:Nat,nat Sg (IX.v (AD k))=k:=fun k=>by show Sg.toNat (AD k)=k;rw[e.toNat];rfl
 by_cases hnm:n=m
 rotate_left
 ·have hb:Sg.bnot (Sg.ieq (Sg.ofNat n) (Sg.ofNat m))=true:=by rw[e.bnot,e.ieq,e.ofNat,e.ofNat,beq_false_of_ne (by omega)];rfl
  cbv;simp only[hb];cbv;exact e8z hr fun h=>hnm h.1
 subst hnm;have hb:Sg.bnot (Sg.ieq (Sg.ofNat n) (Sg.ofNat n))=false:=by rw[e.bnot,e.ieq];simp
 cbv;simp only[hb];cbv;refine a7r Tryz.mixed okP hS (fun i=>i<=n/\ ∀j,j<i->A j=C j/\B j=D j) (fun i=>n-i)
  (fun i=>⟨b5r [(0,.d (.sl 2 n fun i=>[.int .u8 (.v (A i)),.int .i64 (.v (B i))])),(1,.d (.sl 2 n fun i=>[.int .u8 (.v (C i)),.int .i64 (.v (D i))])),(5,int i)] 26,[],[]⟩) 0 ⟨by omega,by omega⟩ ?_ ?_
 ·exact a4c rfl ⟨AB _,AB _,a6c rfl,trivial⟩ (.same _) (by simp;omega) (.inr rfl) rfl
 ·intro i hi N hN;cbv;split
  ·rename_i h;have hlt:i<n:=d3r hS h;cbv;simp only[en];refine a1g hS (a5p hS hlt) (a1g hS (a5p hS hlt) ?_);simp only[e.bnot,e.band,e.ieq];obtain⟨q,hq⟩: ∃q,(!(A i==C i&&(B i==D i&&true)))=q:=⟨_,rfl⟩;rw[hq];cases q
   ·cbv;refine a1g hS (a4p hS (by simp only[AF];omega)) ?_;refine hN (i+1) _ ⟨hlt,fun j hj=> ?_⟩ (by omega) (a4c rfl ⟨AB _,AB _,b2s hS,trivial⟩ (.same _) (by simp;omega) (.inr rfl) rfl);by_cases ej:j=i
    ·subst ej;simpa using hq
    ·exact hi.2 j (by omega)
   ·cbv;refine e8z hr fun hall=> ?_;obtain⟨h1,h2⟩:=hall.2 i hlt;rw[h1,h2] at hq;simp at hq
  ·rename_i h;have hin:n<=i:=d3c hS h;cbv;exact h8e hr ⟨rfl,fun j hj=>hi.2 j (by omega)⟩
theorem k4e: ∀p:PlR,p.ok->a0j Tryz.prog true 25 [p.av,p.av] (bool true):=by
 have step: ∀p:PlR,p.ok->(∀i,i<p.nn->a0j Tryz.prog true 25 [(p.nx i).av,(p.nx i).av] (bool true))->a0j Tryz.prog true 25 [p.av,p.av] (bool true):=fun p hp hk=>by
  obtain⟨lk,ncs,nns,C,E,hrow,hav,hpav⟩:=p.kids;obtain⟨_,h1,h2,_,_⟩:=p.ok_iff.1 hp;have h62:=k3z h1 p.c p.c (r:=true) ⟨fun _=>⟨rfl,fun _ _=>rfl⟩,fun _=>rfl⟩;rw[hpav];simp+contextual only[hav] at hk;clear hpav hav hrow hp;unfold vsl at*
  obtain⟨l,hl⟩: ∃l,p.look=l:=⟨_,rfl⟩;obtain⟨nc,hnc⟩: ∃l,p.nc=l:=⟨_,rfl⟩;obtain⟨nn,hnn⟩: ∃l,p.nn=l:=⟨_,rfl⟩;obtain⟨c,hc⟩: ∃l:Nat->List DV,(fun i=>(p.c i).row)=l:=⟨_,rfl⟩;rw[hnn] at h2 hk;rw[hnc,hc] at h62;rw[hl,hnc,hnn,hc];clear h1 hl hnc hnn hc;refine a1e (a0k Tryz.mixed okP h0b _ rfl fun E0 Sg hbs hS=> ?_);have e:=b2k hS;have en: ∀k:Nat,nat Sg (IX.v (AD k))=k:=fun k=>by show Sg.toNat (AD k)=k;rw[e.toNat];rfl
  have hb:Sg.bnot (Sg.ieq l l)=false:=by rw[e.bnot,e.ieq];simp
  have hb2:Sg.bnot (Sg.ieq (Sg.ofNat nn) (Sg.ofNat nn))=false:=by rw[e.bnot,e.ieq];simp
  cbv;simp only[hb];cbv;refine a0v hS _ h62 ?_;cbv;simp only[hb2];cbv;refine a7r Tryz.mixed okP hS (fun i=>i<=nn) (fun i=>nn-i)
   (fun i=>⟨b5r [(2,.ptr 0 0),(3,.ptr 1 0),(5,int i)] 47,[.var [int l,.d (.sl 2 nc c),.d (.sl 3 nn fun i=>[.int .i64 (.v (lk i)),.sl 2 (ncs i) (C i),.sl 3 (nns i) (E i)])],.var [int l,.d (.sl 2 nc c),.d (.sl 3 nn fun i=>[.int .i64 (.v (lk i)),.sl 2 (ncs i) (C i),.sl 3 (nns i) (E i)])]],[]⟩) 0 (by omega) ?_ ?_
  ·exact a4c rfl ⟨AB _,AB _,a6c rfl,trivial⟩ (.same _) (by simp;omega) (.inr rfl) rfl
  ·intro i hi N hN;cbv;split
   ·rename_i h;have hlt:i<nn:=d3r hS h;cbv;simp only[en];refine a1g hS (a5p hS hlt) (a1g hS (a5p hS hlt) ?_);refine a0v hS _ (hk i hlt) ?_;cbv;refine a1g hS (a4p hS (by simp only[AF];omega)) ?_;exact hN (i+1) _ hlt (by omega) (a4c rfl ⟨AB _,AB _,b2s hS,trivial⟩ (.same _) (by simp;omega) (.inr rfl) rfl)
   ·rename_i h;cbv;exact AB _
 intro p
 induction p with
 |none=>intro hp;exact step _ hp fun i hi=>absurd hi (Nat.not_lt_zero i)
 |mk look nc c nn nx ih=>intro hp;exact step _ hp fun i hi=>ih i (hp.2.2.2.2 i hi)
end Go.Proofs.Tryz.Run
