/- The reference's Apart. LookApart answers true. Conditions: none. -/
import Derived.Test.YtbglklaocjifhaaGreatCHm
import Derived.Test.YtbglklaocjifhaaGreatCHt
import Derived.Test.YtbglklaocjifhaaGreatCHx
open Go.Proofs.Tryz renaming prog->AA
set_option linter.unusedSimpArgs false
set_option linter.unusedVariables false
namespace Go.Proofs.Tryz.Run
open Go Go.Vf Go.Proofs
open Go.Proofs.YtbglklaocjifhaaGreat
theorem h6k {g h:Nat->Int}: ∀{n:Nat},(∀j,j<n->g j=h j)->h4d g n=h4d h n
 |0,_=>rfl
 |n+1,e=>by rw[h4d,h4d,h6k fun j hj=>e j (by omega),e n (by omega)]
def CaR.wf (c:CaR):Prop:= ∀i,i<c.nl+2->(c.dg i).wf
theorem h6v.dg {c:CaR}(h:h6v c): ∀i,i<c.nl+2->h6e (c.dg i):=fun i hi=>by
 unfold CaR.dg;by_cases h1:i<c.nl
 ·rw[if_pos h1];exact h.2.2.2.1 i h1
 ·rw[if_neg h1];by_cases h2:i=c.nl
  ·rw[if_pos h2];exact h.2.1
  ·rw[if_neg h2];exact h.2.2.1
theorem h6v.fit {c:CaR}(h:h6v c)(hw:c.wf):c.fit:=
 ⟨h.1.1,h.1.2.1,h.1.2.2,fun i hi=>(h.dg i hi).fit (hw i hi),fun i hi j hj=>(hw i hi).2.2 j hj,fun i hi=>(h.dg i hi).1.2.1⟩
structure CaR.ok (c:CaR)(T:Nat):Prop where
 fit:c.fit
 nl:c.nl<=4
 fr:h4e c.ns c.no c.sz c.od=0
 hT:(T:Int)=h4d c.sz c.ns
 di: ∀i,i<c.nl+2->i6l (c.dg i)
 Td: ∀i,i<c.nl+2->(T:Int)=h4d (c.dg i).sz (c.dg i).ns
 err: ∀i,i<c.nl+2->h5o (c.dg i)=0
theorem CaR.ok_of {c:CaR}(hf:c.fit)(h:h6t c 0): ∃T:Nat,c.ok T:=by
 rcases h with⟨h1,h2⟩|⟨h1,⟨_,h2⟩|⟨h2,h3⟩⟩
 ·exact absurd h2.symm h1
 ·cases h2
 ·obtain⟨k1,k2,k3,k4,_⟩:=h4s h1;have hp:=h4r (g:=c.sz) (n:=c.ns) fun i hi=>(k2 i hi).1;obtain⟨T,hT⟩: ∃T:Nat,(T:Int)=h4d c.sz c.ns:=⟨(h4d c.sz c.ns).toNat,by omega⟩;rcases h3 with⟨i,a,b,d,e⟩|⟨a,⟨b,_⟩|⟨_,b⟩⟩
  ·exact absurd e.symm d
  ·refine⟨T,hf,h2,h1,hT,fun i hi=>i0u (a i hi),fun i hi=> ?_,a⟩;obtain⟨e1,e2⟩:=h7a.1 (b i hi).1;rw[hT,e1];exact h6k fun j hj=>(e2 j (by omega)).symm
  ·cases b
theorem CaR.ok.T36 {c:CaR}{T:Nat}(h:c.ok T)(ht:h6v c):T<=36:=by
 rcases ht.2.2.2.2 with h1|h1
 ·exact absurd h.fr h1
 ·have:=h.hT;omega
def CaR.X (c:CaR)(i:Nat):Nat->VaR:=(c.dg i).cell
def CaR.P (c:CaR)(T:Nat):List Nat:=plc (c.X c.nl) T
def CaR.W (c:CaR)(T:Nat)(j:Nat):Nat:=(c.P T).getD j 0
noncomputable def CaR.G (c:CaR)(p:Nat):Bool:=by classical exact decide (c.X (c.nl+1) p=⟨0,1⟩)
section
variable {c:CaR} {T:Nat}
theorem CaR.ok.c42 (h:c.ok T)(hE:h6t c 0):a0j AA true 42 [c.av] (int 0):=i2f c h.fit 0 hE
theorem CaR.ok.c98 (h:c.ok T)(hE:h6t c 0):a0j AA true 98 [isl c.ns c.sz,isl c.no c.od,dsl c.nl c.lk,c.inn.av,c.goal.av] (int 0):=i0p c h.fit 0 hE
theorem CaR.ok.list (h:c.ok T)(i:Nat)(hi:i<c.nl+2):a0j AA false 54 [(c.dg i).av] (vsl T (c.X i)):=i6a (c.dg i) (h.di i hi) (h.fit.dg i hi) (h.Td i hi)
theorem CaR.ok.list2 (h:c.ok T)(i:Nat)(hi:i<c.nl+2):a0j AA false 170 [(c.dg i).av] (.tuple [vsl T (c.X i),int 0]):=
 i5u (c.dg i) (h.fit.dg i hi) (h.fit.flt i hi) (by have:=h.fit.od i hi;omega) 0 (h.err i hi) _ (.inr ⟨rfl,T,h.Td i hi,rfl⟩)
theorem CaR.ok.lk54 (h:c.ok T)(i:Nat)(hi:i<c.nl):a0j AA false 54 [(c.lk i).av] (vsl T (c.X i)):=by have:=h.list i (by omega);rwa [c.dg_lk hi] at this
theorem CaR.ok.in54 (h:c.ok T):a0j AA false 54 [c.inn.av] (vsl T (c.X c.nl)):=by have:=h.list c.nl (by omega);rwa [c.dg_in] at this
theorem CaR.ok.go54 (h:c.ok T):a0j AA false 54 [c.goal.av] (vsl T (c.X (c.nl+1))):=by have:=h.list (c.nl+1) (by omega);rwa [c.dg_goal] at this
theorem CaR.ok.lk170 (h:c.ok T)(i:Nat)(hi:i<c.nl):a0j AA false 170 [(c.lk i).av] (.tuple [vsl T (c.X i),int 0]):=by have:=h.list2 i (by omega);rwa [c.dg_lk hi] at this
theorem CaR.ok.in170 (h:c.ok T):a0j AA false 170 [c.inn.av] (.tuple [vsl T (c.X c.nl),int 0]):=by have:=h.list2 c.nl (by omega);rwa [c.dg_in] at this
theorem CaR.ok.go170 (h:c.ok T):a0j AA false 170 [c.goal.av] (.tuple [vsl T (c.X (c.nl+1)),int 0]):=by have:=h.list2 (c.nl+1) (by omega);rwa [c.dg_goal] at this
theorem CaR.G_iff (c:CaR)(p:Nat):c.G p=true↔c.X (c.nl+1) p=⟨0,1⟩:=by unfold CaR.G;exact decide_eq_true_iff
theorem CaR.ok.places (h:c.ok T)(hT:T<=36):a0j AA false 29 [c.av] (.tuple [isl (c.P T).length fun j=>(c.W T j:Int),.agg (knC c.nl T c.X c.G)]):=
 i3f c T (by omega) (by have:=h.nl;omega) c.X (c.X c.nl) (c.X (c.nl+1)) (h.lk54) h.in54 h.go54 c.G c.G_iff
theorem CaR.ok.read (h:c.ok T)(hE:h6t c 0)(hT:T<=36):a0j AA false 131 [isl c.ns c.sz,isl c.no c.od,dsl c.nl c.lk,c.inn.av,c.goal.av] (.tuple [.dptr (i0q c.ns c.sz c.no c.od c.nl (c.P T).length (fun j=>(c.W T j:Int)) c.X c.G) 0,int 0]):=
 i4v c.inn c.goal (by omega) h.nl (h.c98 hE) c.X (c.X c.nl) (c.X (c.nl+1)) h.lk170 h.in170 h.go170 c.G c.G_iff
end
end Go.Proofs.Tryz.Run
