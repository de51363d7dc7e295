/- Cells alike. Conditions: none. -/
import Derived.Test.YtbglklaocjifhaaGreatFXc
open List renaming getD_eq_getElem?_getD->AA,getElem?_eq_getElem->AB,getElem_of_mem->AC
set_option linter.unusedSimpArgs false
set_option linter.unusedVariables false
namespace Go.Proofs.Tryz.Run
open Go Go.Vf Go.Proofs
open Go.Proofs.YtbglklaocjifhaaGreat
theorem j9r {l:List Nat}{j:Nat}(h:j<l.length):l.getD j 0∈l:=by rw[AA,AB h];exact List.getElem_mem h
theorem k1q {G:Nat->Bool}{l:List Nat}:k1e G l↔ ∀j,j<l.length->G (l.getD j 0)=G (l.getD 0 0):=by
 constructor
 ·intro h j hj;exact h _ (j9r hj) _ (j9r (by omega))
 ·intro h p hp q hq;obtain⟨i,hi,e1⟩:=AC hp;obtain⟨j,hj,e2⟩:=AC hq;have h1:=h i hi;have h2:=h j hj;rw[AA,AB hi] at h1;rw[AA,AB hj] at h2;simp only[Option.getD_some] at h1 h2;rw[<-e1,<-e2,h1,h2]
theorem PlR.avX (r:PlR): ∃(lk:Int) (nc nn:Nat) (C D:Nat->List DV),r.av= .agg [int lk,.d (.sl 2 nc C),.d (.sl 3 nn D)]/\r.row=[.int .i64 (.v lk),.sl 2 nc C,.sl 3 nn D]:=⟨_,_,_,_,_,PlR.avE r,PlR.rowE r⟩
theorem j8x:a0x (.agg [.d (.int .i64 (.l (.ofNat 0))),.d .nil,.d .nil]) PlR.none.av:=a3x.agg (.cons (a6c rfl) (.cons a0x.nil0 (.cons a0x.nil0 .nil)))
structure S1 where
 i:Nat
 H:List a0f
 mv:List Nat
 A:Nat
 B:Nat
 Q:Nat->Nat
section
variable {l:List Nat} {X:Nat->VaR} {k0 k1:DV} {i:Nat} {H H':List a0f} {mv mv':List Nat} {A B A' B' Qn q p:Nat} {Q:Nat->Nat} {KS:List VaR}
end
end Go.Proofs.Tryz.Run
