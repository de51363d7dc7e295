/- The program's node: cells, ranks, kids. The program's node: ranks, kids, branches. The program's loose diagrams: what is open, and that it is so just if the reference says so. Conditions: none. -/
import Derived.Test.YtbglklaocjifhaaGreatFLr
import Derived.Test.YtbglklaocjifhaaGreatFNa
import Derived.Test.YtbglklaocjifhaaGreatFNb
import Derived.Test.YtbglklaocjifhaaGreatFNc
import Derived.Test.YtbglklaocjifhaaGreatFQf
set_option linter.unusedSimpArgs false
set_option linter.unusedVariables false
namespace Go.Proofs.Tryz.Run
open Go Go.Vf Go.Proofs
open Go.Proofs.YtbglklaocjifhaaGreat
theorem d2b {n:Nat}{P:Nat->Prop}{p:Nat->Bool}(hp: ∀i,p i=true↔ ¬P i){r:Bool}(hr:r=true↔ ∀i,i<n->P i):(!r)=true↔ ∃i,i<n/\p i=true:=by
 cases r
 ·have hr: ¬ ∀i,i<n->P i:=fun h=>Bool.noConfusion (hr.2 h)
  simp only[Bool.not_false,true_iff]
  exact Classical.byContradiction fun h=>hr fun i hi=>Classical.byContradiction fun h'=>h ⟨i,hi,(hp i).2 h'⟩
 ·have hr:=hr.1 rfl
  simp only[Bool.not_true,Bool.false_eq_true,false_iff]
  rintro⟨i,hi,h⟩
  exact (hp i).1 h (hr i hi)
end Go.Proofs.Tryz.Run
