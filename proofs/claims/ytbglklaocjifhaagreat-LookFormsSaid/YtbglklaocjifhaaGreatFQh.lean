/- IsLoose. IsDiagram, CheckLoose and Check of the reference. Conditions: none. -/
import Derived.Test.YtbglklaocjifhaaGreatFLr
import Derived.Test.YtbglklaocjifhaaGreatFNa
import Derived.Test.YtbglklaocjifhaaGreatFNb
import Derived.Test.YtbglklaocjifhaaGreatFNc
import Derived.Test.YtbglklaocjifhaaGreatFQd
import Derived.Test.YtbglklaocjifhaaGreatFQf
set_option linter.unusedSimpArgs false
set_option linter.unusedVariables false
namespace Go.Proofs.Tryz.Run
open Go Go.Vf Go.Proofs
open Go.Proofs.YtbglklaocjifhaaGreat
theorem VaR.eq_iff {f n f' n':Int}:(VaR.mk f n=VaR.mk f' n')↔f=f'/\n=n':=by
 constructor
 ·intro h;injection h with a b;exact⟨a,b⟩
 ·rintro⟨rfl,rfl⟩;rfl
end Go.Proofs.Tryz.Run
