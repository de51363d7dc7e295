/- The plain law: a loose diagram comes out of the maker as it is just if the reference calls it a diagram. The reference's Search. Conditions: none. -/
import Derived.Test.YtbglklaocjifhaaGreatFLr
import Derived.Test.YtbglklaocjifhaaGreatFNa
import Derived.Test.YtbglklaocjifhaaGreatFNb
import Derived.Test.YtbglklaocjifhaaGreatFNc
import Derived.Test.YtbglklaocjifhaaGreatFQd
set_option linter.unusedSimpArgs false
set_option linter.unusedVariables false
namespace Go.Proofs.Tryz.Run
open Go Go.Vf Go.Proofs
open Go.Proofs.YtbglklaocjifhaaGreat
instance:DecidableEq VaR:=fun a b=>match a,b with
 |⟨x,y⟩,⟨u,v⟩=>if h:x=u/\y=v then isTrue (by rw[h.1,h.2]) else isFalse fun e=>h (by cases e;exact⟨rfl,rfl⟩)
structure NdR where
 var:Int
 kids:List Int
namespace Law
section
variable (E:List VaR) (N:List NdR)
variable {E N}
end
end Law
namespace Law
end Law
end Go.Proofs.Tryz.Run
