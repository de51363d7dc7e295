/- The program's node: lists that are equal, within, numbers, tests of all elements. Clone, Sort and CheckFrame of the program's node. Sorting few numbers. Sort of few numbers; CheckFrame. Conditions: none. -/
import Derived.Test.YtbglklaocjifhaaGreatFLr
import Derived.Test.YtbglklaocjifhaaGreatFNa
import Derived.Test.YtbglklaocjifhaaGreatFNb
import Derived.Test.YtbglklaocjifhaaGreatFNc
import Derived.Test.YtbglklaocjifhaaGreatFQf
set_option linter.unusedSimpArgs false
set_option linter.unusedVariables false
namespace Go.Proofs.Tryz.Run
open Go Go.Vf Go.Proofs
open Go.Proofs.YtbglklaocjifhaaGreat
theorem c9c (a:Int):a0j Tryz.prog true 255 [int a] (bool false):=by
 refine a1e (a0k Tryz.mixed okP e4n _ rfl fun E Sg hb hS=> ?_)
 cbv
 refine a0s ?_
 subst hS
 simp[std]
end Go.Proofs.Tryz.Run
