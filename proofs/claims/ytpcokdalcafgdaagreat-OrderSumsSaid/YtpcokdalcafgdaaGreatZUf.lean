/- The reference's nodes of a family. Conditions: none. -/
import Derived.Test.YtpcokdalcafgdaaGreatZUe
import Derived.Test.YtpcokdalcafgdaaGreatZLo
import Derived.Test.YtpcokdalcafgdaaGreatZPm0
set_option linter.unusedSimpArgs false
set_option linter.unusedVariables false
namespace Go.Proofs.Tryz.Run
open Go Go.Vf Go.Proofs
open Go.Proofs.YtpcokdalcafgdaaGreat
def arB (q:Nat)(av:Nat→Int)(an:Nat→Nat)(ak:Nat→Nat→Int):AObj:= .arr 2 q fun j=>[.int .i64 (.v (av j)),.sl 1 (an j) fun k=>[.int .i64 (.v (ak j k))]]
end Go.Proofs.Tryz.Run
