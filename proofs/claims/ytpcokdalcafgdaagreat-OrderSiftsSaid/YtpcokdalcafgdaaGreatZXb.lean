/- The plain law of OrderSums: the numbers of a family. OrderSums: ready, a copy that grows. Conditions: none. -/
import Derived.Test.YtpcokdalcafgdaaGreatZUi
import Derived.Test.YtpcokdalcafgdaaGreatZOi
import Derived.Test.YtpcokdalcafgdaaGreatZUk
set_option linter.unusedSimpArgs false
set_option linter.unusedVariables false
namespace Go.Proofs.Tryz.Run
open Go Go.Vf Go.Proofs
open Go.Proofs.YtpcokdalcafgdaaGreat
end Go.Proofs.Tryz.Run
