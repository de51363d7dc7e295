/- The program's Sift. Conditions: none. -/
import Derived.Test.YtpcokdalcafgdaaGreatBLq
import Derived.Test.YtpcokdalcafgdaaGreatBNa
import Derived.Test.YtpcokdalcafgdaaGreatBNc
import Derived.Test.YtpcokdalcafgdaaGreatBLh
import Derived.Test.YtpcokdalcafgdaaGreatBNb
import Derived.Test.YtpcokdalcafgdaaGreatBOh
import Derived.Test.YtpcokdalcafgdaaGreatBPm0
import Derived.Test.YtpcokdalcafgdaaGreatBQd
import Derived.Test.YtpcokdalcafgdaaGreatBQf
import Derived.Test.YtpcokdalcafgdaaGreatBXk
set_option linter.unusedSimpArgs false
set_option linter.unusedVariables false
namespace Go.Proofs.Tryz.Run
open Go Go.Vf Go.Proofs
open Go.Proofs.YtpcokdalcafgdaaGreat
def b0i (g:Nat->Nat):Nat->Nat
 |0=>0
 |m+1=>if m=0 then 0 else if g m<g (b0i g m) then m else b0i g m
theorem c4p {g:Nat->Nat}: ∀{m:Nat},0<m->b0i g m<m
 |0,h=>by omega
 |m+1,_=>by
  rw[b0i]
  split
  ·omega
  ·split
   ·omega
   ·have:=c4p (g:=g) (m:=m) (by omega);omega
section
variable {n:Nat} {l:Nat->DiR}
end
end Go.Proofs.Tryz.Run
