/- awake answers true. Conditions: none. -/
import Derived.Test.YtpcokdalcafgdaaGreatWLq
import Derived.Test.YtpcokdalcafgdaaGreatWNa
import Derived.Test.YtpcokdalcafgdaaGreatWNc
import Derived.Test.YtpcokdalcafgdaaGreatWLh
import Derived.Test.YtpcokdalcafgdaaGreatWNb
import Derived.Test.YtpcokdalcafgdaaGreatWOh
import Derived.Test.YtpcokdalcafgdaaGreatWPm0
set_option maxHeartbeats 0
set_option maxRecDepth 1000000
namespace Go.Proofs.YtpcokdalcafgdaaGreat
open Go Go.Vf
def yes (v:CA):Bool:=
 match v with
 | .d (.bool b)=>b
 |_=>false
theorem f0l {v:CA}(h:yes v=true):v= .d (.bool true):=by
 unfold yes at h
 split at h
 ·rw[h]
 ·cases h
theorem d6y:(XSn Tryz.Run.tab 4000).pcall true 17 [] yes=true:=by kernel_rfl
theorem d0x:a0j Tryz.prog true 17 [] (.d (.bool true)):=by
 obtain⟨r,h1,h2⟩:=b6h Tryz.mixed Tryz.Run.okP Tryz.Run.tab_ok 4000 d6y
 rw[f0l h1] at h2
 exact h2
end Go.Proofs.YtpcokdalcafgdaaGreat
