/- awake answers true. Conditions: none. -/
import Derived.Test.YtpcokdalcafgdaaGreatZNa
import Derived.Test.YtpcokdalcafgdaaGreatZNb
import Derived.Test.YtpcokdalcafgdaaGreatZNc
namespace Go.Proofs.YtpcokdalcafgdaaGreat
open Go Go.Vf
def yes (v:CA):Bool:=
 match v with
 | .d (.bool b)=>b
 |_=>false
theorem yes_ok {v:CA}(h:yes v=true):v= .d (.bool true):=by
 unfold yes at h
 split at h
 ·rw[h]
 ·cases h
set_option maxHeartbeats 0 in
set_option maxRecDepth 1000000 in
theorem awake_run:(XSn Tryz.Run.tab 4000).pcall true 17 [] yes=true:=by kernel_rfl
theorem awake_true:PureF Tryz.prog true 17 [] (.d (.bool true)):=by
 obtain⟨r,h1,h2⟩:=pure_of_run Tryz.mixed Tryz.Run.okP Tryz.Run.tab_ok 4000 awake_run
 rw[yes_ok h1] at h2
 exact h2
end Go.Proofs.YtpcokdalcafgdaaGreat
