/- awake answers true. Conditions: none. -/
import Derived.Test.YtbglklaocjifhaaGreatALr
import Derived.Test.YtbglklaocjifhaaGreatANa
import Derived.Test.YtbglklaocjifhaaGreatANb
import Derived.Test.YtbglklaocjifhaaGreatANc
import Derived.Test.YtbglklaocjifhaaGreatAQf
import Derived.Test.YtbglklaocjifhaaGreatAHy
set_option linter.unusedSimpArgs false
set_option linter.unusedVariables false
set_option maxHeartbeats 0
set_option maxRecDepth 1000000
namespace Go.Proofs.YtbglklaocjifhaaGreat
open Go Go.Vf
def yes (v:CA):Bool:=
 match v with
 | .d (.bool b)=>b
 |_=>false
theorem e4r {v:CA}(h:yes v=true):v= .d (.bool true):=by
 unfold yes at h
 split at h
 ·rw[h]
 ·cases h
theorem c7j:(XSn Tryz.Run.tab 4000).pcall true 19 [] yes=true:=by kernel_rfl
theorem c4a:a0j Tryz.prog true 19 [] (.d (.bool true)):=by
 obtain⟨r,h1,h2⟩:=c0g Tryz.mixed Tryz.Run.okP Tryz.Run.tab_ok 4000 c7j
 rw[e4r h1] at h2
 exact h2
end Go.Proofs.YtbglklaocjifhaaGreat
