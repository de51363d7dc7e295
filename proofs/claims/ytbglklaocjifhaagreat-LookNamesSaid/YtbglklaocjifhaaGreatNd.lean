/- LookNames answers true. Conditions: none. -/
import Derived.Test.YtbglklaocjifhaaGreatNa
import Derived.Test.YtbglklaocjifhaaGreatNb
import Derived.Test.YtbglklaocjifhaaGreatNc
namespace Go.Proofs.YtbglklaocjifhaaGreat
open Go Go.Vf

def isTrue (v : CA) : Bool :=
  match v with
  | .d (.bool b) => b
  | _ => false

theorem isTrue_ok {v : CA} (h : isTrue v = true) : v = .d (.bool true) := by
  unfold isTrue at h
  split at h
  · rw [h]
  · cases h

set_option maxHeartbeats 0 in
set_option maxRecDepth 1000000 in
theorem names_run : (XSn Tryz.Run.tab 4000).pcall true 15 [] isTrue = true := by kernel_rfl

theorem names_true : PureF Tryz.prog true 15 [] (.d (.bool true)) := by
  obtain ⟨r, h1, h2⟩ := pure_of_run Tryz.mixed Tryz.Run.okP Tryz.Run.tab_ok 4000 names_run
  rw [isTrue_ok h1] at h2
  exact h2

theorem look_names : Rows.LookNamesSaid := names_holds names_true

end Go.Proofs.YtbglklaocjifhaaGreat
