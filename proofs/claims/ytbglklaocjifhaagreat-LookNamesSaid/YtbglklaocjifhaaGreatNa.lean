/- LookNames: out of a run of the runner to the row's statement. Conditions: none. -/
import Derived.Test.YtbglklaocjifhaaGreatMn
import Derived.Test.YtbglklaocjifhaaGreatRows
import Derived.ProofKit
namespace Go.Proofs.YtbglklaocjifhaaGreat
open Go.ChangeShapes Go.WideShapes Go.ChangeAt Go.RowKit Go.Vf

theorem Tryz.own : ownKnob Tryz.prog.godebug = none := by kernel_rfl
theorem Tryz.laidOut : laidOutB Tryz.prog = true := by kernel_rfl
theorem Tryz.mixed : Tryz.prog.follows .mixedOrders = true := by kernel_rfl

theorem names_calls (h : PureF Tryz.prog true 15 [] (.d (.bool true))) (W : World) :
    Calls Tryz.prog 15 #[] W fun e w' => e = .returned (.bool true) ∧ Below W.heap.size W w' := by
  refine (h.2 W (fun _ => False) #[] (fun _ h => h.elim) ⟨rfl, by simp⟩).mono fun e w' hR => ?_
  obtain ⟨v, S', h1, h2, _, h3⟩ := hR
  cases h2 with
  | d h2 => cases h2; exact ⟨h1, h3.os, h3.tape, h3.output, h3.size, h3.frame⟩

theorem names_lifted (h : PureF Tryz.prog true 15 [] (.d (.bool true))) (os : Os) (started : os.Started) (H : Type) (enc : TypeId × Value → H) :
    ReturnsInHanded {} Tryz.checked os 15 .any (Rows.lookNamesSpec.pre6 enc Tryz.prog Tryz.f15 Rows.lookNamesRow.domain false) (Rows.lookNamesSpec.post enc Tryz.prog Tryz.f15 false true false false) := by
  refine returnsInHanded_of_change (C := Tryz.checked) Tryz.own started (by kernel_rfl) Tryz.func15
    (ChangeSpec.witness6 (enc := enc) (C := Tryz.checked) false ⟨#[], #[], []⟩ 8 (by kernel_rfl) (by kernel_rfl) (by kernel_rfl) (by kernel_rfl)) ?_
  intro W base args ds gs before hval0 hW hcnd _
  have hW' := hW
  obtain ⟨p, q, hA0, hV, rfl, hfz, hnd⟩ := hW
  have hA : DataW.TrodAll enc Tryz.prog W 0 (fun _ => true) true Tryz.f15.params.toList args.toList ds p := hA0
  rw [show Tryz.f15.params.toList = [] from by kernel_rfl] at hA
  obtain ⟨ha, hd, hp⟩ := trodAll_nil hA
  obtain ⟨hg, hq⟩ := trodVars_none hV
  subst hd hp hg hq
  have ha' : args = #[] := by simpa using ha
  subst ha'
  refine (names_calls h W).mono fun e W' ⟨he, hb⟩ => ?_
  subst he
  refine ⟨_, rfl, [], [], _, [], [], [], hW', ?_, ?_, ?_, hb.frame _, fun h => by cases h⟩
  · rw [show Tryz.f15.resultTypes = #[4] from by kernel_rfl]
    exact trodAll_mk1 (shut_bool (by kernel_rfl) true)
  · rw [show Tryz.f15.params.toList = [] from by kernel_rfl]
    exact trodAll_mk0
  · exact rfl

theorem names_holds (h : PureF Tryz.prog true 15 [] (.d (.bool true))) : Rows.LookNamesSaid :=
  OpenClaim.holds_of_wide 15 Tryz.f15 rfl rfl rfl rfl rfl rfl rfl ⟨rfl, rfl, rfl, rfl, rfl⟩ rfl rfl rfl rfl rfl (by kernel_rfl) Tryz.func15 (by kernel_rfl)
    (of_decide_eq_true (by kernel_rfl)) (by unfold Func.isWrapper; first | (rw [if_pos (by decide +kernel)]; kernel_rfl) | (rw [if_neg (by decide +kernel)]; exact ⟨rfl, rfl⟩))
    (fun os started H enc _ => names_lifted h os started H enc)

end Go.Proofs.YtbglklaocjifhaaGreat
