/- OrderAdded: for every core and every operation the statement answers true, and the arguments read as they did. Conditions: none. -/
import Derived.Test.YtpcokdalcafgdaaGreatLh
import Derived.Test.YtpcokdalcafgdaaGreatRc
import Derived.Test.YtpcokdalcafgdaaGreatRows
import Derived.Carry
set_option linter.unusedSimpArgs false
set_option linter.unusedVariables false
namespace Go.Proofs.YtpcokdalcafgdaaGreat
open Go.ChangeShapes Go.WideShapes Go.ChangeAt Go.RowKit Go.Vf Go.Proofs.Tryz.Run

section
variable {H : Type} {enc : TypeId × Value → H} {w : World} {spare : Nat → Bool} {held : Bool}

theorem op_read {v : Value} {d : DataW H} {ps : List MemPlace} (h : DataW.Trod enc Tryz.prog w 0 spare held 62 v d ps) : ∃ o : OpR, VR w (allS w) noRho o.av v := by
  obtain ⟨fuel, h⟩ := h
  obtain ⟨hl, hf⟩ := struct_read f62 h
  rw [k62] at hl
  obtain ⟨_, _, q0⟩ := hf 0 5 0 rfl
  obtain ⟨_, _, q1⟩ := hf 1 3 1 rfl
  obtain ⟨_, _, q2⟩ := hf 2 3 2 rfl
  obtain ⟨_, _, q3⟩ := hf 3 3 3 rfl
  obtain ⟨_, _, q4⟩ := hf 4 3 4 rfl
  rw [k5] at q0
  rw [k3] at q1 q2 q3 q4
  obtain ⟨z0, _, e0⟩ := int_read u5 q0
  obtain ⟨z1, _, e1⟩ := int_read u3 q1
  obtain ⟨z2, _, e2⟩ := int_read u3 q2
  obtain ⟨z3, _, e3⟩ := int_read u3 q3
  obtain ⟨z4, _, e4⟩ := int_read u3 q4
  refine ⟨⟨z0, z1, z2, z3, z4⟩, ?_⟩
  obtain ⟨c0, c1, c2, c3, c4, hv⟩ := list5 hl
  rw [hv] at e0 e1 e2 e3 e4
  simp at e0 e1 e2 e3 e4
  subst e0 e1 e2 e3 e4
  have : ∃ cs, v = .agg cs ∧ cs.toList = [.int .u8 z0, .int .i64 z1, .int .i64 z2, .int .i64 z3, .int .i64 z4] := by
    cases v with
    | agg cs => exact ⟨cs, rfl, by simpa [Value.cells] using hv⟩
    | _ => simp [Value.cells] at hv
  obtain ⟨cs, rfl, hcs⟩ := this
  have hcs' : cs = #[.int .u8 z0, .int .i64 z1, .int .i64 z2, .int .i64 z3, .int .i64 z4] := by apply Array.ext'; simpa using hcs
  subst hcs'
  refine .agg _ _ rfl fun i x u hx hu => ?_
  match i, hx, hu with
  | 0, hx, hu => simp at hx hu; subst hx; subst hu; exact .d (.int _ _)
  | 1, hx, hu => simp at hx hu; subst hx; subst hu; exact .d (.int _ _)
  | 2, hx, hu => simp at hx hu; subst hx; subst hu; exact .d (.int _ _)
  | 3, hx, hu => simp at hx hu; subst hx; subst hu; exact .d (.int _ _)
  | 4, hx, hu => simp at hx hu; subst hx; subst hu; exact .d (.int _ _)

end

theorem added_calls (c : CoR) (o : OpR) (W : World) (v u : Value) (hv : VR W (allS W) noRho c.av v) (hu : VR W (allS W) noRho o.av u) :
    Calls Tryz.prog 11 #[v, u] W fun e w' => e = .returned (.bool true) ∧ Below W.heap.size W w' := by
  refine ((orderAdded11 c o).2 W (allS W) #[v, u] (fun _ h => h) ⟨rfl, fun i x y hx hy => ?_⟩).mono fun e w' hR => ?_
  · match i, hx, hy with
    | 0, hx, hy => simp at hx hy; subst hx; subst hy; exact hv
    | 1, hx, hy => simp at hx hy; subst hx; subst hy; exact hu
    | i + 2, hx, hy => simp at hx
  · obtain ⟨v, S', h1, h2, _, h3⟩ := hR
    cases h2 with
    | d h2 => cases h2; exact ⟨h1, h3.os, h3.tape, h3.output, h3.size, h3.frame⟩

theorem added_lifted (os : Os) (started : os.Started) (H : Type) (enc : TypeId × Value → H) :
    ReturnsInHanded {} Tryz.checked os 11 .any (Rows.orderAddedSpec.pre6 enc Tryz.prog Tryz.f11 Rows.orderAddedRow.domain false) (Rows.orderAddedSpec.post enc Tryz.prog Tryz.f11 false true false false) := by
  refine returnsInHanded_of_change (C := Tryz.checked) Tryz.own started (by kernel_rfl) Tryz.func11
    (ChangeSpec.witness6 (enc := enc) (C := Tryz.checked) false ⟨#[], #[.agg #[.slice none 0 0, .slice none 0 0, .slice none 0 0], .agg #[.int .u8 0, .int .i64 0, .int .i64 0, .int .i64 0, .int .i64 0]], []⟩ 8 (by kernel_rfl) (by kernel_rfl) (by kernel_rfl) (by kernel_rfl)) ?_
  intro W base args ds gs before hval0 hW hcnd _
  have hW' := hW
  obtain ⟨p, q, hA0, hV, rfl, hfz, hnd⟩ := hW
  have hA : DataW.TrodAll enc Tryz.prog W 0 (fun _ => true) true Tryz.f11.params.toList args.toList ds p := hA0
  have hlt : ∀ x ∈ p, x.block < W.heap.size := fun x hx => DataW.TrodAll.lt hA0 x hx
  rw [show Tryz.f11.params.toList = [50, 62] from by kernel_rfl] at hA
  obtain ⟨v, u, d, d', p1, p2, rfl, rfl, rfl, hd, hd'⟩ := trodAll_two hA
  obtain ⟨hg, hq⟩ := trodVars_none hV
  subst hg hq
  obtain ⟨c, hc⟩ := core_read hd
  obtain ⟨o, ho⟩ := op_read hd'
  refine (added_calls c o W v u hc ho).mono fun e W' ⟨he, hb⟩ => ?_
  subst he
  refine ⟨_, rfl, [d, d'], [], _, [], p1 ++ p2, [], hW', ?_, ?_, ?_, hb.frame _, fun h => by cases h⟩
  · rw [show Tryz.f11.resultTypes = #[4] from by kernel_rfl]
    exact trodAll_mk1 (shut_bool (by kernel_rfl) true)
  · rw [show Tryz.f11.params.toList = [50, 62] from by kernel_rfl]
    exact trodAll_mk2 (Below.trod Tryz.laidOut (by kernel_rfl) (of_decide_eq_true (by kernel_rfl)) hd hb fun x hx => hlt x (by simp [hx]))
      (Below.trod Tryz.laidOut (by kernel_rfl) (of_decide_eq_true (by kernel_rfl)) hd' hb fun x hx => hlt x (by simp [hx]))
  · exact rfl

theorem order_added : Rows.OrderAddedSaid :=
  OpenClaim.holds_of_wide 11 Tryz.f11 rfl rfl rfl rfl rfl rfl rfl ⟨rfl, rfl, rfl, rfl, rfl⟩ rfl rfl rfl rfl rfl (by kernel_rfl) Tryz.func11 (by kernel_rfl)
    (of_decide_eq_true (by kernel_rfl)) (by unfold Func.isWrapper; first | (rw [if_pos (by decide +kernel)]; kernel_rfl) | (rw [if_neg (by decide +kernel)]; exact ⟨rfl, rfl⟩))
    (fun os started H enc _ => added_lifted os started H enc)

end Go.Proofs.YtpcokdalcafgdaaGreat
