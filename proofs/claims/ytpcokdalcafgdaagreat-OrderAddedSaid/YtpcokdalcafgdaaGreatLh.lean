/- Reading of arguments: cores, operations, integers. Conditions: none. -/
import Derived.Test.YtpcokdalcafgdaaGreatLg
import Derived.Test.YtpcokdalcafgdaaGreatNc
import Derived.Test.YtpcokdalcafgdaaGreatNa
set_option linter.unusedSimpArgs false
set_option linter.unusedVariables false
namespace Go.Proofs.YtpcokdalcafgdaaGreat
open Go.ChangeShapes Go.WideShapes Go.ChangeAt Go.RowKit Go.Vf Go.Proofs.Tryz.Run

/-- The fields' types and places of a struct. -/
noncomputable def fieldsOf (t : TypeId) : Option (List (TypeId × Nat)) :=
  match Tryz.prog.underlying t with
  | some (.struct fs) => some (fs.toList.map fun f => (f.type, f.offset))
  | _ => none

theorem u47 : Tryz.prog.underlying 47 = some (.slice 116) := by kernel_rfl
theorem u48 : Tryz.prog.underlying 48 = some (.slice 62) := by kernel_rfl
theorem u29 : Tryz.prog.underlying 29 = some (.slice 3) := by kernel_rfl
theorem u3 : Tryz.prog.underlying 3 = some (.int .i64) := by kernel_rfl
theorem u5 : Tryz.prog.underlying 5 = some (.int .u8) := by kernel_rfl
theorem f50 : fieldsOf 50 = some [(47, 0), (48, 1), (29, 2)] := by kernel_rfl
theorem f62 : fieldsOf 62 = some [(5, 0), (3, 1), (3, 2), (3, 3), (3, 4)] := by kernel_rfl
theorem f116 : fieldsOf 116 = some [(9, 0), (3, 1), (3, 2)] := by kernel_rfl
theorem u9 : Tryz.prog.underlying 9 = some .string := by kernel_rfl
theorem k116 : Tryz.prog.cellsOf 116 = 3 := by kernel_rfl
theorem k62 : Tryz.prog.cellsOf 62 = 5 := by kernel_rfl
theorem k3 : Tryz.prog.cellsOf 3 = 1 := by kernel_rfl
theorem k5 : Tryz.prog.cellsOf 5 = 1 := by kernel_rfl
theorem k9 : Tryz.prog.cellsOf 9 = 1 := by kernel_rfl
theorem k50 : Tryz.prog.cellsOf 50 = 3 := by kernel_rfl
theorem k47 : Tryz.prog.cellsOf 47 = 1 := by kernel_rfl
theorem k48 : Tryz.prog.cellsOf 48 = 1 := by kernel_rfl
theorem k29 : Tryz.prog.cellsOf 29 = 1 := by kernel_rfl

section
variable {H : Type} {enc : TypeId × Value → H} {w : World} {spare : Nat → Bool} {held : Bool}

theorem struct_read {t : TypeId} {l : List (TypeId × Nat)} (hf : fieldsOf t = some l) {fuel : Nat} {cs : List Value} {x : DataW H × List MemPlace} (h : DataW.trod enc Tryz.prog w 0 spare held fuel t cs = some x) :
    cs.length = Tryz.prog.cellsOf t ∧ ∀ (i : Nat) (ty : TypeId) (off : Nat), l[i]? = some (ty, off) → ∃ n y, DataW.trod enc Tryz.prog w 0 spare held n ty ((cs.drop off).take (Tryz.prog.cellsOf ty)) = some y := by
  unfold fieldsOf at hf
  split at hf
  · rename_i fs hu
    cases hf
    obtain ⟨xs, n, _, _, h1, h2, h3⟩ := DataW.trod_struct hu h
    refine ⟨h1, fun i ty off hi => ?_⟩
    rw [List.getElem?_map] at hi
    cases hfi : fs.toList[i]? with
    | none => simp [hfi] at hi
    | some f =>
      simp [hfi] at hi
      obtain ⟨rfl, rfl⟩ := hi
      have hfi' : fs[i]? = some f := by simpa using hfi
      have hlt : i < fs.size := (Array.getElem?_eq_some_iff.1 hfi').1
      have := h3 i f hfi'
      rw [show xs[i]? = some (xs[i]'(by omega)) from List.getElem?_eq_getElem _] at this
      exact ⟨n, _, this⟩
  · cases hf

theorem string_read {t : TypeId} (ht : Tryz.prog.underlying t = some .string) {fuel : Nat} {cs : List Value} {x : DataW H × List MemPlace} (h : DataW.trod enc Tryz.prog w 0 spare held fuel t cs = some x) :
    ∃ l : List UInt8, cs = [.string ⟨l.toArray⟩] := by
  obtain ⟨s, h1, _⟩ := DataW.trod_string ht h
  exact ⟨s.data.toList, by rw [h1]⟩

instance : Inhabited OpR := ⟨⟨0, 0, 0, 0, 0⟩⟩
instance : Inhabited ChR := ⟨⟨[], 0, 0⟩⟩

theorem ints_read {fuel : Nat} {cs : List Value} {x : DataW H × List MemPlace} (h : DataW.trod enc Tryz.prog w 0 spare held fuel 29 cs = some x) :
    ∃ (v : Value) (n : Nat) (g : Nat → Int), cs = [v] ∧ DVR w (allS w) (.sl 1 n fun i => [.int .i64 (.v (g i))]) v := by
  obtain ⟨v, n, f, h1, h2, _⟩ := slice_read u29 h (α := Int) (fun z => [.int .i64 (.v z)]) (fun _ => True) k3 (by omega) fun n cs y hl hy => by
    obtain ⟨z, _, rfl⟩ := int_read u3 hy
    exact ⟨z, trivial, row_one (.int _ _)⟩
  exact ⟨v, n, f, h1, h2⟩

theorem list3 {α : Type} {l : List α} (h : l.length = 3) : ∃ a b c, l = [a, b, c] := by
  match l, h with
  | [a, b, c], _ => exact ⟨a, b, c, rfl⟩

theorem list5 {α : Type} {l : List α} (h : l.length = 5) : ∃ a b c d e, l = [a, b, c, d, e] := by
  match l, h with
  | [a, b, c, d, e], _ => exact ⟨a, b, c, d, e, rfl⟩

theorem ops_read {fuel : Nat} {cs : List Value} {x : DataW H × List MemPlace} (h : DataW.trod enc Tryz.prog w 0 spare held fuel 48 cs = some x) :
    ∃ (v : Value) (n : Nat) (o : Nat → OpR), cs = [v] ∧ DVR w (allS w) (.sl 5 n fun i => (o i).row) v := by
  obtain ⟨v, n, f, h1, h2, _⟩ := slice_read u48 h (α := OpR) OpR.row (fun _ => True) k62 (by omega) fun n cs y hl hy => by
    obtain ⟨_, hf⟩ := struct_read f62 hy
    obtain ⟨c0, c1, c2, c3, c4, rfl⟩ := list5 hl
    · skip
      obtain ⟨_, _, q0⟩ := hf 0 5 0 rfl
      obtain ⟨_, _, q1⟩ := hf 1 3 1 rfl
      obtain ⟨_, _, q2⟩ := hf 2 3 2 rfl
      obtain ⟨_, _, q3⟩ := hf 3 3 3 rfl
      obtain ⟨_, _, q4⟩ := hf 4 3 4 rfl
      rw [k5] at q0
      rw [k3] at q1 q2 q3 q4
      simp at q0 q1 q2 q3 q4
      obtain ⟨z0, _, e0⟩ := int_read u5 q0
      obtain ⟨z1, _, e1⟩ := int_read u3 q1
      obtain ⟨z2, _, e2⟩ := int_read u3 q2
      obtain ⟨z3, _, e3⟩ := int_read u3 q3
      obtain ⟨z4, _, e4⟩ := int_read u3 q4
      simp at e0 e1 e2 e3 e4
      subst e0 e1 e2 e3 e4
      exact ⟨⟨z0, z1, z2, z3, z4⟩, trivial, row_cons (.int _ _) (row_cons (.int _ _) (row_cons (.int _ _) (row_cons (.int _ _) (row_one (.int _ _)))))⟩
  exact ⟨v, n, f, h1, h2⟩

theorem choices_read {fuel : Nat} {cs : List Value} {x : DataW H × List MemPlace} (h : DataW.trod enc Tryz.prog w 0 spare held fuel 47 cs = some x) :
    ∃ (v : Value) (n : Nat) (o : Nat → ChR), cs = [v] ∧ DVR w (allS w) (.sl 3 n fun i => (o i).row) v := by
  obtain ⟨v, n, f, h1, h2, _⟩ := slice_read u47 h (α := ChR) ChR.row (fun _ => True) k116 (by omega) fun n cs y hl hy => by
    obtain ⟨_, hf⟩ := struct_read f116 hy
    obtain ⟨c0, c1, c2, rfl⟩ := list3 hl
    · skip
      obtain ⟨_, _, q0⟩ := hf 0 9 0 rfl
      obtain ⟨_, _, q1⟩ := hf 1 3 1 rfl
      obtain ⟨_, _, q2⟩ := hf 2 3 2 rfl
      rw [k9] at q0
      rw [k3] at q1 q2
      simp at q0 q1 q2
      obtain ⟨z0, e0⟩ := string_read u9 q0
      obtain ⟨z1, _, e1⟩ := int_read u3 q1
      obtain ⟨z2, _, e2⟩ := int_read u3 q2
      simp at e0 e1 e2
      subst e0 e1 e2
      exact ⟨⟨z0, z1, z2⟩, trivial, row_cons (.str _) (row_cons (.int _ _) (row_one (.int _ _)))⟩
  exact ⟨v, n, f, h1, h2⟩

theorem core_read {v : Value} {d : DataW H} {ps : List MemPlace} (h : DataW.Trod enc Tryz.prog w 0 spare held 50 v d ps) : ∃ c : CoR, VR w (allS w) noRho c.av v := by
  obtain ⟨fuel, h⟩ := h
  obtain ⟨hl, hf⟩ := struct_read f50 h
  rw [k50] at hl
  obtain ⟨_, _, q0⟩ := hf 0 47 0 rfl
  obtain ⟨_, _, q1⟩ := hf 1 48 1 rfl
  obtain ⟨_, _, q2⟩ := hf 2 29 2 rfl
  rw [k47] at q0
  rw [k48] at q1
  rw [k29] at q2
  obtain ⟨v0, nc, ch, e0, r0⟩ := choices_read q0
  obtain ⟨v1, no, op, e1, r1⟩ := ops_read q1
  obtain ⟨v2, nr, rt, e2, r2⟩ := ints_read q2
  refine ⟨⟨nc, ch, no, op, nr, rt⟩, ?_⟩
  match hv : v.cells.toList, hl, e0, e1, e2 with
  | [c0, c1, c2], _, e0, e1, e2 =>
    simp at e0 e1 e2
    subst e0 e1 e2
    have : ∃ cs, v = .agg cs ∧ cs.toList = [c0, c1, c2] := by
      cases v with
      | agg cs => exact ⟨cs, rfl, by simpa [Value.cells] using hv⟩
      | _ => simp [Value.cells] at hv
    obtain ⟨cs, rfl, hcs⟩ := this
    have hcs' : cs = #[c0, c1, c2] := by apply Array.ext'; simpa using hcs
    subst hcs'
    refine .agg _ _ rfl fun i x u hx hu => ?_
    match i, hx, hu with
    | 0, hx, hu => simp at hx hu; subst hx; subst hu; exact .d r0
    | 1, hx, hu => simp at hx hu; subst hx; subst hu; exact .d r1
    | 2, hx, hu => simp at hx hu; subst hx; subst hu; exact .d r2

end


end Go.Proofs.YtpcokdalcafgdaaGreat
