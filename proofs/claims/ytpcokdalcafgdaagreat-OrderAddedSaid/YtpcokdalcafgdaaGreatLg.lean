/- Arguments that read as data are data of the executor's. Conditions: none. -/
import Derived.Test.YtpcokdalcafgdaaGreatLf
import Derived.ChangeArms
import Derived.DataReads
namespace Go.Vf
open Go

section
variable {H : Type} {enc : TypeId × Value → H} {P : Program} {w : World} {spare : Nat → Bool} {held : Bool}

/-- All blocks that there are. -/
def allS (w : World) (b : Nat) : Prop := b < w.heap.size

def Row (w : World) (xs : List DV) (cs : List Value) : Prop := xs.length = cs.length ∧ ∀ (j : Nat) (x : DV) (v : Value), xs[j]? = some x → cs[j]? = some v → DVR w (allS w) x v

theorem cell_spot {a : Addr} {v : Value} (h : w.cell? a = some v) : a.spot = none ∧ a.block < w.heap.size := by
  unfold World.cell? at h
  split at h
  · rename_i c _ _ hb
    refine ⟨?_, (Array.getElem?_eq_some_iff.1 hb).1⟩
    split at h
    · cases h
    · rename_i hs; cases hh : a.spot with
      | none => rfl
      | some s => simp [hh] at hs
  · cases h

theorem add_add {a : Addr} (h : a.spot = none) (m j : Nat) : (a.add m).add j = ⟨a.block, a.off + m + j, none⟩ := by
  obtain ⟨b, o, s⟩ := a
  simp only at h
  subst h
  unfold Addr.add
  by_cases h1 : m = 0 <;> by_cases h2 : j = 0 <;> simp [h1, h2]

theorem slice_read {t e : TypeId} (ht : P.underlying t = some (.slice e)) {fuel : Nat} {cs : List Value} {x : DataW H × List MemPlace} (h : DataW.trod enc P w 0 spare held fuel t cs = some x)
    {α : Type} [Inhabited α] (row : α → List DV) (R : α → Prop) {sz : Nat} (hsz : P.cellsOf e = sz) (hpos : 0 < sz)
    (hrow : ∀ (n : Nat) (cs : List Value) (y : DataW H × List MemPlace), cs.length = sz → DataW.trod enc P w 0 spare held n e cs = some y → ∃ z : α, R z ∧ Row w (row z) cs) :
    ∃ (v : Value) (n : Nat) (f : Nat → α), cs = [v] ∧ DVR w (allS w) (.sl sz n fun i => row (f i)) v ∧ ∀ i, i < n → R (f i) := by
  classical
  rcases DataW.trod_slice ht h with ⟨rfl, _⟩ | ⟨a, len, cap, elems, rest, n, _, rfl, _, _, hlc, _, hel, hget, _⟩
  · exact ⟨_, 0, fun _ => default, rfl, .sl0 _ _ _ _, fun i hi => by omega⟩
  rw [hsz] at hget
  have hex : ∀ i, i < len → ∃ (cs : List Value) (z : α), cs.length = sz ∧ R z ∧ Row w (row z) cs ∧ ∀ j, j < sz → w.cell? ((a.add (i * sz)).add j) = cs[j]? := fun i hi => by
    have h1 := hget i hi
    have h2 : elems[i]? = some (elems[i]'(by omega)) := List.getElem?_eq_getElem _
    rw [h2, Option.bind_eq_some_iff] at h1
    obtain ⟨cs, h3, h4⟩ := h1
    obtain ⟨_, h5, h6⟩ := World.cells?_some h3
    obtain ⟨z, h7, h8⟩ := hrow n cs _ h5 h4
    exact ⟨cs, z, h5, h7, h8, h6⟩
  by_cases h0 : len = 0
  · subst h0
    exact ⟨_, 0, fun _ => default, rfl, .sl0 _ _ _ _, fun i hi => by omega⟩
  have hspot : a.spot = none ∧ a.block < w.heap.size := by
    obtain ⟨cs, z, h1, _, _, h4⟩ := hex 0 (by omega)
    have h5 := h4 0 hpos
    have h6 : cs[0]? = some (cs[0]'(by omega)) := List.getElem?_eq_getElem _
    rw [h6] at h5
    simpa [Addr.add] using cell_spot h5
  obtain ⟨C, hC⟩ : ∃ C : Nat → List Value × α, ∀ i, i < len → (C i).1.length = sz ∧ R (C i).2 ∧ Row w (row (C i).2) (C i).1 ∧ ∀ j, j < sz → w.cell? ((a.add (i * sz)).add j) = (C i).1[j]? :=
    ⟨fun i => if hi : i < len then ((hex i hi).choose, (hex i hi).choose_spec.choose) else ([], default), fun i hi => by simp only [dif_pos hi]; exact (hex i hi).choose_spec.choose_spec⟩
  obtain ⟨b, off, s⟩ := a
  simp only at hspot
  obtain ⟨rfl, hb⟩ := hspot
  refine ⟨_, len, fun i => (C i).2, rfl, .sl sz len _ b off cap (fun i j => ((C i).1[j]?).getD undef) (fun _ => hb) hlc (fun i hi => (hC i hi).2.2.1.1.trans (hC i hi).1) (fun i hi j hj => ?_) (fun i hi j x hx => ?_), fun i hi => (hC i hi).2.1⟩
  · have h1 := (hC i hi).2.2.2 j hj
    rw [add_add rfl] at h1
    have h2 : (C i).1[j]? = some ((C i).1[j]'(by rw [(hC i hi).1]; exact hj)) := List.getElem?_eq_getElem _
    rw [h1, h2]; rfl
  · have hj : j < (row (C i).2).length := (List.getElem?_eq_some_iff.1 hx).1
    have hlen : (row (C i).2).length = (C i).1.length := (hC i hi).2.2.1.1
    have h2 : (C i).1[j]? = some ((C i).1[j]'(by omega)) := List.getElem?_eq_getElem _
    rw [h2]
    exact (hC i hi).2.2.1.2 j x _ hx h2

theorem int_read {t : TypeId} {k : IntKind} (ht : P.underlying t = some (.int k)) {fuel : Nat} {cs : List Value} {x : DataW H × List MemPlace} (h : DataW.trod enc P w 0 spare held fuel t cs = some x) :
    ∃ z : Int, (k.min ≤ z ∧ z ≤ k.max) ∧ cs = [.int k z] := by
  obtain ⟨n, h1, _, h3⟩ := DataW.trod_int ht h
  simp [Lit.wf] at h3
  exact ⟨n, h3, h1⟩

theorem row_one {x : DV} {v : Value} (h : DVR w (allS w) x v) : Row w [x] [v] := by
  refine ⟨rfl, fun j y u hy hu => ?_⟩
  cases j with
  | zero => simp at hy hu; subst hy; subst hu; exact h
  | succ j => simp at hy

theorem row_cons {x : DV} {v : Value} {xs : List DV} {cs : List Value} (h : DVR w (allS w) x v) (hs : Row w xs cs) : Row w (x :: xs) (v :: cs) := by
  refine ⟨by simp [hs.1], fun j y u hy hu => ?_⟩
  cases j with
  | zero => simp at hy hu; subst hy; subst hu; exact h
  | succ j => simp at hy hu; exact hs.2 j y u hy hu

end
end Go.Vf
