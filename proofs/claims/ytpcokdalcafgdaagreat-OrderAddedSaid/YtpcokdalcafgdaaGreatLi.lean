/- Rows of data that read alike: for slices and for objects. Conditions: none. -/
import Derived.Test.YtpcokdalcafgdaaGreatLd
namespace Go.Vf
open Go

/-- Whatever the one data value stands for, the other does. -/
def DL (x y : DV) : Prop := ∀ (w : World) (S : Nat → Prop) (v : Value), DVR w S x v → DVR w S y v

def RL (xs ys : List DV) : Prop := xs.length = ys.length ∧ ∀ (j : Nat) (x y : DV), xs[j]? = some x → ys[j]? = some y → DL x y

theorem DL.refl (x : DV) : DL x x := fun _ _ _ h => h

theorem DL.int {k : IntKind} {x y : IX} (h : x.val = y.val) : DL (.int k x) (.int k y) := by
  intro w S v hv
  cases hv
  rw [h]; exact .int k y

theorem DL.nil0 {sz : Nat} {e : Nat → List DV} : DL .nil (.sl sz 0 e) := by
  intro w S v hv
  cases hv
  exact .sl0 _ _ _ _

theorem RL.refl (xs : List DV) : RL xs xs := ⟨rfl, fun j x y h1 h2 => by rw [h1] at h2; cases h2; exact .refl _⟩

theorem RL.nil : RL [] [] := .refl []

theorem RL.cons {x y : DV} {xs ys : List DV} (h : DL x y) (hs : RL xs ys) : RL (x :: xs) (y :: ys) :=
  ⟨by simp [hs.1], fun j u v h1 h2 => by
    cases j with
    | zero => simp at h1 h2; subst h1; subst h2; exact h
    | succ j => simp at h1 h2; exact hs.2 j u v h1 h2⟩

theorem RL.one {x y : DV} (h : DL x y) : RL [x] [y] := .cons h .nil

theorem RL.back {xs ys : List DV} (h : RL xs ys) {w : World} {S : Nat → Prop} {f : Nat → Value} (hx : ∀ (j : Nat) (x : DV), xs[j]? = some x → DVR w S x (f j)) :
    ∀ (j : Nat) (y : DV), ys[j]? = some y → DVR w S y (f j) := fun j y hy => by
  have hj : j < ys.length := (List.getElem?_eq_some_iff.1 hy).1
  have : xs[j]? = some (xs[j]'(by rw [h.1]; exact hj)) := List.getElem?_eq_getElem _
  exact h.2 j _ y this hy w S _ (hx j _ this)

theorem DL.sl {sz n m : Nat} {e e' : Nat → List DV} (hn : n = m) (h : ∀ i, i < n → RL (e i) (e' i)) : DL (.sl sz n e) (.sl sz m e') := by
  subst hn
  intro w S v hv
  cases hv with
  | sl0 _ _ a cap => exact .sl0 _ _ _ _
  | sl _ _ _ b off cap f hb hc hl hv hr =>
    exact .sl sz n e' b off cap f hb hc (fun i hi => by rw [← (h i hi).1]; exact hl i hi) hv fun i hi j x hx => (h i hi).back (fun j x hx => hr i hi j x hx) j x hx

theorem Like.dl {x y : DV} (h : DL x y) : Like (.d x) (.d y) := by
  intro w S ρ v hv
  cases hv with
  | d hd => exact .d (h w S v hd)

theorem Like.slr {sz n m : Nat} {e e' : Nat → List DV} (hn : n = m) (h : ∀ i, i < n → RL (e i) (e' i)) : Like (.d (.sl sz n e)) (.d (.sl sz m e')) := .dl (.sl hn h)

theorem LikeO.arrr {sz n m : Nat} {e e' : Nat → List DV} (hn : n = m) (h : ∀ i, i < n → RL (e i) (e' i)) : LikeO (.arr sz n e) (.arr sz m e') := by
  subst hn
  refine ⟨id, fun w S ρ ob C hh => ?_⟩
  cases ob with
  | none =>
    obtain ⟨h1, sz', e1, h2 | h2⟩ := hh
    · cases h2; exact ⟨h1, sz, e', .inl rfl⟩
    · cases h2
  | some b =>
    obtain ⟨vs, ty, h1, h2, h3, h4⟩ := hh
    refine ⟨vs, ty, h1, h2, h3, fun i hi => ?_⟩
    obtain ⟨h5, h6⟩ := h4 i hi
    refine ⟨by rw [← (h i hi).1]; exact h5, fun j y v hy hv => ?_⟩
    have hj : j < (e' i).length := (List.getElem?_eq_some_iff.1 hy).1
    have : (e i)[j]? = some ((e i)[j]'(by rw [(h i hi).1]; exact hj)) := List.getElem?_eq_getElem _
    exact (h i hi).2 j _ y this hy w S v (h6 j _ v this hv)

theorem LikeO.frzr {sz n m : Nat} {e e' : Nat → List DV} (hn : n = m) (h : ∀ i, i < n → RL (e i) (e' i)) : LikeO (.frz sz n e) (.frz sz m e') := by
  subst hn
  refine ⟨id, fun w S ρ ob C hh => ?_⟩
  cases ob with
  | none =>
    obtain ⟨h1, sz', e1, h2 | h2⟩ := hh
    · cases h2
    · cases h2; exact ⟨h1, sz, e', .inr rfl⟩
  | some b =>
    obtain ⟨h0, vs, ty, fr, h1, h2, h3, h4⟩ := hh
    refine ⟨h0, vs, ty, fr, h1, h2, h3, fun i hi => ?_⟩
    obtain ⟨h5, h6⟩ := h4 i hi
    refine ⟨by rw [← (h i hi).1]; exact h5, fun j y v hy hv => ?_⟩
    have hj : j < (e' i).length := (List.getElem?_eq_some_iff.1 hy).1
    have : (e i)[j]? = some ((e i)[j]'(by rw [(h i hi).1]; exact hj)) := List.getElem?_eq_getElem _
    exact (h i hi).2 j _ y this hy w S v (h6 j _ v this hv)

end Go.Vf
