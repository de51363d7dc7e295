/- OrderUses answers true. Conditions: none. -/
import Derived.Test.YtpcokdalcafgdaaGreatPl
set_option linter.unusedSimpArgs false
set_option linter.unusedVariables false
namespace Go.Proofs.Tryz.Run
open Go Go.Vf Go.Proofs
open Go.Proofs.YtpcokdalcafgdaaGreat

theorem same23 (n m : Nat) (g h : Nat → Int) (hn : n ≤ 1000000) (r : Bool) (hr : r = true ↔ L n g = L m h) : PureF Tryz.prog true 23 [isl n g, isl m h] (bool r) := by
  have h1 := same_ok n m g h hn
  have : decide (n = m ∧ ∀ i, i < n → g i = h i) = r := by
    have e : (n = m ∧ ∀ i, i < n → g i = h i) ↔ L n g = L m h := by
      constructor
      · rintro ⟨rfl, hh⟩; exact L_congr hh
      · intro e
        have el : n = m := by simpa [L_length] using congrArg List.length e
        refine ⟨el, fun j hj => ?_⟩
        have := congrArg (fun l => l[j]?) e
        simpa [L, hj, show j < m by omega] using this
    cases r
    · exact decide_eq_false fun hh => Bool.noConfusion (hr.2 (e.1 hh))
    · exact decide_eq_true (e.2 (hr.1 rfl))
  rw [this] at h1
  exact pure_bool h1

set_option maxHeartbeats 8000000 in
theorem orderUses6 (c : CoR) : PureF Tryz.prog true 6 [c.av] (bool true) := by
  have haw := awake_true
  have hcp := fun h => copy31 c h
  have hbu0 := fun h a b d e => byUse30 c h a b d e
  have hbue := fun h e he hne => byUse30e c h e he hne
  have hrf := fun a b => byUse33 c a b
  obtain ⟨e, he⟩ : ∃ e, coErr c = e := ⟨_, rfl⟩
  have hck := check32 c e he
  have h0 : e = 0 → limOk c ∧ chsOk c ∧ opsOk c ∧ rtsOk c := fun h => by
    rw [h] at he
    unfold coErr at he
    split at he
    · cases he
    · split at he
      · cases he
      · split at he
        · rename_i a b d; exact ⟨Classical.not_not.1 a, Classical.not_not.1 b, d.1, d.2⟩
        · cases he
  have hmle : ∀ (m : Nat) (g : Nat → Int), e = 0 → L m g = byUse c → m ≤ 1000000 := fun m g h hl => by
    obtain ⟨hl1, hl2, hl3, hl4⟩ := h0 h
    have once_len : ∀ (S l : List Int), (S.foldl onceL l).length ≤ l.length + S.length := by
      intro S
      induction S with
      | nil => intro l; simp
      | cons x S ih =>
        intro l
        have := ih (onceL l x)
        have h2 : (onceL l x).length ≤ l.length + 1 := by unfold onceL; split <;> simp
        simp only [List.foldl_cons, List.length_cons]; omega
    have step_len : ∀ (S l : List Int), (S.foldl (useStep c.op) l).length ≤ l.length + S.length := by
      intro S
      induction S with
      | nil => intro l; simp
      | cons x S ih =>
        intro l
        have := ih (useStep c.op l x)
        have h2 : (useStep c.op l x).length ≤ l.length + 1 := by unfold useStep onceL; split <;> (try split) <;> simp
        simp only [List.foldl_cons, List.length_cons]; omega
    have uses_len : ∀ i, (uses c.op i).length ≤ 3 * i := by
      intro i
      induction i with
      | zero => simp [uses]
      | succ i ih =>
        have := step_len (opList (c.op i)) (uses c.op i)
        have h3 := opList_len (c.op i)
        rw [uses]; omega
    have h1 : m = (byUse c).length := by rw [← hl, L_length]
    have h2 := once_len (L c.nc fun k => (k : Int)) (uses c.op c.no)
    have h3 := uses_len c.no
    have : (byUse c).length ≤ (uses c.op c.no).length + c.nc := by simpa [byUse, L_length] using h2
    simp only [limOk] at hl1
    omega
  obtain ⟨nc, ch, no, op, nr, rt⟩ := c
  simp only at hcp hbu0 hbue
  refine pure_bool (pureF_of_fn Tryz.mixed okP ok6 _ rfl fun E Sg hb hS => ?_)
  cbv
  split
  · cbv
    refine callb_i hS _ haw ?_
    cbv
    exact Like.refl _
  cbv
  split
  · cbv
    refine callb_i hS _ haw ?_
    cbv
    exact Like.refl _
  cbv
  split
  · cbv
    refine callb_i hS _ haw ?_
    cbv
    exact Like.refl _
  have hlim : no ≤ 400 ∧ nc ≤ 8 ∧ nr ≤ 400 := by subst hS; simp [std] at *; omega
  have hbig : nc ≤ 1000000 ∧ no ≤ 1000000 ∧ nr ≤ 1000000 := by omega
  cbv
  refine callb_i hS _ (hcp hbig) ?_
  cbv
  by_cases hz : e = 0
  · subst hz
    obtain ⟨a1, a2, a3, a4⟩ := h0 rfl
    obtain ⟨m, g, q1, q2⟩ := hbu0 hbig a1 a2 a3 a4
    obtain ⟨m', g', q3, q4⟩ := hrf a1 a3
    have hs := same23 m m' g g' (hmle m g rfl q1) true (by simp [q1, q3])
    refine callb_i hS _ q2 ?_
    cbv
    refine callb_i hS _ hck ?_
    cbv
    split
    · rename_i h; exfalso; subst hS; simp [std] at h
    cbv
    split
    rotate_left
    · rename_i h; exfalso; subst hS; simp [std] at h
    cbv
    refine callb_i hS _ q4 ?_
    cbv
    refine callb_i hS _ hs ?_
    cbv
    refine callb_i hS _ haw ?_
    cbv
    exact Like.refl _
  · refine callb_i hS _ (hbue hbig e he hz) ?_
    cbv
    refine callb_i hS _ hck ?_
    cbv
    split
    rotate_left
    · rename_i h; exfalso; subst hS; simp [std] at h; exact hz h
    cbv
    split
    rotate_left
    · rename_i h; exfalso; subst hS; simp [std] at h
    cbv
    split
    rotate_left
    · rename_i h; exfalso; subst hS; simp [std] at h
    cbv
    refine callb_i hS _ haw ?_
    cbv
    exact Like.refl _

end Go.Proofs.Tryz.Run
