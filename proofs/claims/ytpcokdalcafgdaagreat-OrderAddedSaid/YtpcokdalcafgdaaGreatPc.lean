/- The reference's Check of a core. Conditions: none. -/
import Derived.Test.YtpcokdalcafgdaaGreatPb
set_option linter.unusedSimpArgs false
set_option linter.unusedVariables false
namespace Go.Proofs.Tryz.Run
open Go Go.Vf Go.Proofs
open Go.Proofs.YtpcokdalcafgdaaGreat

def chOk (x : ChR) : Prop := -9999 ≤ x.lo ∧ x.lo ≤ x.hi ∧ x.hi ≤ 9999 ∧ x.hi - x.lo < 12

def limOk (c : CoR) : Prop := c.nc ≤ 6 ∧ c.no ≤ 3000 ∧ c.nr ≤ 3000
def chsOk (c : CoR) : Prop := ∀ i, i < c.nc → chOk (c.ch i)
def opsOk (c : CoR) : Prop := ∀ i, i < c.no → opOk (c.op i) i c.nc
def rtsOk (c : CoR) : Prop := ∀ i, i < c.nr → 0 ≤ c.rt i ∧ c.rt i ≤ (c.no : Int) - 1

open Classical in
noncomputable def coErr (c : CoR) : Int := if ¬ limOk c then 5 else if ¬ chsOk c then 3 else if opsOk c ∧ rtsOk c then 0 else 4

/-- What the choices of a core are: numbers of 64 bits. -/
def ChR.wf (c : ChR) : Prop := (-9223372036854775808 ≤ c.lo ∧ c.lo ≤ 9223372036854775807) ∧ (-9223372036854775808 ≤ c.hi ∧ c.hi ≤ 9223372036854775807)

set_option maxHeartbeats 4000000 in
theorem check32 (c : CoR) (r : Int) (hr : coErr c = r) : PureF Tryz.prog true 32 [c.av] (int r) := by
  refine pure_int (pureF_of_fn Tryz.mixed okP ok32 _ rfl fun E Sg hb hS => ?_)
  unfold coErr at hr
  have h5 : ¬ limOk c → 5 = r := fun h => by rw [← hr, if_pos h]
  have h3 : limOk c → ¬ chsOk c → 3 = r := fun h g => by rw [← hr, if_neg (fun k => k h), if_pos g]
  have h4 : limOk c → chsOk c → ¬ (opsOk c ∧ rtsOk c) → 4 = r := fun h g k => by rw [← hr, if_neg (fun k => k h), if_neg (fun k => k g), if_neg k]
  have h0 : limOk c → chsOk c → opsOk c → rtsOk c → 0 = r := fun h g k l => by rw [← hr, if_neg (fun k => k h), if_neg (fun k => k g), if_pos ⟨k, l⟩]
  clear hr
  obtain ⟨nc, ch, no, op, nr, rt⟩ := c
  obtain ⟨nm, lo, up, hcc⟩ : ∃ nm lo up, ch = fun i => ChR.mk (nm i) (lo i) (up i) := ⟨fun i => (ch i).name, fun i => (ch i).lo, fun i => (ch i).hi, rfl⟩
  subst hcc
  simp only [limOk, chsOk, opsOk, rtsOk] at h5 h3 h4 h0
  cbv
  repeat' ((first | (with_reducible apply req_i hS) | split) <;> cbv)
  rotate_right
  · -- the choices
    have hlim : nc ≤ 6 ∧ no ≤ 3000 ∧ nr ≤ 3000 := by subst hS; simp [std] at *; omega
    refine loop_i Tryz.mixed okP hS (fun i => i ≤ nc ∧ ∀ j, j < i → chOk ⟨nm j, lo j, up j⟩) (fun i => nc - i)
      (fun i => ⟨mkTs [(1, .ptr 0 0), (3, int i)] 90, [.var [csl nc (fun i => ChR.mk (nm i) (lo i) (up i)), osl no op, isl nr rt]], []⟩) 0 ⟨by omega, by omega⟩ ?_ ?_
    · exact le_mk rfl ⟨Like.refl _, Like.int rfl, trivial⟩ (.cons (.refl _) (.nil _)) (by omega) (.inr rfl) rfl
    · intro i hi N hN
      have step : i < nc → chOk ⟨nm i, lo i, up i⟩ → i + 1 ≤ nc ∧ ∀ j, j < i + 1 → chOk ⟨nm j, lo j, up j⟩ := fun h1 h2 => ⟨h1, fun j hj => by
        by_cases e : j = i
        · subst e; exact h2
        · exact hi.2 j (by omega)⟩
      have bad : i < nc → ¬ chOk ⟨nm i, lo i, up i⟩ → 3 = r := fun h1 h2 => h3 hlim fun h => h2 (h i h1)
      cbv
      split
      · cbv
        have hin := in72 (lo i) (-9999) (up i)
        generalize hz : decide (-9999 ≤ (lo i) ∧ (lo i) ≤ (up i)) = z at hin
        repeat' ((first | (with_reducible apply req_i hS) | split | (refine callb_i hS (bool z) (by subst hS; exact hin) ?_; cases z)) <;> cbv)
        all_goals try (subst hS; simp [std, nat, IX.val] at * <;> first | omega | exact wrap64 (by omega) (by omega))
        all_goals first
          | (refine hN (i + 1) _ (step ?_ ?_) ?_ (le_mk rfl ⟨Like.refl _, Like.int ?_, trivial⟩ (.cons (.refl _) (.nil _)) (by omega) (.inl ⟨rfl, rfl⟩) rfl) <;> subst hS <;> simp [std, nat, chOk, IX.val] at * <;> omega)
          | (refine lk_l (bad ?_ ?_) <;> subst hS <;> simp [std, nat, chOk, IX.val] at * <;> omega)
      · have hch : ∀ j, j < nc → chOk ⟨nm j, lo j, up j⟩ := by subst hS; simp [std] at *; exact fun j hj => hi.2 j (by omega)
        clear step bad hi hN
        cbv
        refine loop_i Tryz.mixed okP hS (fun i => i ≤ no ∧ ∀ j, j < i → opOk (op j) j nc) (fun i => no - i)
          (fun i => ⟨mkTs [(1, .ptr 0 0), (5, int i)] 90, [.var [csl nc (fun i => ChR.mk (nm i) (lo i) (up i)), osl no op, isl nr rt]], []⟩) 0 ⟨by omega, by omega⟩ ?_ ?_
        · exact le_mk rfl ⟨Like.refl _, Like.int rfl, trivial⟩ (.cons (.refl _) (.nil _)) (by omega) (.inr rfl) rfl
        · intro i hi N hN
          have step : i < no → opOk (op i) i nc → i + 1 ≤ no ∧ ∀ j, j < i + 1 → opOk (op j) j nc := fun h1 h2 => ⟨h1, fun j hj => by
            by_cases e : j = i
            · subst e; exact h2
            · exact hi.2 j (by omega)⟩
          have bad : i < no → ¬ opOk (op i) i nc → 4 = r := fun h1 h2 => h4 hlim hch fun h => h2 (h.1 i h1)
          cbv
          split
          · cbv
            obtain ⟨z, hz⟩ : ∃ z : Bool, z = true ↔ opOk (op i) i nc := by classical exact ⟨decide (opOk (op i) i nc), by simp⟩
            have hin := isOp73 (op i) i nc ⟨by omega, by omega⟩ ⟨by omega, by omega⟩ z hz
            repeat' ((first | (with_reducible apply req_i hS) | split | (refine callb_i hS (bool z) (by subst hS; exact hin) ?_; cases z)) <;> cbv)
            all_goals try (subst hS; simp [std, nat, IX.val] at * <;> first | omega | exact wrap64 (by omega) (by omega))
            all_goals first
              | (refine hN (i + 1) _ (step ?_ (hz.1 rfl)) ?_ (le_mk rfl ⟨Like.refl _, Like.int ?_, trivial⟩ (.cons (.refl _) (.nil _)) (by omega) (.inr rfl) rfl) <;> subst hS <;> simp [std, nat, IX.val] at * <;> omega)
              | (refine lk_l (bad ?_ ?_) <;> subst hS <;> simp [std, nat, IX.val] at * <;> first | omega | exact hz)
          · have hop : ∀ j, j < no → opOk (op j) j nc := by subst hS; simp [std] at *; exact fun j hj => hi.2 j (by omega)
            clear step bad hi hN
            cbv
            refine loop_i Tryz.mixed okP hS (fun i => i ≤ nr ∧ ∀ j, j < i → 0 ≤ rt j ∧ rt j ≤ (no : Int) - 1) (fun i => nr - i)
              (fun i => ⟨mkTs [(1, .ptr 0 0), (6, int i)] 90, [.var [csl nc (fun i => ChR.mk (nm i) (lo i) (up i)), osl no op, isl nr rt]], []⟩) 0 ⟨by omega, by omega⟩ ?_ ?_
            · exact le_mk rfl ⟨Like.refl _, Like.int rfl, trivial⟩ (.cons (.refl _) (.nil _)) (by omega) (.inr rfl) rfl
            · intro i hi N hN
              have step : i < nr → (0 ≤ rt i ∧ rt i ≤ (no : Int) - 1) → i + 1 ≤ nr ∧ ∀ j, j < i + 1 → 0 ≤ rt j ∧ rt j ≤ (no : Int) - 1 := fun h1 h2 => ⟨h1, fun j hj => by
                by_cases e : j = i
                · subst e; exact h2
                · exact hi.2 j (by omega)⟩
              have bad : i < nr → ¬ (0 ≤ rt i ∧ rt i ≤ (no : Int) - 1) → 4 = r := fun h1 h2 => h4 hlim hch fun h => h2 (h.2 i h1)
              cbv
              split
              · cbv
                have hin := in72 (rt i) 0 ((no : Int) - 1)
                generalize hz : decide (0 ≤ rt i ∧ rt i ≤ (no : Int) - 1) = z at hin
                repeat' ((first | (with_reducible apply req_i hS) | split | (refine callb_i hS (bool z) (by subst hS; exact hin) ?_; cases z)) <;> cbv)
                all_goals try (subst hS; simp [std, nat, IX.val] at * <;> first | omega | exact wrap64 (by omega) (by omega))
                all_goals first
                  | (refine hN (i + 1) _ (step ?_ ?_) ?_ (le_mk rfl ⟨Like.refl _, Like.int ?_, trivial⟩ (.cons (.refl _) (.nil _)) (by omega) (.inr rfl) rfl) <;> subst hS <;> simp [std, nat, IX.val] at * <;> omega)
                  | (refine lk_l (bad ?_ ?_) <;> subst hS <;> simp [std, nat, IX.val] at * <;> omega)
              · cbv
                refine lk_l (h0 hlim hch hop ?_)
                subst hS; simp [std] at *; exact fun j hj => hi.2 j (by omega)
  all_goals first
    | (subst hS; simp [std, nat, IX.val] at *; done)
    | (refine lk_l (h5 ?_); subst hS; simp [std] at *; omega)

end Go.Proofs.Tryz.Run
