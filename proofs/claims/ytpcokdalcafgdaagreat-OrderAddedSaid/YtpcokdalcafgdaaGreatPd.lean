/- The program's within, and its Check of a core. Conditions: none. -/
import Derived.Test.YtpcokdalcafgdaaGreatLf
import Derived.Test.YtpcokdalcafgdaaGreatPc
set_option linter.unusedSimpArgs false
set_option linter.unusedVariables false
namespace Go.Proofs.Tryz.Run
open Go Go.Vf Go.Proofs
open Go.Proofs.YtpcokdalcafgdaaGreat

/-- What a test of all elements finds: the first one that passes, or -1. -/
def firstIs (n : Nat) (p : Nat → Bool) (r : Int) : Prop :=
  ((∀ i, i < n → p i = false) → r = -1) ∧ ∀ i, i < n → p i = true → (∀ j, j < i → p j = false) → r = i

theorem firstIs_ex (n : Nat) (p : Nat → Bool) : ∃ z, firstIs n p z ∧ (0 ≤ z → ∃ i, i < n ∧ p i = true) ∧ ((∃ i, i < n ∧ p i = true) → 0 ≤ z) := by
  induction n with
  | zero =>
    refine ⟨-1, ⟨fun _ => rfl, fun i hi => ?_⟩, fun h => ?_, fun h => ?_⟩
    · omega
    · omega
    · obtain ⟨i, h, _⟩ := h; omega
  | succ n ih =>
    by_cases h : ∃ i, i < n ∧ p i = true
    · obtain ⟨z, ⟨h1, h2⟩, h3, h4⟩ := ih
      have := h4 h
      obtain ⟨k, hk, hk2⟩ := h3 this
      refine ⟨z, ⟨fun ha => absurd hk2 (by rw [ha k (by omega)]; simp), fun i hi hp hj => ?_⟩, fun _ => ⟨k, by omega, hk2⟩, fun _ => this⟩
      by_cases e : i = n
      · subst e; exact absurd hk2 (by rw [hj k hk]; simp)
      · exact h2 i (by omega) hp hj
    · by_cases hn : p n = true
      · refine ⟨n, ⟨fun ha => (by rw [ha n (by omega)] at hn; exact Bool.noConfusion hn), fun i hi hp hj => ?_⟩, fun _ => ⟨n, by omega, hn⟩, fun _ => by omega⟩
        by_cases e : i = n
        · subst e; rfl
        · exact absurd ⟨i, by omega, hp⟩ h
      · refine ⟨-1, ⟨fun _ => rfl, fun i hi hp hj => ?_⟩, by omega, fun ⟨i, hi, hp⟩ => ?_⟩
        · by_cases e : i = n
          · subst e; exact absurd hp hn
          · exact absurd ⟨i, by omega, hp⟩ h
        · by_cases e : i = n
          · subst e; exact absurd hp hn
          · exact absurd ⟨i, by omega, hp⟩ h

set_option maxHeartbeats 4000000 in
theorem index175 {n : Nat} (hn : n ≤ 1000000) (g : Nat → Int) (o1 o2 : AObj) (gid : FuncId) (p : Nat → Bool)
    (hp : ∀ i, i < n → ACall Tryz.prog gid [int (g i), .ptr 0 0, .ptr 1 0] [o1, o2] (ro [o1, o2] (bool (p i)))) (r : Int) (hr : firstIs n p r) :
    ACall Tryz.prog 175 [isl n g, .fn gid [] [.ptr 0 0, .ptr 1 0]] [o1, o2] (ro [o1, o2] (int r)) := by
  refine acall_ro Tryz.mixed okP ok175 _ rfl fun E Sg hb hS => ?_
  cbv
  refine loop_i Tryz.mixed okP hS (fun i => i ≤ n ∧ ∀ j, j < i → p j = false) (fun i => n - i)
    (fun i => ⟨mkTs [(0, isl n g), (1, .fn gid [] [.ptr 0 0, .ptr 1 0]), (7, int n), (8, int i)] 19, [o1, o2], []⟩) 0 ⟨by omega, by omega⟩ ?_ ?_
  · exact le_mk rfl ⟨Like.refl _, Like.refl _, lk_v (by subst hS; rfl), lk_l rfl, trivial⟩ (.same _) (by omega) (.inr rfl) rfl
  · intro i hi N hN
    cbv
    split
    · cbv
      have hlt : i < n := by subst hS; simp [std] at *; omega
      have hin := hp i hlt
      generalize hz : p i = z at hin
      repeat' ((first | (with_reducible apply req_i hS) | split | (refine call_ro hS (r := bool z) (by subst hS; exact hin) ?_; cases z)) <;> cbv)
      all_goals try (subst hS; simp [std, nat, IX.val] at * <;> first | omega | exact wrap64 (by omega) (by omega))
      · refine hN (i + 1) _ ⟨by omega, fun j hj => ?_⟩ (by omega) (le_mk rfl ⟨Like.refl _, Like.refl _, Like.refl _, lk_v ?_, trivial⟩ (.same _) (by omega) (.inr rfl) rfl)
        · by_cases e : j = i
          · subst e; exact hz
          · exact hi.2 j (by omega)
        · subst hS; simp [std]
      · exact ro_leaf (lk_v (hr.2 i hlt hz hi.2).symm) (.same _) (.inr rfl)
    · cbv
      exact ro_leaf (lk_l (hr.1 (by subst hS; simp [std] at *; exact fun j hj => hi.2 j (by omega))).symm) (.same _) (.inr rfl)

theorem contains143 {n : Nat} (hn : n ≤ 1000000) (g : Nat → Int) (o1 o2 : AObj) (gid : FuncId) (p : Nat → Bool)
    (hp : ∀ i, i < n → ACall Tryz.prog gid [int (g i), .ptr 0 0, .ptr 1 0] [o1, o2] (ro [o1, o2] (bool (p i)))) (r : Bool) (hr : r = true ↔ ∃ i, i < n ∧ p i = true) :
    ACall Tryz.prog 143 [isl n g, .fn gid [] [.ptr 0 0, .ptr 1 0]] [o1, o2] (ro [o1, o2] (bool r)) := by
  obtain ⟨z, hz, hz1, hz2⟩ : ∃ z, firstIs n p z ∧ (0 ≤ z → ∃ i, i < n ∧ p i = true) ∧ ((∃ i, i < n ∧ p i = true) → 0 ≤ z) := firstIs_ex n p
  have hin := index175 hn g o1 o2 gid p hp z hz
  refine acall_ro Tryz.mixed okP ok143 _ rfl fun E Sg hb hS => ?_
  cbv
  refine call_ro hS hin ?_
  cbv
  refine ro_leaf (lk_bool ?_) (.same _) (.inr rfl)
  subst hS
  simp [std]
  cases r
  · simp at hr ⊢
    by_cases h : z < 0
    · exact h
    · obtain ⟨i, h1, h2⟩ := hz1 (by omega); rw [hr i h1] at h2; cases h2
  · simp at hr ⊢; exact hz2 hr

theorem in144 (a lo up : Int) (r : Bool) (hr : r = true ↔ ¬ (lo ≤ a ∧ a ≤ up)) : ACall Tryz.prog 144 [int a, .ptr 0 0, .ptr 1 0] [.var [int lo], .var [int up]] (ro [.var [int lo], .var [int up]] (bool r)) := by
  refine acall_ro Tryz.mixed okP ok144 _ rfl fun E Sg hb hS => ?_
  cbv
  repeat' (split <;> cbv)
  all_goals
    refine ro_leaf (lk_bool ?_) (.same _) (.inr rfl)
    subst hS
    simp [std] at *
    cases r <;> simp at * <;> omega

theorem within104 (lo up : Int) {n : Nat} (hn : n ≤ 1000000) (g : Nat → Int) (r : Bool) (hr : r = true ↔ ∀ i, i < n → lo ≤ g i ∧ g i ≤ up) : PureF Tryz.prog true 104 [int lo, int up, isl n g] (bool r) := by
  have hin := contains143 hn g (.var [int lo]) (.var [int up]) 144 (fun i => decide (¬ (lo ≤ g i ∧ g i ≤ up))) (fun i _ => in144 (g i) lo up _ decide_eq_true_iff) (!r) (by
    cases r
    · have hr : ¬ ∀ i, i < n → lo ≤ g i ∧ g i ≤ up := fun h => Bool.noConfusion (hr.2 h)
      simp only [Bool.not_false, decide_eq_true_eq, true_iff]
      exact Classical.byContradiction fun h => hr fun i hi => Classical.byContradiction fun h' => h ⟨i, hi, h'⟩
    · have hr := hr.1 rfl
      simp only [Bool.not_true, decide_eq_true_eq, Bool.false_eq_true, false_iff]
      rintro ⟨i, hi, h⟩
      exact h (hr i hi))
  refine pure_bool (pureF_of_fn Tryz.mixed okP ok104 _ rfl fun E Sg hb hS => ?_)
  cbv
  refine call_ro hS hin ?_
  cases r <;> cbv
  · exact lk_bool rfl
  · exact lk_bool rfl

/-- A list of one. -/
theorem likes_one {x : Int} : Like (.d (.sl 1 1 (Vf.rowAt [[.int .i64 (.v x)]]))) (isl 1 fun _ => x) :=
  Like.sl' rfl fun i hi => by
    match i, hi with
    | 0, _ => rfl

def two (x y : Int) : Nat → Int
  | 0 => x
  | _ => y

theorem likes_two {x y : Int} : Like (.d (.sl 1 2 (Vf.rowAt [[.int .i64 (.v x)], [.int .i64 (.v y)]]))) (isl 2 (two x y)) :=
  Like.sl' rfl fun i hi => by
    match i, hi with
    | 0, _ => rfl
    | 1, _ => rfl

theorem within1 (lo up x : Int) (r : Bool) (hr : r = true ↔ lo ≤ x ∧ x ≤ up) : PureF Tryz.prog true 104 [int lo, int up, .d (.sl 1 1 (Vf.rowAt [[.int .i64 (.v x)]]))] (bool r) :=
  PureF.like (.cons (Like.refl _) (.cons (Like.refl _) (.cons likes_one .nil))) (within104 lo up (by omega) (fun _ => x) r (by rw [hr]; exact ⟨fun h _ _ => h, fun h => h 0 (by omega)⟩))

theorem within2 (lo up x y : Int) (r : Bool) (hr : r = true ↔ (lo ≤ x ∧ x ≤ up) ∧ lo ≤ y ∧ y ≤ up) : PureF Tryz.prog true 104 [int lo, int up, .d (.sl 1 2 (Vf.rowAt [[.int .i64 (.v x)], [.int .i64 (.v y)]]))] (bool r) :=
  PureF.like (.cons (Like.refl _) (.cons (Like.refl _) (.cons likes_two .nil))) (within104 lo up (by omega) (two x y) r (by
    rw [hr]
    refine ⟨fun h i hi => ?_, fun h => ⟨h 0 (by omega), h 1 (by omega)⟩⟩
    match i, hi with
    | 0, _ => exact h.1
    | 1, _ => exact h.2))

set_option maxHeartbeats 4000000 in
theorem isNoChoice103 (nm : List UInt8) (lo up : Int) (r : Bool) (hr : r = true ↔ ¬ chOk ⟨nm, lo, up⟩) : PureF Tryz.prog true 103 [.agg [.d (.str nm), int lo, int up]] (bool r) := by
  simp only [chOk] at hr
  have h1 := within2 (-9999) 9999 lo up (decide ((-9999 ≤ lo ∧ lo ≤ 9999) ∧ -9999 ≤ up ∧ up ≤ 9999)) decide_eq_true_iff
  have h2 := within1 1 12 (up - lo + 1) (decide (1 ≤ up - lo + 1 ∧ up - lo + 1 ≤ 12)) decide_eq_true_iff
  generalize hz1 : decide ((-9999 ≤ lo ∧ lo ≤ 9999) ∧ -9999 ≤ up ∧ up ≤ 9999) = z1 at h1
  generalize hz2 : decide (1 ≤ up - lo + 1 ∧ up - lo + 1 ≤ 12) = z2 at h2
  refine pure_bool (pureF_of_fn Tryz.mixed okP ok103 _ rfl fun E Sg hb hS => ?_)
  cbv
  refine callb_i hS _ h1 ?_
  cases z1
  · cbv
    exact lk_bool (by cases r <;> simp at hr hz1 ⊢; omega)
  · simp at hz1
    cbv
    repeat' ((first | (with_reducible apply req_i hS) | split | (refine callb_i hS (bool z2) (by subst hS; exact h2) ?_; cases z2)) <;> cbv)
    all_goals try (subst hS; simp [std, nat, IX.val] at * <;> first | omega | exact wrap64 (by omega) (by omega))
    all_goals exact lk_bool (by cases r <;> simp at hr hz2 ⊢ <;> omega)

set_option maxHeartbeats 4000000 in
theorem index142 {n : Nat} (hn : n ≤ 1000000) (c : Nat → ChR) (r : Int) (hr : ∃ p : Nat → Bool, (∀ i, p i = true ↔ ¬ chOk (c i)) ∧ firstIs n p r) :
    ACall Tryz.prog 142 [csl n c, .fn 103 [] []] [] (ro [] (int r)) := by
  obtain ⟨p, hp, hr⟩ := hr
  obtain ⟨nm, lo, up, hcc⟩ : ∃ nm lo up, c = fun i => ChR.mk (nm i) (lo i) (up i) := ⟨fun i => (c i).name, fun i => (c i).lo, fun i => (c i).hi, rfl⟩
  subst hcc
  refine acall_ro Tryz.mixed okP ok142 _ rfl fun E Sg hb hS => ?_
  cbv
  refine loop_i Tryz.mixed okP hS (fun i => i ≤ n ∧ ∀ j, j < i → p j = false) (fun i => n - i)
    (fun i => ⟨mkTs [(0, csl n (fun i => ChR.mk (nm i) (lo i) (up i))), (1, .fn 103 [] []), (7, int n), (8, int i)] 19, [], []⟩) 0 ⟨by omega, by omega⟩ ?_ ?_
  · exact le_mk rfl ⟨Like.refl _, Like.refl _, lk_v (by subst hS; rfl), lk_l rfl, trivial⟩ (.nil _) (by simp at hb; omega) (.inr rfl) rfl
  · intro i hi N hN
    cbv
    split
    · cbv
      have hlt : i < n := by subst hS; simp [std] at *; omega
      have hin := ACall.of_pure (h := []) rfl (isNoChoice103 (nm i) (lo i) (up i) (p i) (hp i))
      generalize hz : p i = z at hin
      repeat' ((first | (with_reducible apply req_i hS) | split | (refine call_ro hS (r := bool z) (by subst hS; exact hin) ?_; cases z)) <;> cbv)
      all_goals try (subst hS; simp [std, nat, IX.val] at * <;> first | omega | exact wrap64 (by omega) (by omega))
      · refine hN (i + 1) _ ⟨by omega, fun j hj => ?_⟩ (by omega) (le_mk rfl ⟨Like.refl _, Like.refl _, Like.refl _, lk_v ?_, trivial⟩ (.nil _) (by simp at hb; omega) (.inr rfl) rfl)
        · by_cases e : j = i
          · subst e; exact hz
          · exact hi.2 j (by omega)
        · subst hS; simp [std]
      · exact ro_leaf (lk_v (hr.2 i hlt hz hi.2).symm) (.nil _) (.inr rfl)
    · cbv
      exact ro_leaf (lk_l (hr.1 (by subst hS; simp [std] at *; exact fun j hj => hi.2 j (by omega))).symm) (.nil _) (.inr rfl)

theorem contains102 {n : Nat} (hn : n ≤ 1000000) (c : Nat → ChR) (r : Bool) (hr : r = true ↔ ¬ ∀ i, i < n → chOk (c i)) : PureF Tryz.prog true 102 [csl n c, .fn 103 [] []] (bool r) := by
  obtain ⟨p, hp⟩ : ∃ p : Nat → Bool, ∀ i, p i = true ↔ ¬ chOk (c i) := by classical exact ⟨fun i => decide (¬ chOk (c i)), fun i => decide_eq_true_iff⟩
  obtain ⟨z, hz, hz1, hz2⟩ := firstIs_ex n p
  have hin := index142 hn c z ⟨p, hp, hz⟩
  refine pure_bool (pureF_of_fn Tryz.mixed okP ok102 _ rfl fun E Sg hb hS => ?_)
  cbv
  refine call_ro hS hin ?_
  cbv
  refine lk_bool ?_
  subst hS
  simp [std]
  cases r
  · have hr : ∀ i, i < n → chOk (c i) := Classical.byContradiction fun h => Bool.noConfusion (hr.2 h)
    simp
    by_cases h : z < 0
    · exact h
    · obtain ⟨i, h1, h2⟩ := hz1 (by omega); exact absurd (hr i h1) ((hp i).1 h2)
  · have hr := hr.1 rfl
    simp
    exact hz2 (Classical.byContradiction fun h => hr fun i hi => Classical.byContradiction fun h' => h ⟨i, hi, (hp i).2 h'⟩)

end Go.Proofs.Tryz.Run
