/- Contracts of the reference's small functions. Conditions: none. -/
import Derived.Test.YtpcokdalcafgdaaGreatLd
import Derived.Test.YtpcokdalcafgdaaGreatOa
import Derived.Test.YtpcokdalcafgdaaGreatNc
import Derived.Test.YtpcokdalcafgdaaGreatNa
set_option linter.unusedSimpArgs false
set_option linter.unusedVariables false
namespace Go.Proofs.Tryz.Run
open Go Go.Vf Go.Proofs
open Go.Proofs.YtpcokdalcafgdaaGreat

theorem in72 (a b c : Int) : PureF Tryz.prog true 72 [int a, int b, int c] (bool (decide (b ≤ a ∧ a ≤ c))) := by
  refine pure_bool (pureF_of_fn Tryz.mixed okP ok72 _ rfl fun E Sg hb hS => ?_)
  generalize hr : decide (b ≤ a ∧ a ≤ c) = r
  cbv
  split <;> cbv
  all_goals subst hS; simp [std] at *; exact lk_bool (by rw [← hr]; simp; omega)

def opInfo (code ch : Int) : Int × Int × Int :=
  if code = 1 then (0, -9999, 9999) else if code = 2 then (0, 1, 4) else if code = 3 then (0, 0, ch - 1) else if code = 4 then (0, 0, 31)
  else if code = 5 ∨ code = 6 then (1, 0, 0) else if 7 ≤ code ∧ code ≤ 16 then (2, 0, 0) else if code = 17 then (3, 0, 0) else (-1, 0, -1)

theorem operands106 (code ch : Int) (hch : 0 ≤ ch ∧ ch ≤ 1000000) : PureF Tryz.prog true 106 [u8 code, int ch] (.tuple [int (opInfo code ch).1, int (opInfo code ch).2.1, int (opInfo code ch).2.2]) := by
  refine pure_tup (by simp [int, flatD]) (pureF_of_fn Tryz.mixed okP ok106 _ rfl fun E Sg hb hS => ?_)
  obtain ⟨r1, r2, r3, hr⟩ : ∃ r1 r2 r3, opInfo code ch = (r1, r2, r3) := ⟨_, _, _, rfl⟩
  rw [hr]
  cbv
  repeat' (split <;> cbv)
  all_goals try refine req_i hS (by subst hS; exact wrap64 (by simp [std]; omega) (by simp [std]; omega)) ?_
  all_goals
    subst hS
    simp [std] at *
    unfold opInfo at hr
    refine Likes.tuple (.cons (Like.int ?_) (.cons (Like.int ?_) (.cons (Like.int ?_) .nil)))
  all_goals (repeat' (split at hr)) <;> simp [IX.val] at * <;> omega

/-- The operands of an operation are what they must be. -/
def argOk (many number : Int) (i : Nat) (x : Int) : Prop := ((i : Int) < many → 0 ≤ x ∧ x ≤ number - 1) ∧ (many ≤ i → x = 0)

def OpR.arg (o : OpR) : Nat → Int
  | 0 => o.a
  | 1 => o.b
  | _ => o.c

def opOk (o : OpR) (number ch : Int) : Prop :=
  ((opInfo o.code ch).2.1 ≤ o.n ∧ o.n ≤ (opInfo o.code ch).2.2) ∧ ∀ j, j < 3 → argOk (opInfo o.code ch).1 number j (OpR.arg o j)

set_option maxHeartbeats 2000000 in
theorem isOp73 (o : OpR) (number ch : Int) (hch : 0 ≤ ch ∧ ch ≤ 1000000) (hn : 0 ≤ number ∧ number ≤ 1000000) (r : Bool) (hr : r = true ↔ opOk o number ch) : PureF Tryz.prog true 73 [o.av, int number, int ch] (bool r) := by
  refine pure_bool (pureF_of_fn Tryz.mixed okP ok73 _ rfl fun E Sg hb hS => ?_)
  unfold opOk at hr
  have hop := operands106 o.code ch hch
  obtain ⟨many, least, most, hi⟩ : ∃ r1 r2 r3, opInfo o.code ch = (r1, r2, r3) := ⟨_, _, _, rfl⟩
  rw [hi] at hop hr
  obtain ⟨g, hg⟩ : ∃ g, g = OpR.arg o := ⟨_, rfl⟩
  rw [← hg] at hr
  have hg0 : g 0 = o.a := by rw [hg]; rfl
  have hg1 : g 1 = o.b := by rw [hg]; rfl
  have hg2 : g 2 = o.c := by rw [hg]; rfl
  clear hg
  obtain ⟨code, a, b, c, n⟩ := o
  simp only at hr hg0 hg1 hg2
  cbv
  refine callb_i hS _ hop ?_
  cbv
  refine callb_i hS _ (in72 _ _ _) ?_
  generalize hq : decide (least ≤ n ∧ n ≤ most) = q
  cases q
  · cbv
    exact lk_ff hr (fun h => by simp at hq; omega)
  · cbv
    refine loop_i Tryz.mixed okP hS (fun i => i ≤ 3 ∧ ∀ j, j < i → argOk many number j (g j)) (fun i => 3 - i)
      (fun i => ⟨mkTs [(1, int number), (7, int many), (10, isl 3 g), (11, int i)] 62, [.var [u8 code, int a, int b, int c, int n]], []⟩) 0 ⟨by omega, by omega⟩ ?_ ?_
    · refine le_mk rfl ⟨Like.refl _, Like.refl _, Like.sl' rfl ?_, Like.int rfl, trivial⟩ (.cons (.refl _) (.nil _)) (by omega) (.inr rfl) rfl
      intro i hi
      match i, hi with
      | 0, _ => cbv; rw [hg0]
      | 1, _ => cbv; rw [hg1]
      | 2, _ => cbv; rw [hg2]
    · intro i hi N hN
      have hin := in72 (g i) 0 (number - 1)
      generalize hz : decide (0 ≤ g i ∧ g i ≤ number - 1) = z at hin
      have hin' : PureF Tryz.prog true 72 [int (g (Sg.toNat (Int.ofNat i))), int 0, int (Sg.isub number 1)] (bool z) := by subst hS; exact hin
      have step : i < 3 → argOk many number i (g i) → i + 1 ≤ 3 ∧ ∀ j, j < i + 1 → argOk many number j (g j) := fun h1 h2 => ⟨h1, fun j hj => by
        by_cases e : j = i
        · subst e; exact h2
        · exact hi.2 j (by omega)⟩
      have bad : i < 3 → ¬ argOk many number i (g i) → false = r := fun h1 h2 => ff hr fun h => h2 (h.2 i h1)
      cbv
      repeat' ((first | (with_reducible apply req_i hS) | split | (refine callb_i hS _ hin' ?_; cases z)) <;> cbv)
      all_goals try (subst hS; simp [std, nat, IX.val] at * <;> first | omega | exact wrap64 (by omega) (by omega))
      all_goals first
        | (refine hN (i + 1) _ (step ?_ ?_) ?_ (le_mk rfl ⟨Like.refl _, Like.refl _, Like.refl _, Like.int ?_, trivial⟩ (.cons (.refl _) (.nil _)) (by omega) (.inr rfl) rfl) <;> subst hS <;> simp [std, nat, argOk, IX.val] at * <;> omega)
        | (refine lk_bool (bad ?_ ?_) <;> subst hS <;> simp [std, nat, IX.val, argOk] at * <;> omega)
        | (refine lk_tt hr ?_; subst hS; simp [std, nat, IX.val] at *; exact ⟨by omega, fun j hj => hi.2 j (by omega)⟩)

end Go.Proofs.Tryz.Run
