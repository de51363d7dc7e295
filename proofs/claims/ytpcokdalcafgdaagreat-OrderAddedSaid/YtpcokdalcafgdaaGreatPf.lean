/- The program's isOp and its Check of a core. Conditions: none. -/
import Derived.Test.YtpcokdalcafgdaaGreatPe
set_option linter.unusedSimpArgs false
set_option linter.unusedVariables false
namespace Go.Proofs.Tryz.Run
open Go Go.Vf Go.Proofs
open Go.Proofs.YtpcokdalcafgdaaGreat

theorem opInfo_arity {code : Int} (h : 1 ≤ code ∧ code ≤ 17) (ch : Int) : (opInfo code ch).1 = arity code := by
  unfold opInfo arity
  repeat' split
  all_goals simp
  all_goals omega

set_option maxHeartbeats 4000000 in
theorem isOp105 (nc : Nat) (ch : Nat → ChR) (no : Nat) (op : Nat → OpR) (nr : Nat) (rt : Nat → Int) (at' : Nat) (hc : nc ≤ 1000000) (hno : no ≤ 1000000) (hat : at' < no) (r : Bool) (hr : r = true ↔ opOk (op at') at' nc) :
    PureF Tryz.prog true 105 [(CoR.mk nc ch no op nr rt).av, int at'] (bool r) := by
  obtain ⟨z, hz⟩ : ∃ z : Bool, z = true ↔ numOk (op at').code (op at').n nc := by classical exact ⟨decide _, decide_eq_true_iff⟩
  have hnum := fun hcode => isNumber145 (CoR.mk nc ch no op nr rt) (op at') hc hcode z hz
  have hopr := operands146 (op at')
  have har := arity147 (op at').code _ rfl
  have hia := fun h => opInfo_arity (code := (op at').code) h nc
  have hargs : (opOk (op at') at' nc) ↔ (numOk (op at').code (op at').n nc ∧ argOk (opInfo (op at').code nc).1 at' 0 (op at').a ∧ argOk (opInfo (op at').code nc).1 at' 1 (op at').b ∧ argOk (opInfo (op at').code nc).1 at' 2 (op at').c) := by
    unfold opOk numOk
    constructor
    · rintro ⟨h1, h2⟩; exact ⟨h1, h2 0 (by omega), h2 1 (by omega), h2 2 (by omega)⟩
    · rintro ⟨h1, h2, h3, h4⟩
      refine ⟨h1, fun j hj => ?_⟩
      match j, hj with
      | 0, _ => exact h2
      | 1, _ => exact h3
      | 2, _ => exact h4
  rw [hargs] at hr
  clear hargs
  have hbad : ¬ (1 ≤ (op at').code ∧ (op at').code ≤ 17) → ¬ numOk (op at').code (op at').n nc := by
    intro h h2
    unfold numOk opInfo at h2
    (repeat' (split at h2)) <;> simp at h2 <;> omega
  have har4 : arity (op at').code = 0 ∨ arity (op at').code = 1 ∨ arity (op at').code = 2 ∨ arity (op at').code = 3 := by
    unfold arity; (repeat' split) <;> simp
  refine pure_bool (pureF_of_fn Tryz.mixed okP ok105 _ rfl fun E Sg hb hS => ?_)
  have etn : Sg.toNat (Int.ofNat at') = at' := by subst hS; rfl
  generalize hx : op at' = o at *
  obtain ⟨code, a, b, c, n⟩ := o
  simp only at hr hz hia hbad har4 hnum har hopr
  cbv
  refine req_i hS (by subst hS; simp [std]; omega) ?_
  simp only [nat, etn, hx]
  have hno : ¬ numOk code n nc → false = r := fun h => ff hr fun k => h k.1
  split
  · cbv
    exact lk_bool (hno (hbad (by subst hS; simp [std] at *; omega)))
  cbv
  split
  · cbv
    exact lk_bool (hno (hbad (by subst hS; simp [std] at *; omega)))
  have hcode : 1 ≤ code ∧ code ≤ 17 := by subst hS; simp [std] at *; omega
  cbv
  refine callb_i hS _ (hnum hcode) ?_
  cases z
  · cbv
    exact lk_bool (hno (by rw [← hz]; simp))
  have hz := hz.1 rfl
  cbv
  refine callb_i hS _ hopr ?_
  cbv
  refine callb_i hS _ har ?_
  rw [hia hcode] at hr
  clear hia hbad hnum hopr har hno
  have w : ∀ (l : List Int) (lo up : Int), l.length ≤ 3 → ∃ z : Bool, (z = true ↔ ∀ x, x ∈ l → lo ≤ x ∧ x ≤ up) ∧ PureF Tryz.prog true 104 [int lo, int up, .d (.sl 1 l.length (Vf.rowAt (l.map fun x => [.int .i64 (.v x)])))] (bool z) := fun l lo up hl => by
    classical exact ⟨decide (∀ x, x ∈ l → lo ≤ x ∧ x ≤ up), decide_eq_true_iff, withinL lo up l (by omega) _ decide_eq_true_iff⟩
  have esub : Sg.isub (Int.ofNat at') (Int.ofNat 1) = at' - 1 := by subst hS; rfl
  have e0 : Sg.nsub 0 0 = 0 := by subst hS; rfl
  have e1 : Sg.nsub 1 0 = 1 := by subst hS; rfl
  have e2 : Sg.nsub 2 0 = 2 := by subst hS; rfl
  have e3 : Sg.nsub 3 0 = 3 := by subst hS; rfl
  have d1 : Sg.nsub 3 1 = 2 := by subst hS; rfl
  have d2 : Sg.nsub 3 2 = 1 := by subst hS; rfl
  have d3 : Sg.nsub 3 3 = 0 := by subst hS; rfl
  have s0 : Sg.nadd 0 0 = 0 := by subst hS; rfl
  have s1 : Sg.nadd 0 1 = 1 := by subst hS; rfl
  have s2 : Sg.nadd 0 2 = 2 := by subst hS; rfl
  rcases har4 with h4 | h4 | h4 | h4 <;> rw [h4] at hr ⊢
  · obtain ⟨z1, hz1, hw1⟩ := w [] 0 ((at' : Int) - 1) (by simp)
    obtain ⟨z2, hz2, hw2⟩ := w [a, b, c] 0 0 (by simp)
    cbv
    refine req_i hS (by subst hS; exact wrap64 (by simp [std]; omega) (by simp [std]; omega)) ?_
    refine req_i hS (by subst hS; simp [std]) ?_
    refine req_i hS (by subst hS; simp [std]) ?_
    refine req_i hS (by subst hS; simp [std]) ?_
    simp only [e0]
    cbv
    refine callb_i hS (bool z1) (by subst hS; exact PureF.like (.cons (Like.refl _) (.cons (Like.refl _) (.cons (Like.sl (fun i hi => absurd hi (by omega))) .nil))) hw1) ?_
    cases z1
    · cbv
      refine lk_bool (ff hr fun h => ?_)
      simp [argOk] at hz1 h <;> omega
    · cbv
      refine req_i hS (by subst hS; simp [std]) ?_
      refine req_i hS (by subst hS; simp [std]) ?_
      refine req_i hS (by subst hS; simp [std]) ?_
      simp only [e3]
      cbv
      simp only [s0]
      cbv
      refine callb_i hS (bool z2) (by subst hS; exact hw2) ?_
      cbv
      refine lk_bool ?_
      cases r <;> cases z2 <;> simp [argOk, hz] at hz1 hz2 hr ⊢ <;> omega
  · obtain ⟨z1, hz1, hw1⟩ := w [a] 0 ((at' : Int) - 1) (by simp)
    obtain ⟨z2, hz2, hw2⟩ := w [b, c] 0 0 (by simp)
    cbv
    refine req_i hS (by subst hS; exact wrap64 (by simp [std]; omega) (by simp [std]; omega)) ?_
    refine req_i hS (by subst hS; simp [std]) ?_
    refine req_i hS (by subst hS; simp [std]) ?_
    refine req_i hS (by subst hS; simp [std]) ?_
    simp only [e1]
    cbv
    simp only [s0]
    cbv
    refine callb_i hS (bool z1) (by subst hS; exact hw1) ?_
    cases z1
    · cbv
      refine lk_bool (ff hr fun h => ?_)
      simp [argOk] at hz1 h <;> omega
    · cbv
      refine req_i hS (by subst hS; simp [std]) ?_
      refine req_i hS (by subst hS; simp [std]) ?_
      refine req_i hS (by subst hS; simp [std]) ?_
      simp only [d1]
      cbv
      simp only [s1]
      cbv
      refine callb_i hS (bool z2) (by subst hS; exact hw2) ?_
      cbv
      refine lk_bool ?_
      cases r <;> cases z2 <;> simp [argOk, hz] at hz1 hz2 hr ⊢ <;> omega
  · obtain ⟨z1, hz1, hw1⟩ := w [a, b] 0 ((at' : Int) - 1) (by simp)
    obtain ⟨z2, hz2, hw2⟩ := w [c] 0 0 (by simp)
    cbv
    refine req_i hS (by subst hS; exact wrap64 (by simp [std]; omega) (by simp [std]; omega)) ?_
    refine req_i hS (by subst hS; simp [std]) ?_
    refine req_i hS (by subst hS; simp [std]) ?_
    refine req_i hS (by subst hS; simp [std]) ?_
    simp only [e2]
    cbv
    simp only [s0]
    cbv
    refine callb_i hS (bool z1) (by subst hS; exact hw1) ?_
    cases z1
    · cbv
      refine lk_bool (ff hr fun h => ?_)
      simp [argOk] at hz1 h <;> omega
    · cbv
      refine req_i hS (by subst hS; simp [std]) ?_
      refine req_i hS (by subst hS; simp [std]) ?_
      refine req_i hS (by subst hS; simp [std]) ?_
      simp only [d2]
      cbv
      simp only [s2]
      cbv
      refine callb_i hS (bool z2) (by subst hS; exact hw2) ?_
      cbv
      refine lk_bool ?_
      cases r <;> cases z2 <;> simp [argOk, hz] at hz1 hz2 hr ⊢ <;> omega
  · obtain ⟨z1, hz1, hw1⟩ := w [a, b, c] 0 ((at' : Int) - 1) (by simp)
    obtain ⟨z2, hz2, hw2⟩ := w [] 0 0 (by simp)
    cbv
    refine req_i hS (by subst hS; exact wrap64 (by simp [std]; omega) (by simp [std]; omega)) ?_
    refine req_i hS (by subst hS; simp [std]) ?_
    refine req_i hS (by subst hS; simp [std]) ?_
    refine req_i hS (by subst hS; simp [std]) ?_
    simp only [e3]
    cbv
    simp only [s0]
    cbv
    refine callb_i hS (bool z1) (by subst hS; exact hw1) ?_
    cases z1
    · cbv
      refine lk_bool (ff hr fun h => ?_)
      simp [argOk] at hz1 h <;> omega
    · cbv
      refine req_i hS (by subst hS; simp [std]) ?_
      refine req_i hS (by subst hS; simp [std]) ?_
      refine req_i hS (by subst hS; simp [std]) ?_
      simp only [d3]
      cbv
      refine callb_i hS (bool z2) (by subst hS; exact PureF.like (.cons (Like.refl _) (.cons (Like.refl _) (.cons (Like.sl (fun i hi => absurd hi (by omega))) .nil))) hw2) ?_
      cbv
      refine lk_bool ?_
      cases r <;> cases z2 <;> simp [argOk, hz] at hz1 hz2 hr ⊢ <;> omega

end Go.Proofs.Tryz.Run
