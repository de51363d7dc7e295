/- The program's Check of a core. Conditions: none. -/
import Derived.Test.YtpcokdalcafgdaaGreatPd
set_option linter.unusedSimpArgs false
set_option linter.unusedVariables false
namespace Go.Proofs.Tryz.Run
open Go Go.Vf Go.Proofs
open Go.Proofs.YtpcokdalcafgdaaGreat

theorem withinL (lo up : Int) (l : List Int) (hl : l.length ≤ 1000000) (r : Bool) (hr : r = true ↔ ∀ z, z ∈ l → lo ≤ z ∧ z ≤ up) :
    PureF Tryz.prog true 104 [int lo, int up, .d (.sl 1 l.length (Vf.rowAt (l.map fun x => [.int .i64 (.v x)])))] (bool r) := by
  refine PureF.like (.cons (Like.refl _) (.cons (Like.refl _) (.cons (Like.sl' rfl fun i hi => ?_) .nil))) (within104 lo up hl (fun i => l.getD i 0) r ?_)
  · rw [rowAt_eq]; simp [hi]
  · rw [hr]
    constructor
    · intro h i hi; simp [hi]; exact h _ (List.getElem_mem hi)
    · intro h z hz
      obtain ⟨i, hi, rfl⟩ := List.getElem_of_mem hz
      have := h i hi
      simpa [hi] using this

def numOk (code n ch : Int) : Prop := (opInfo code ch).2.1 ≤ n ∧ n ≤ (opInfo code ch).2.2

set_option maxHeartbeats 4000000 in
theorem isNumber145 (c : CoR) (o : OpR) (hc : c.nc ≤ 1000000) (hcode : 1 ≤ o.code ∧ o.code ≤ 17) (r : Bool) (hr : r = true ↔ numOk o.code o.n c.nc) : PureF Tryz.prog true 145 [c.av, o.av] (bool r) := by
  obtain ⟨nc, ch, no, op, nr, rt⟩ := c
  obtain ⟨code, a, b, c, n⟩ := o
  simp only [numOk] at hr hcode hc
  have hin : ∀ lo up, ∃ z : Bool, (z = true ↔ lo ≤ n ∧ n ≤ up) ∧ PureF Tryz.prog true 104 [int lo, int up, .d (.sl 1 1 (Vf.rowAt [[.int .i64 (.v n)]]))] (bool z) := fun lo up =>
    ⟨decide (lo ≤ n ∧ n ≤ up), decide_eq_true_iff, withinL lo up [n] (by simp) _ (by simp)⟩
  refine pure_bool (pureF_of_fn Tryz.mixed okP ok145 _ rfl fun E Sg hb hS => ?_)
  cbv
  split
  · have hcode : code = 1 := by subst hS; simp [std] at *; omega
    obtain ⟨z, hz, hin⟩ := hin (-9999) 9999
    cbv
    refine callb_i hS _ hin ?_
    cbv
    exact lk_bool (by subst hcode; cases r <;> cases z <;> simp [opInfo] at hr hz ⊢ <;> omega)
  cbv
  split
  · have hcode : code = 2 := by subst hS; simp [std] at *; omega
    obtain ⟨z, hz, hin⟩ := hin 1 4
    cbv
    refine callb_i hS _ hin ?_
    cbv
    exact lk_bool (by subst hcode; cases r <;> cases z <;> simp [opInfo] at hr hz ⊢ <;> omega)
  cbv
  split
  · have hcode : code = 3 := by subst hS; simp [std] at *; omega
    obtain ⟨z, hz, hin⟩ := hin 0 ((nc : Int) - 1)
    cbv
    refine req_i hS (by subst hS; exact wrap64 (by simp [std]; omega) (by simp [std]; omega)) ?_
    refine callb_i hS (bool z) (by subst hS; exact hin) ?_
    cbv
    exact lk_bool (by subst hcode; cases r <;> cases z <;> simp [opInfo] at hr hz ⊢ <;> omega)
  cbv
  split
  · have hcode : code = 4 := by subst hS; simp [std] at *; omega
    obtain ⟨z, hz, hin⟩ := hin 0 31
    cbv
    refine callb_i hS _ hin ?_
    cbv
    exact lk_bool (by subst hcode; cases r <;> cases z <;> simp [opInfo] at hr hz ⊢ <;> omega)
  cbv
  refine lk_bool ?_
  subst hS
  simp [std] at *
  cases r <;> simp [opInfo, *] at hr ⊢ <;> (repeat' (split at hr)) <;> simp at * <;> omega

theorem operands146 (o : OpR) : PureF Tryz.prog false 146 [o.av] (.agg [int o.a, int o.b, int o.c]) := by
  obtain ⟨code, a, b, c, n⟩ := o
  refine pureF_of_fn Tryz.mixed okP ok146 _ rfl fun E Sg hb hS => ?_
  cbv
  exact fun _ _ _ _ h => h

def arity (code : Int) : Int := if code ≤ 4 then 0 else if code ≤ 6 then 1 else if code ≤ 16 then 2 else 3

theorem arity147 (code : Int) (r : Int) (hr : r = arity code) : PureF Tryz.prog false 147 [u8 code] (.d (.int .i64 (.l r))) := by
  refine pureF_of_fn Tryz.mixed okP ok147 _ rfl fun E Sg hb hS => ?_
  cbv
  repeat' (split <;> cbv)
  all_goals
    refine Like.int ?_
    subst hS
    simp [std, IX.val] at *
    rw [hr]
    simp [arity, *]
  all_goals omega

end Go.Proofs.Tryz.Run
