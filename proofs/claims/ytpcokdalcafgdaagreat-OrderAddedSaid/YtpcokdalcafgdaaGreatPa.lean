/- First open contracts. Conditions: none. -/
import Derived.Test.YtpcokdalcafgdaaGreatLd
import Derived.Test.YtpcokdalcafgdaaGreatNb
import Derived.Test.YtpcokdalcafgdaaGreatNc
import Derived.Test.YtpcokdalcafgdaaGreatNa
namespace Go.Proofs.Tryz.Run
open Go Go.Vf Go.Proofs
open Go.Proofs.YtpcokdalcafgdaaGreat

theorem same_ok (n m : Nat) (g h : Nat → Int) (hn : n ≤ 1000000) : PureF Tryz.prog false 23 [isl n g, isl m h] (.d (.bool (decide (n = m ∧ ∀ i, i < n → g i = h i)))) := by
  refine pureF_of_fn Tryz.mixed okP ok23 _ rfl fun E Sg hb hS => ?_
  generalize hr : decide (n = m ∧ ∀ i, i < n → g i = h i) = r
  unfold isl
  cbv
  split
  · cbv
    rename_i hc
    subst hS
    simp [std] at hc
    rw [← hr, decide_eq_false (by omega)]
    exact fun _ _ _ _ h => h
  · rename_i hc
    cbv
    have hnm : n = m := by subst hS; simp [std] at hc; omega
    refine loop_i Tryz.mixed okP hS (fun i => i ≤ n ∧ ∀ j, j < i → g j = h j) (fun i => n - i)
      (fun i => ⟨mkTs [(0, .d (.sl 1 n fun i => [.int .i64 (.v (g i))])), (1, .d (.sl 1 m fun i => [.int .i64 (.v (h i))])), (5, .d (.int .i64 (.v (i : Int))))] 26, [], []⟩) 0 ⟨by omega, by omega⟩ ?_ ?_
    · exact le_mk rfl ⟨Like.refl _, Like.refl _, Like.int rfl, trivial⟩ (.nil _) (by omega) (.inr rfl) rfl
    · intro i hi N hN
      cbv
      split
      · rename_i hc1
        cbv
        refine req_i hS ?_ (req_i hS ?_ ?_)
        · subst hS; simp [std] at hc1 ⊢; omega
        · subst hS; simp [std] at hc1 ⊢; omega
        split
        · rename_i hc2
          cbv
          subst hS
          simp [std] at hc2
          rw [← hr, decide_eq_false]
          · exact fun _ _ _ _ h => h
          · simp [std] at hc1
            intro hh
            exact hc2 (hh.2 i hc1)
        · rename_i hc2
          cbv
          refine req_i hS ?_ ?_
          · subst hS; simp [std] at hc1; exact wrap64 (by simp [std]; omega) (by simp [std]; omega)
          · refine hN (i + 1) _ ?_ ?_ (le_mk rfl ⟨Like.refl _, Like.refl _, Like.int ?_, trivial⟩ (.nil _) (by omega) (.inr rfl) rfl)
            · subst hS; simp [std] at hc1 hc2 
              refine ⟨by omega, fun j hj => ?_⟩
              by_cases e : j = i
              · subst e; exact hc2
              · exact hi.2 j (by omega)
            · subst hS; simp [std] at hc1; omega
            · subst hS; simp [std]
      · rename_i hc1
        cbv
        subst hS
        simp [std] at hc1
        rw [← hr, decide_eq_true]
        · exact fun _ _ _ _ h => h
        · exact ⟨hnm, fun j hj => hi.2 j (by omega)⟩

end Go.Proofs.Tryz.Run
