/- OrderAdded: marks, and a copy whose operations can grow. Conditions: none. -/
import Derived.Test.YtpcokdalcafgdaaGreatRa
import Derived.Test.YtpcokdalcafgdaaGreatPl
import Derived.Test.YtpcokdalcafgdaaGreatOc
set_option linter.unusedSimpArgs false
set_option linter.unusedVariables false
namespace Go.Proofs.Tryz.Run
open Go Go.Vf Go.Proofs
open Go.Proofs.YtpcokdalcafgdaaGreat

/-- The flags after a mark. -/
def mk1 (op : Nat → OpR) (is : Bool) (a : Int) (u : Nat → Bool) (k : Nat) : Bool := u k || (is && decide ((op a.toNat).code = 3 ∧ (op a.toNat).n = k))

def markK (nc : Nat) (op : Nat → OpR) (is : Bool) (a : Int) (u : Nat → Bool) (pg : List Nat) (v : AV) (h' : List AObj) : Prop :=
  pg = [] ∧ h' = [arrB nc (mk1 op is a u)]

set_option maxHeartbeats 4000000 in
theorem mark39 (c : CoR) (is : Bool) (a : Int) (u : Nat → Bool) (ha : is = true → 0 ≤ a ∧ a < c.no) (hn : is = true → (c.op a.toNat).code = 3 → 0 ≤ (c.op a.toNat).n ∧ (c.op a.toNat).n < c.nc) (hnc : c.nc ≤ 1000000) :
    ACall Tryz.prog 39 [c.av, .msl 0 1 none c.nc false, bool is, int a] [arrB c.nc u] (markK c.nc c.op is a u) := by
  obtain ⟨nc, ch, no, op, nr, rt⟩ := c
  simp only at ha hn hnc
  obtain ⟨cd, hcd⟩ : ∃ cd, cd = fun i => (op i).code := ⟨_, rfl⟩
  refine acall_c Tryz.mixed okP ok39 rfl fun E Sg hb hS F hF => ?_
  simp only [List.length_cons, List.length_nil] at hb
  have ett : ∀ z, Sg.toNat z = z.toNat := by subst hS; exact fun _ => rfl
  cases is
  · cbv
    refine ⟨[], by simp, hF (h1 := [arrB nc (mk1 op false a u)]) (.cons (LikeO.arrB rfl fun i hi => by simp [mk1]) (.nil _)) (Like.refl _) (by simp) (.inl ⟨rfl, rfl⟩) ⟨rfl, rfl⟩⟩
  · have ha := ha rfl
    have hn := hn rfl
    cbv
    refine req_i hS (by subst hS; simp [std]; omega) ?_
    simp only [nat, ett, Int.ofNat_eq_natCast, Int.toNat_natCast]
    rcases hoa : op a.toNat with ⟨code, oa, ob, oc, on⟩
    simp only [hoa] at hn
    split
    · have h3 : code = 3 := by subst hS; simp [std] at *; assumption
      cbv
      refine req_i hS (by subst hS; simp [std]; omega) ?_
      simp only [nat, ett, Int.ofNat_eq_natCast, Int.toNat_natCast, hoa]
      refine req_i hS (by subst hS; simp [std]; exact hn h3) ?_
      refine req_i hS (by subst hS; have h := hn h3; show on.toNat < nc; have h2 : on < (nc : Int) := h.2; omega) ?_
      refine ⟨[], by simp, hF (h1 := [arrB nc (mk1 op true a u)]) (.cons (LikeO.arrB rfl fun i hi => ?_) (.nil _)) (Like.refl _) (by simp) (.inl ⟨rfl, rfl⟩) ⟨rfl, rfl⟩⟩
      subst hS
      have h := hn h3
      simp only [std, mk1, hoa, h3, Bool.true_and, true_and]
      by_cases e : i = on.toNat
      · have e2 : on = (i : Int) := by rw [e]; exact (Int.toNat_of_nonneg h.1).symm
        rw [if_pos e, decide_eq_true e2]; simp
      · have e2 : on ≠ (i : Int) := fun h2 => e (by rw [h2]; rfl)
        rw [if_neg e, decide_eq_false e2]; simp
    · have h3 : code ≠ 3 := by subst hS; simp [std] at *; assumption
      cbv
      refine ⟨[], by simp, hF (h1 := [arrB nc (mk1 op true a u)]) (.cons (LikeO.arrB rfl fun i hi => ?_) (.nil _)) (Like.refl _) (by simp) (.inl ⟨rfl, rfl⟩) ⟨rfl, rfl⟩⟩
      simp [mk1, hoa, h3]

def V3 : AObj := .var [.any, .any, .any]

/-- What a copy is: its choices and operations are objects of their own, if there are any. -/
def copyK (c : CoR) (pg : List Nat) (v : AV) (h' : List AObj) : Prop :=
  pg = [] ∧ ((c.nc = 0 ∧ c.no = 0 ∧ v = .agg [.d .nil, .d .nil, isl c.nr c.rt] ∧ h' = [V3, V3]) ∨
    (c.nc = 0 ∧ 0 < c.no ∧ v = .agg [.d .nil, .msl 2 5 none c.no false, isl c.nr c.rt] ∧ h' = [V3, V3, .arr 5 c.no fun i => (c.op i).row]) ∨
    (0 < c.nc ∧ c.no = 0 ∧ v = .agg [.msl 2 3 none c.nc false, .d .nil, isl c.nr c.rt] ∧ h' = [V3, V3, .arr 3 c.nc fun i => (c.ch i).row]) ∨
    (0 < c.nc ∧ 0 < c.no ∧ v = .agg [.msl 2 3 none c.nc false, .msl 3 5 none c.no false, isl c.nr c.rt] ∧ h' = [V3, V3, .arr 3 c.nc fun i => (c.ch i).row, .arr 5 c.no fun i => (c.op i).row]))

theorem likeV3 {a b c : AV} : LikeO (.var [a, b, c]) V3 := LikeO.var (.cons (.any _) (.cons (.any _) (.cons (.any _) .nil)))

set_option maxHeartbeats 4000000 in
theorem copy31r (c : CoR) (hbig : c.nc ≤ 1000000 ∧ c.no ≤ 1000000 ∧ c.nr ≤ 1000000) : ACall Tryz.prog 31 [c.av] [] (copyK c) := by
  have hi := ints41 hbig.2.2 c.rt
  obtain ⟨nc, ch, no, op, nr, rt⟩ := c
  simp only at hbig
  refine acall_c Tryz.mixed okP ok31 rfl fun E Sg hb hS F hF => ?_
  simp only [List.length_nil] at hb
  cases nc <;> cases no
  all_goals
    cbv
    repeat' ((first | (with_reducible apply req_i hS) | (refine callb_i hS _ hi ?_)) <;> cbv)
  all_goals try (subst hS; simp [std, nat, IX.val, big] at * <;> omega)
  · exact ⟨[], by simp, hF (.cons likeV3 (.cons likeV3 (.nil _))) (Like.refl _) (by simp) (.inr rfl) ⟨rfl, .inl ⟨rfl, rfl, rfl, rfl⟩⟩⟩
  · exact ⟨[], by simp, hF (.cons likeV3 (.cons likeV3 (.cons (.refl _) (.nil _)))) (Like.refl _) (by simp) (.inr rfl) ⟨rfl, .inr (.inl ⟨rfl, Nat.succ_pos _, rfl, rfl⟩)⟩⟩
  · exact ⟨[], by simp, hF (.cons likeV3 (.cons likeV3 (.cons (.refl _) (.nil _)))) (Like.refl _) (by simp) (.inr rfl) ⟨rfl, .inr (.inr (.inl ⟨Nat.succ_pos _, rfl, rfl, rfl⟩))⟩⟩
  · exact ⟨[], by simp, hF (.cons likeV3 (.cons likeV3 (.cons (.refl _) (.cons (.refl _) (.nil _))))) (Like.refl _) (by simp) (.inr rfl) ⟨rfl, .inr (.inr (.inr ⟨Nat.succ_pos _, Nat.succ_pos _, rfl, rfl⟩))⟩⟩

end Go.Proofs.Tryz.Run
