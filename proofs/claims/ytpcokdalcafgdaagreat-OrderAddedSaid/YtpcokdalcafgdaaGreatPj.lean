/- The program's ByUse: the operands, and the function that uses a choice. Conditions: none. -/
import Derived.Test.YtpcokdalcafgdaaGreatPi
set_option linter.unusedSimpArgs false
set_option linter.unusedVariables false
namespace Go.Proofs.Tryz.Run
open Go Go.Vf Go.Proofs
open Go.Proofs.YtpcokdalcafgdaaGreat

set_option maxHeartbeats 4000000 in
theorem operands71 (o : OpR) (hc : 1 ≤ o.code ∧ o.code ≤ 17) : PureF Tryz.prog false 71 [o.av] (ilist (opList o)) := by
  obtain ⟨code, a, b, c, n⟩ := o
  refine pureF_of_fn Tryz.mixed okP ok71 _ rfl fun E Sg hb hS => ?_
  generalize hl : opList ⟨code, a, b, c, n⟩ = l
  simp only [opList] at hl hc
  obtain ⟨r, hr⟩ : ∃ r, r = ilist l := ⟨_, rfl⟩
  rw [← hr]
  cbv
  split
  · have e : l = [] := by rw [← hl, if_pos (by subst hS; simp [std] at *; omega)]
    cbv
    subst hr e
    exact Like.nil0
  cbv
  split
  · have e : l = [a] := by rw [← hl, if_neg (by subst hS; simp [std] at *; omega), if_pos (by subst hS; simp [std] at *; omega)]
    cbv
    refine req_i hS (by subst hS; simp [std]) (req_i hS (by subst hS; simp [std]) (req_i hS (by subst hS; simp [std]) ?_))
    subst hr e
    exact likes_list [a] (by subst hS; rfl) fun i hi => by
      subst hS
      have hi : i < 1 := hi
      match i, hi with | 0, _ => rfl
  cbv
  split
  · have e : l = [a, b] := by rw [← hl, if_neg (by subst hS; simp [std] at *; omega), if_neg (by subst hS; simp [std] at *; omega), if_neg (by subst hS; simp [std] at *; omega)]
    cbv
    refine req_i hS (by subst hS; simp [std]) (req_i hS (by subst hS; simp [std]) (req_i hS (by subst hS; simp [std]) ?_))
    subst hr e
    exact likes_list [a, b] (by subst hS; rfl) fun i hi => by
      subst hS
      have hi : i < 2 := hi
      match i, hi with
      | 0, _ => rfl
      | 1, _ => rfl
  have e : l = [a, b, c] := by rw [← hl, if_neg (by subst hS; simp [std] at *; omega), if_neg (by subst hS; simp [std] at *; omega), if_pos (by subst hS; simp [std] at *; omega)]
  cbv
  subst hr e
  exact likes_list [a, b, c] rfl fun i hi => by
    match i, hi with
    | 0, _ => rfl
    | 1, _ => rfl
    | 2, _ => rfl

def arrB (n : Nat) (u : Nat → Bool) : AObj := .arr 1 n fun i => [.bool (u i)]

theorem LikeO.arrB {n m : Nat} {e : Nat → List DV} {u : Nat → Bool} (hn : n = m) (h : ∀ i, i < n → e i = [.bool (u i)]) : LikeO (.arr 1 n e) (arrB m u) := LikeO.arr' hn h

/-- The list and the flags say the same. -/
def Flags (nc : Nat) (u : Nat → Bool) (l : List Int) : Prop := (∀ k : Nat, k < nc → (u k = true ↔ (k : Int) ∈ l)) ∧ ((List.range nc).filter u).length = l.length

theorem filter_upd (u : Nat → Bool) (x : Nat) (hx : u x = false) : ∀ nc, ((List.range nc).filter fun k => if k = x then true else u k).length = ((List.range nc).filter u).length + (if x < nc then 1 else 0) := by
  intro nc
  induction nc with
  | zero => simp
  | succ n ih =>
    rw [List.range_succ, List.filter_append, List.filter_append, List.length_append, List.length_append, ih]
    by_cases e : n = x
    · subst e; simp [hx]
    · have : (x < n + 1) = (x < n) := by simp; omega
      simp only [this]
      cases hu : u n <;> simp [e, hu] <;> omega

theorem Flags.use {nc : Nat} {u : Nat → Bool} {l : List Int} (h : Flags nc u l) {x : Nat} (hx : x < nc) :
    Flags nc (fun k => if k = x then true else u k) (onceL l x) := by
  unfold onceL
  split
  · rename_i hm
    have hu := (h.1 x hx).2 hm
    have : (fun k => if k = x then true else u k) = u := by funext k; split <;> simp_all
    rw [this]; exact h
  · rename_i hm
    have hu : u x = false := by cases e : u x with | false => rfl | true => exact absurd ((h.1 x hx).1 e) hm
    refine ⟨fun k hk => ?_, ?_⟩
    · by_cases e : k = x
      · subst e; simp
      · have : ((k : Int) = (x : Int)) ↔ False := by simp; omega
        simp [e, h.1 k hk, this]
    · rw [filter_upd u x hu nc, h.2, if_pos hx]; simp

theorem Flags.full {nc : Nat} {u : Nat → Bool} {l : List Int} (h : Flags nc u l) (hl : l.length = nc) : ∀ k : Nat, k < nc → (k : Int) ∈ l := fun k hk => by
  have h2 := h.2
  rw [hl] at h2
  have : ∀ a, a ∈ List.range nc → u a = true := List.length_filter_eq_length_iff.1 (by simpa using h2)
  exact (h.1 k hk).1 (this k (by simpa using hk))

def useK (nc : Nat) (u : Nat → Bool) (n : Nat) (g : Nat → Int) (x : Nat) (pg : List Nat) (v : AV) (h' : List AObj) : Prop :=
  pg = [0] ∧ ∃ n' g', L n' g' = onceL (L n g) x ∧ n' ≤ n + 1 ∧ h' = [arrI n' g', arrB nc (fun k => if k = x then true else u k), .var [.msl 0 1 none n' false], .var [.msl 1 1 none nc false]]

set_option maxHeartbeats 4000000 in
theorem use70 {nc n : Nat} (hn : n ≤ 1000000) (hnc : nc ≤ 1000000) (u : Nat → Bool) (g : Nat → Int) (x : Nat) (hx : x < nc) (hf : Flags nc u (L n g)) :
    ACall Tryz.prog 70 [int x, .ptr 3 0, .ptr 2 0] [arrI n g, arrB nc u, .var [.msl 0 1 none n false], .var [.msl 1 1 none nc false]] (useK nc u n g x) := by
  refine acall_c Tryz.mixed okP ok70 rfl fun E Sg hb hS F hF => ?_
  simp only [List.length_cons, List.length_nil] at hb
  have ett : ∀ z, Sg.toNat z = z.toNat := by subst hS; exact fun _ => rfl
  have hux : u x = true ∨ u x = false := by cases u x <;> simp
  cbv
  refine req_i hS (by subst hS; simp [std]; omega) ?_
  simp only [nat, ett, Int.ofNat_eq_natCast, Int.toNat_natCast]
  refine req_i hS (by subst hS; simp [std]; omega) ?_
  have same : u x = true → (fun k => if k = x then true else u k) = u := fun h => by funext k; split <;> simp_all
  cases hux : u x
  · cbv
    have hm : ¬ (x : Int) ∈ L n g := fun h => by rw [(hf.1 x hx).2 h] at hux; cases hux
    refine req_i hS (by subst hS; simp [std]; omega) ?_
    simp only [nat, ett, Int.ofNat_eq_natCast, Int.toNat_natCast]
    refine req_i hS (by subst hS; simp [std]; omega) ?_
    refine req_i hS trivial ?_
    refine req_i hS (by subst hS; simp [std]; omega) ?_
    refine ⟨[0], by simp, hF (h1 := [arrI (n + 1) (fun j => if j < n then g j else x), arrB nc (fun k => if k = x then true else u k), .var [.msl 0 1 none (n + 1) false], .var [.msl 1 1 none nc false]]) (.cons (LikeO.arrI (by subst hS; rfl) ?_) (.cons (LikeO.arrB rfl ?_) (.cons (LikeO.var (.cons (by subst hS; exact Like.refl _) .nil)) (.cons (.refl _) (.nil _))))) (Like.refl _) (by simp) (.inr rfl) ⟨rfl, n + 1, _, ?_, by omega, rfl⟩⟩
    · subst hS
      intro j hj
      simp [std] at hj ⊢
      by_cases e : j < n
      · simp [e]
      · have : j = n := by omega
        subst this
        simp
        rfl
    · subst hS
      intro j hj
      simp only [std]
      split
      · rfl
      · rfl
    · rw [L_succ, onceL, if_neg hm]
      congr 1
      · exact L_congr fun j hj => if_pos hj
      · simp
  · cbv
    have hm : (x : Int) ∈ L n g := (hf.1 x hx).1 hux
    refine ⟨[0], by simp, hF (h1 := [arrI n g, arrB nc (fun k => if k = x then true else u k), .var [.msl 0 1 none n false], .var [.msl 1 1 none nc false]]) (.cons (.refl _) (.cons (LikeO.arrB rfl fun i hi => by have e : (if i = x then true else u i) = u i := congrFun (same hux) i; rw [e]) (.cons (.refl _) (.cons (.refl _) (.nil _))))) (Like.refl _) (by simp) (.inr rfl) ⟨rfl, n, g, ?_, by omega, rfl⟩⟩
    rw [onceL, if_pos hm]

end Go.Proofs.Tryz.Run
