/- Operands of an operation; once. Conditions: none. -/
import Derived.Test.YtpcokdalcafgdaaGreatPg
set_option linter.unusedSimpArgs false
set_option linter.unusedVariables false
namespace Go.Proofs.Tryz.Run
open Go Go.Vf Go.Proofs
open Go.Proofs.YtpcokdalcafgdaaGreat

/-- The list of so many numbers. -/
def L {α : Type} (n : Nat) (g : Nat → α) : List α := (List.range n).map g

theorem L_length {α : Type} (n : Nat) (g : Nat → α) : (L n g).length = n := by simp [L]
theorem L_succ {α : Type} (n : Nat) (g : Nat → α) : L (n + 1) g = L n g ++ [g n] := by simp [L, List.range_succ]
theorem L_zero {α : Type} (g : Nat → α) : L 0 g = [] := rfl
theorem L_congr {α : Type} {n : Nat} {g h : Nat → α} (e : ∀ i, i < n → g i = h i) : L n g = L n h := by
  unfold L; exact List.map_congr_left fun i hi => e i (by simpa using hi)
theorem mem_L {α : Type} {n : Nat} {g : Nat → α} {x : α} : x ∈ L n g ↔ ∃ i, i < n ∧ g i = x := by simp [L]

def arrI (n : Nat) (g : Nat → Int) : AObj := .arr 1 n fun i => [.int .i64 (.v (g i))]

theorem LikeO.arrI {n m : Nat} {e : Nat → List DV} {g : Nat → Int} (hn : n = m) (h : ∀ i, i < n → e i = [.int .i64 (.v (g i))]) : LikeO (.arr 1 n e) (arrI m g) := LikeO.arr' hn h

/-- The operands that count. -/
def opList (o : OpR) : List Int :=
  if o.code ≤ 4 then [] else if o.code ≤ 6 then [o.a] else if o.code = 17 then [o.a, o.b, o.c] else [o.a, o.b]

def ilist (l : List Int) : AV := isl l.length fun i => l.getD i 0

theorem likes_list (l : List Int) {n : Nat} {e : Nat → List DV} (hn : n = l.length) (h : ∀ i, i < n → e i = [.int .i64 (.v (l.getD i 0))]) : Like (.d (.sl 1 n e)) (ilist l) := Like.sl' hn h

theorem operands74 (o : OpR) : PureF Tryz.prog false 74 [o.av] (ilist (opList o)) := by
  obtain ⟨code, a, b, c, n⟩ := o
  refine pureF_of_fn Tryz.mixed okP ok74 _ rfl fun E Sg hb hS => ?_
  generalize hl : opList ⟨code, a, b, c, n⟩ = l
  simp only [opList] at hl
  obtain ⟨r, hr⟩ : ∃ r, r = ilist l := ⟨_, rfl⟩
  rw [← hr]
  cbv
  split
  · have e : l = [] := by rw [← hl, if_pos (by subst hS; simp [std] at *; omega)]
    cbv
    subst hr e
    exact Like.nil0
  cbv
  split
  · have e : l = [a] := by rw [← hl, if_neg (by subst hS; simp [std] at *; omega), if_pos (by subst hS; simp [std] at *; omega)]
    cbv
    subst hr e
    exact likes_list [a] rfl fun i hi => by match i, hi with | 0, _ => rfl
  cbv
  split
  · have e : l = [a, b, c] := by rw [← hl, if_neg (by subst hS; simp [std] at *; omega), if_neg (by subst hS; simp [std] at *; omega), if_pos (by subst hS; simp [std] at *; omega)]
    cbv
    subst hr e
    exact likes_list [a, b, c] rfl fun i hi => by
      match i, hi with
      | 0, _ => rfl
      | 1, _ => rfl
      | 2, _ => rfl
  have e : l = [a, b] := by rw [← hl, if_neg (by subst hS; simp [std] at *; omega), if_neg (by subst hS; simp [std] at *; omega), if_neg (by subst hS; simp [std] at *; omega)]
  cbv
  subst hr e
  exact likes_list [a, b] rfl fun i hi => by
    match i, hi with
    | 0, _ => rfl
    | 1, _ => rfl

/-- A list with a number, if this is not in it. -/
def onceL (l : List Int) (x : Int) : List Int := if x ∈ l then l else l ++ [x]

def onceK (n : Nat) (g : Nat → Int) (x : Int) (pg : List Nat) (v : AV) (h' : List AObj) : Prop :=
  pg = [0] ∧ ∃ n' g', L n' g' = onceL (L n g) x ∧ n' ≤ n + 1 ∧ v = .msl 0 1 none n' false ∧ h' = [arrI n' g']

set_option maxHeartbeats 4000000 in
theorem once75 {n : Nat} (hn : n ≤ 1000000) (g : Nat → Int) (x : Int) : ACall Tryz.prog 75 [.msl 0 1 none n false, int x] [arrI n g] (onceK n g x) := by
  refine acall_c Tryz.mixed okP ok75 rfl fun E Sg hb hS F hF => ?_
  simp only [List.length_cons, List.length_nil] at hb
  cbv
  refine loop_i Tryz.mixed okP hS (fun i => i ≤ n ∧ ∀ j, j < i → g j ≠ x) (fun i => n - i)
    (fun i => ⟨mkTs [(0, .msl 0 1 none n false), (1, int x), (5, int i)] 23, [arrI n g], []⟩) 0 ⟨by omega, by omega⟩ ?_ ?_
  · exact le_mk rfl ⟨Like.refl _, Like.refl _, lk_l rfl, trivial⟩ (.cons (.refl _) (.nil _)) (by simp; omega) (.inr rfl) rfl
  · intro i hi N hN
    cbv
    split
    · have hlt : i < n := by subst hS; simp [std] at *; omega
      cbv
      refine req_i hS (by subst hS; simp [std]; omega) ?_
      refine req_i hS (by subst hS; simp [std]; omega) ?_
      split
      · have hx : g i = x := by subst hS; simp [std] at *; assumption
        cbv
        refine ⟨[0], by simp, hF (.same _) (Like.refl _) (by simp) (.inr rfl) ⟨rfl, n, g, ?_, by omega, rfl, rfl⟩⟩
        rw [onceL, if_pos (mem_L.2 ⟨i, hlt, hx⟩)]
      · have hx : g i ≠ x := by subst hS; simp [std] at *; assumption
        cbv
        refine req_i hS (by subst hS; exact wrap64 (by simp [std]; omega) (by simp [std]; omega)) ?_
        refine hN (i + 1) _ ⟨by omega, fun j hj => ?_⟩ (by omega) (le_mk rfl ⟨Like.refl _, Like.refl _, lk_v (by subst hS; simp [std]), trivial⟩ (.cons (.refl _) (.nil _)) (by simp; omega) (.inr rfl) rfl)
        by_cases e : j = i
        · subst e; exact hx
        · exact hi.2 j (by omega)
    · have hall : ∀ j, j < n → g j ≠ x := by subst hS; simp [std] at *; exact fun j hj => hi.2 j (by omega)
      cbv
      refine req_i hS trivial ?_
      refine req_i hS (by subst hS; simp [std, big]; omega) ?_
      refine ⟨[0], by simp, hF (.cons (LikeO.arrI (m := n + 1) (g := fun j => if j < n then g j else x) (by subst hS; rfl) ?_) (.nil _)) (v0 := .msl 0 1 none (n + 1) false) ?_ (by simp) (.inr rfl) ⟨rfl, n + 1, _, ?_, by omega, rfl, rfl⟩⟩
      · subst hS
        intro j hj
        simp [std] at hj ⊢
        by_cases e : j < n
        · simp [e]
        · have : j = n := by omega
          subst this
          simp
          rfl
      · have : Sg.nadd n 1 = n + 1 := by subst hS; rfl
        rw [← this]
        exact Like.refl _
      · rw [L_succ, onceL, if_neg (show ¬ x ∈ L n g from fun h => by obtain ⟨j, h1, h2⟩ := mem_L.1 h; exact hall j h1 h2)]
        congr 1
        · exact L_congr fun j hj => if_pos hj
        · simp

end Go.Proofs.Tryz.Run
