/- Copies of a core; the errors of ByUse; OrderUses answers true. Conditions: none. -/
import Derived.Test.YtpcokdalcafgdaaGreatPk
import Derived.Test.YtpcokdalcafgdaaGreatPa
import Derived.Test.YtpcokdalcafgdaaGreatNe
set_option linter.unusedSimpArgs false
set_option linter.unusedVariables false
namespace Go.Proofs.Tryz.Run
open Go Go.Vf Go.Proofs
open Go.Proofs.YtpcokdalcafgdaaGreat

theorem byUse30e (c : CoR) (hbig : c.nc ≤ 1000000 ∧ c.no ≤ 1000000 ∧ c.nr ≤ 1000000) (e : Int) (he : coErr c = e) (hne : e ≠ 0) : PureF Tryz.prog false 30 [c.av] (.tuple [isl 0 fun _ => 0, int e]) := by
  have hck := check69 c e he hbig
  obtain ⟨nc, ch, no, op, nr, rt⟩ := c
  refine pureF_of_fn Tryz.mixed okP ok30 _ rfl fun E Sg hb hS => ?_
  generalize hmg : isl 0 (fun _ => 0) = res
  cbv
  refine req_i hS (by subst hS; simp [std]) ?_
  refine callb_i hS _ hck ?_
  cbv
  split
  · cbv
    subst hmg
    exact Likes.tuple (.cons Like.nil0 (.cons (Like.refl _) .nil))
  · rename_i h; exfalso; subst hS; simp [std] at h; exact hne h

theorem ints41' {n : Nat} (hn : n ≤ 1000000) (g : Nat → Int) (res : AV) (hres : res = isl n g) : PureF Tryz.prog false 41 [isl n g] res := by
  refine pureF_of_fn Tryz.mixed okP ok41 _ rfl fun E Sg hb hS => ?_
  cases n with
  | zero =>
    cbv
    subst hres
    exact Like.nil0
  | succ n =>
    cbv
    repeat' ((first | (with_reducible apply req_i hS)) <;> cbv)
    all_goals try (subst hS; simp [std, nat, IX.val, big] at * <;> omega)
    subst hres
    exact Like.refl _

theorem ints41 {n : Nat} (hn : n ≤ 1000000) (g : Nat → Int) : PureF Tryz.prog false 41 [isl n g] (isl n g) := ints41' hn g _ rfl

set_option maxHeartbeats 4000000 in
theorem copy31' (c : CoR) (hbig : c.nc ≤ 1000000 ∧ c.no ≤ 1000000 ∧ c.nr ≤ 1000000) (res : AV) (hres : res = c.av) : PureF Tryz.prog false 31 [c.av] res := by
  have hi := ints41 hbig.2.2 c.rt
  obtain ⟨nc, ch, no, op, nr, rt⟩ := c
  simp only at hbig
  refine pureF_of_fn Tryz.mixed okP ok31 _ rfl fun E Sg hb hS => ?_
  cases nc <;> cases no
  all_goals
    cbv
    repeat' ((first | (with_reducible apply req_i hS) | (refine callb_i hS _ hi ?_)) <;> cbv)
  all_goals try (subst hS; simp [std, nat, IX.val, big] at * <;> omega)
  all_goals
    subst hres
    first
      | exact Likes.agg (.cons (Like.refl _) (.cons (Like.refl _) (.cons (Like.refl _) .nil)))
      | exact Likes.agg (.cons Like.nil0 (.cons (Like.refl _) (.cons (Like.refl _) .nil)))
      | exact Likes.agg (.cons (Like.refl _) (.cons Like.nil0 (.cons (Like.refl _) .nil)))
      | exact Likes.agg (.cons Like.nil0 (.cons Like.nil0 (.cons (Like.refl _) .nil)))

theorem copy31 (c : CoR) (hbig : c.nc ≤ 1000000 ∧ c.no ≤ 1000000 ∧ c.nr ≤ 1000000) : PureF Tryz.prog false 31 [c.av] c.av := copy31' c hbig _ rfl

end Go.Proofs.Tryz.Run
