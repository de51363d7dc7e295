/- OrderCosts answers true. Conditions: none. -/
import Derived.Test.YtpcokdalcafgdaaGreatZUi
import Derived.Test.YtpcokdalcafgdaaGreatZNe
set_option linter.unusedSimpArgs false
set_option linter.unusedVariables false
namespace Go.Proofs.Tryz.Run
open Go Go.Vf Go.Proofs
open Go.Proofs.YtpcokdalcafgdaaGreat
theorem famErr_ex (n:Nat)(l:Nat→DiR): ∃r,famErr n l r:=by
 rcases Nat.eq_zero_or_pos n with h|h
 ·exact⟨7,.inl ⟨h,rfl⟩⟩
 ·obtain⟨r,hr⟩:=famOk_ex n (fun i=>diErr (l i)) (fun i=>sameFr (l 0) (l i))
  exact⟨r,.inr ⟨h,hr⟩⟩
end Go.Proofs.Tryz.Run
