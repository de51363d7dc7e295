/- Calls that leave the objects as they were; objects that a call makes and drops. Conditions: none. -/
import Derived.Test.YtpcokdalcafgdaaGreatLd
namespace Go.Vf
open Go

theorem LikesO.same : ∀ (h : List AObj), LikesO h h
  | [] => .nil _
  | o :: h => .cons (.refl o) (LikesO.same h)

/-- It hands back r, and leaves all objects as they were. -/
def ro (h : List AObj) (r : AV) (pg : List Nat) (v : AV) (h' : List AObj) : Prop := pg = [] ∧ v = r ∧ h' = h

section
variable {P : Program} {f : FuncId} {args : List AV} {h : List AObj}

theorem ACall.of_pure {own : Bool} {r : AV} (hf : frees args = true) (hp : PureF P own f args r) : ACall P f args h (ro h r) := by
  refine ⟨hp.1, fun w S ρ vs hs hv => ?_⟩
  have hv0 : VRs w S noRho args vs := ⟨hv.1, fun i x v hx hu => frees_r (vs := vs.toList) hf (fun i x v hx hu => hv.2 i x v hx (by simpa using hu)) i x v hx (by simpa using hu)⟩
  refine (hp.2 w S vs hs.sblk hv0).mono fun e w' he => ?_
  obtain ⟨v, S', h1, h2, h3, h4⟩ := he
  have c := pure_chg (S1 := S') hs (fun b hb => by
    rcases h3 b hb with h | h
    · exact .inl h.2
    · exact .inr h) h4
  exact ⟨v, r, [], h, _, ρ, h1, ⟨rfl, rfl, rfl⟩, h2.mono (fun b hb => .inr hb) (fun _ _ => rfl) (fun l p hl => by cases hl), c.sim, c.ext, Nat.le_refl _, fun l _ _ => rfl⟩

/-- Objects that the call made, and that nothing names, are dropped. -/
theorem ACall.cut {K : List Nat → AV → List AObj → Prop} (hc : ACall P f args h (fun pg v h' => ∃ h0 v0, LikesO h' h0 ∧ Like v v0 ∧ h.length ≤ h0.length ∧ ((v0.low h0.length = true ∧ lowH h0.length h0 = true) ∨ h'.length = h0.length) ∧ K pg v0 h0)) : ACall P f args h K := by
  refine ⟨hc.1, fun w S ρ vs hs hv => (hc.2 w S ρ vs hs hv).mono fun e w' he => ?_⟩
  obtain ⟨v, x, pg, h', S', ρ', h1, ⟨h0, v0, k1, k2, k3, k45, k6⟩, h2, h3, h4, h5, h6⟩ := he
  obtain ⟨l3, l4⟩ := k1.get
  have hcut : ∀ m p, ρ'.cut h0.length m = some p → m < h0.length ∧ ρ' m = some p := fun m p hp => by
    unfold Rho.cut at hp
    split at hp
    · rename_i h; exact ⟨h, hp⟩
    · cases hp
  by_cases hn : h'.length = h0.length
  · refine ⟨v, v0, pg, h0, S', ρ', h1, k6, k2 _ _ _ _ h2, ⟨h3.sblk, fun m ob C hl => ?_, h3.inj, fun m b C o hl ho hf => ?_⟩, h4, k3, h6⟩
    · obtain ⟨o, q1, q2⟩ := h3.obj m ob C hl
      have hm := (List.getElem?_eq_some_iff.1 q1).1
      have q3 : h0[m]? = some (h0[m]'(by omega)) := List.getElem?_eq_getElem _
      exact ⟨_, q3, (l4 m o _ q1 q3).holds _ _ _ _ _ q2⟩
    · obtain ⟨o1, q1, q2⟩ := h3.obj m _ C hl
      exact h3.own m b C o1 hl q1 ((l4 m o1 o q1 ho).frz hf)
  obtain ⟨k4, k5⟩ := k45.resolve_right hn
  refine ⟨v, v0, pg, h0, S', ρ'.cut h0.length, h1, k6, (k2 _ _ _ _ h2).cut k4, ⟨h3.sblk, fun m ob C hl => ?_, fun m m' b C C' q1 q2 => h3.inj m m' b C C' (hcut _ _ q1).2 (hcut _ _ q2).2, fun m b C o hl ho hf => ?_⟩, ?_, k3, fun m hm hmv => ?_⟩
  · obtain ⟨hm, hl⟩ := hcut _ _ hl
    obtain ⟨o, q1, q2⟩ := h3.obj m ob C hl
    have q3 : h0[m]? = some (h0[m]'hm) := List.getElem?_eq_getElem _
    refine ⟨_, q3, ?_⟩
    have q4 := (l4 m o _ q1 q3).holds _ _ _ _ _ q2
    cases ob with
    | none => exact q4
    | some b => exact HoldsB.cut q4 (lowH_get k5 q3)
  · obtain ⟨hm, hl⟩ := hcut _ _ hl
    obtain ⟨o1, q1, q2⟩ := h3.obj m _ C hl
    exact h3.own m b C o1 hl q1 ((l4 m o1 o q1 ho).frz hf)
  · exact ⟨h4.os, h4.tape, h4.output, h4.size, h4.mono, h4.cell, h4.news, h4.frame, fun m b C hl => h4.owned m b C (hcut _ _ hl).2⟩
  · have e : ρ'.cut h0.length m = ρ' m := if_pos (by omega)
    rw [e]
    exact h6 m hm hmv

theorem VRs.like {w : World} {S : Nat → Prop} {ρ : Rho} {xs ys : List AV} {vs : Array Value} (h : Likes xs ys) (hv : VRs w S ρ xs vs) : VRs w S ρ ys vs :=
  ⟨by rw [← h.get.1]; exact hv.1, Like.cells h.get.1 h.get.2 hv.2⟩

theorem PureF.like {own : Bool} {args' : List AV} {r : AV} (h : Likes args' args) (hp : PureF P own f args r) : PureF P own f args' r :=
  ⟨hp.1, fun w S vs hS hv => hp.2 w S vs hS (hv.like h)⟩

theorem ACall.like {args' : List AV} {K : List Nat → AV → List AObj → Prop} (hl : Likes args' args) (hp : ACall P f args h K) : ACall P f args' h K :=
  ⟨hp.1, fun w S ρ vs hs hv => hp.2 w S ρ vs hs (hv.like hl)⟩

theorem Likes.same : ∀ (xs : List AV), Likes xs xs
  | [] => .nil
  | x :: xs => .cons (Like.refl x) (Likes.same xs)

/-- How a function ends that leaves all objects as they were. -/
def roK (h0 : List AObj) (r : AV) (pg : List Nat) (v : AV) (h' : List AObj) : Prop :=
  ∃ h1 v0, LikesO h' h1 ∧ Like v v0 ∧ h0.length ≤ h1.length ∧ ((v0.low h1.length = true ∧ lowH h1.length h1 = true) ∨ h'.length = h1.length) ∧ ro h0 r pg v0 h1

theorem ro_leaf {base : Nat} {h' : List AObj} {v r : AV} (hv : Like v r) (hl : LikesO h' h) (hc : (r.low h.length = true ∧ lowH h.length h = true) ∨ h'.length = h.length) :
    ∃ pg, (∀ l, l < base → l ∈ ([] : List Nat) → l ∈ pg) ∧ roK h r pg v h' :=
  ⟨[], by simp, h, r, hl, hv, Nat.le_refl _, hc, rfl, rfl, rfl⟩

theorem acall_ro {x : XFn} (hm : P.follows .mixedOrders = true) (hok : OkP P) (hx : FnOk P f x) (r : AV) (hn : Nat.ble args.length x.n = true)
    (hv : ∀ (E : Ent) (Sg : Sig), E.base = h.length → Sg = std P x.A none E → ev Sg x.ic (callQ Sg x.irs h.length (roK h r)) ⟨initT args (x.n - args.length), h, []⟩) : ACall P f args h (ro h r) :=
  ACall.cut (acall_of_fn hm hok hx hn hv)

/-- A contract of a function that may do whatever; F is what its end must show. -/
theorem acall_c {x : XFn} {K : List Nat → AV → List AObj → Prop} (hm : P.follows .mixedOrders = true) (hok : OkP P) (hx : FnOk P f x) (hn : Nat.ble args.length x.n = true)
    (hv : ∀ (E : Ent) (Sg : Sig), E.base = h.length → Sg = std P x.A none E → ∀ F : List Nat → AV → List AObj → Prop,
      (∀ {pg : List Nat} {v v0 : AV} {h' h1 : List AObj}, LikesO h' h1 → Like v v0 → h.length ≤ h1.length → ((v0.low h1.length = true ∧ lowH h1.length h1 = true) ∨ h'.length = h1.length) → K pg v0 h1 → F pg v h') →
      ev Sg x.ic (callQ Sg x.irs h.length F) ⟨initT args (x.n - args.length), h, []⟩) : ACall P f args h K := by
  refine ACall.cut (acall_of_fn hm hok hx hn fun E Sg hb hS => hv E Sg hb hS _ ?_)
  intro pg v v0 h' h1 k1 k2 k3 k4 k5
  exact ⟨h1, v0, k1, k2, k3, k4, k5⟩

theorem call_c {A : Ann} {rr : Option Nat} {E : Ent} {Sg : Sig} (hS : Sg = std P A rr E) {K K' : List Nat → AV → List AObj → Prop} (hc : ACall P f args h K) (hk : ∀ pg v h', K pg v h' → K' pg v h') : Sg.call f args h K' := by
  subst hS
  exact ACall.mono hk hc

theorem call_ro {A : Ann} {rr : Option Nat} {E : Ent} {Sg : Sig} (hS : Sg = std P A rr E) {r : AV} {K : List Nat → AV → List AObj → Prop} (hc : ACall P f args h (ro h r)) (hk : K [] r h) : Sg.call f args h K := by
  subst hS
  refine ACall.mono (fun pg v h' e => ?_) hc
  obtain ⟨rfl, rfl, rfl⟩ := e
  exact hk

end
end Go.Vf
