/- The rules of an open proof: entries, requests, calls, loops, weaker states by live temporaries. Conditions: none. -/
import Derived.Test.YtpcokdalcafgdaaGreatLa
import Derived.Test.YtpcokdalcafgdaaGreatMn
namespace Go.Vf
open Go

/-- Temporaries of which only some are known. -/
def mkTs : List (Nat × AV) → Nat → List AV
  | [], n => lrep .any n
  | (i, v) :: l, n => lset (mkTs l n) i v

/-- The known ones are as they should be. -/
def allLike (ts : List AV) : List (Nat × AV) → Prop
  | [] => True
  | (i, v) :: l => (match lget ts i with | some x => Like x v | none => False) ∧ allLike ts l

theorem Likes.of_get : ∀ {xs ys : List AV}, xs.length = ys.length → (∀ (i : Nat) (x y : AV), xs[i]? = some x → ys[i]? = some y → Like x y) → Likes xs ys
  | [], [], _, _ => .nil
  | x :: xs, y :: ys, hl, h => .cons (h 0 x y rfl rfl) (Likes.of_get (by simpa using hl) fun i a b ha hb => h (i + 1) a b (by simpa using ha) (by simpa using hb))
  | [], _ :: _, hl, _ => by simp at hl
  | _ :: _, [], hl, _ => by simp at hl

theorem mkTs_length (l : List (Nat × AV)) (n : Nat) : (mkTs l n).length = n := by
  induction l with
  | nil => simp [mkTs, lrep_eq]
  | cons p l ih => obtain ⟨i, v⟩ := p; simp [mkTs, lset_eq, ih]

theorem likes_mk {ts : List AV} {l : List (Nat × AV)} {n : Nat} (hn : llen ts = n) (h : allLike ts l) : Likes ts (mkTs l n) := by
  rw [llen_eq] at hn
  refine Likes.of_get (by rw [mkTs_length, hn]) ?_
  induction l with
  | nil =>
    intro i x y hx hy
    rw [mkTs, lrep_eq, List.getElem?_replicate] at hy
    split at hy
    · cases hy; exact Like.any x
    · cases hy
  | cons p l ih =>
    obtain ⟨k, v⟩ := p
    obtain ⟨h1, h2⟩ := h
    intro i x y hx hy
    rw [mkTs, lset_eq] at hy
    by_cases e : i = k
    · subst e
      rw [lget_eq, hx] at h1
      rw [List.getElem?_set] at hy
      simp at hy
      rw [← hy.2]
      exact h1
    · rw [List.getElem?_set_ne (Ne.symm e)] at hy
      exact ih h2 i x y hx hy

theorem le_mk {base : Nat} {ts : List AV} {h h' : List AObj} {mv mv' : List Nat} {l : List (Nat × AV)} {n : Nat} (hn : llen ts = n) (hl : allLike ts l) (hh : LikesO h h') (hb : base ≤ h'.length)
    (hc : (AV.lowL h'.length (mkTs l n) = true ∧ lowH h'.length h' = true) ∨ h.length = h'.length) (hv : subB mv mv' = true) : Le base ⟨ts, h, mv⟩ ⟨mkTs l n, h', mv'⟩ :=
  ⟨likes_mk hn hl, hh, hb, hc, hv⟩

section
variable {P : Program} {A : Ann} {ro : Option Nat} {E : Ent} {Sg : Sig} {Q : Lv → St → Prop}

theorem req_i (hS : Sg = std P A ro E) {p q : Prop} (hp : p) (hq : q) : Sg.req p q := by subst hS; exact ⟨hp, hq⟩

theorem callb_i (hS : Sg = std P A ro E) {own : Bool} {f : FuncId} {args : List AV} {K : AV → Prop} (r : AV) (h : PureF P own f args r) (hk : K r) : Sg.callb own f args K := by
  subst hS; exact ⟨r, h, hk⟩

theorem calln_i (hS : Sg = std P A ro E) {f : FuncId} {args : List AV} {K : AV → List AObj → Prop} (h : NewF P f args K) : Sg.calln f args K := by
  subst hS; exact h

theorem call_i (hS : Sg = std P A ro E) {f : FuncId} {args : List AV} {h : List AObj} {K : List Nat → AV → List AObj → Prop} (hc : ACall P f args h K) : Sg.call f args h K := by
  subst hS; exact hc

/-- How a round is left: N of what goes on. -/
def roundQ (N : St → Prop) (Q : Lv → St → Prop) : Lv → St → Prop
  | .normal, st => N st
  | .exit i, st => Q (.exit i) st
  | .ret, st => Q .ret st


theorem loop_i (hm : P.follows .mixedOrders = true) (hok : OkP P) (hS : Sg = std P A ro E) {σ : Type} (R : σ → Prop) (μ : σ → Nat) (st : σ → St) {ic : ICode} {st0 : St} (s : σ) (hs : R s) (h0 : Le E.base st0 (st s))
    (h : ∀ s, R s → ∀ N : St → Prop, (∀ s' st', R s' → μ s' < μ s → Le E.base st' (st s') → N st') → ev Sg ic (roundQ N Q) (st s)) : Sg.loop ic Q st0 := by
  refine loop_inv hm hok hS R μ st s hs h0 fun s hs => ?_
  have := h s hs (fun st' => ∃ s', R s' ∧ μ s' < μ s ∧ Le E.base st' (st s')) fun s' st' h1 h2 h3 => ⟨s', h1, h2, h3⟩
  have e : roundQ (fun st' => ∃ s', R s' ∧ μ s' < μ s ∧ Le E.base st' (st s')) Q = loopQ E.base R μ st Q s := by
    funext lv st'
    cases lv <;> rfl
  rw [e] at this
  exact this

end

section
variable {P : Program} {f : FuncId} {x : XFn} {args : List AV}

/-- A contract of a function that reads data and hands back data. -/
theorem pureF_of_fn (hm : P.follows .mixedOrders = true) (hok : OkP P) (hx : FnOk P f x) (r : AV) (hn : Nat.ble args.length x.n = true)
    (h : ∀ (E : Ent) (Sg : Sig), E.base = 0 → Sg = std P x.A none E → ev Sg x.ic (pureQ Sg x.irs r) ⟨initT args (x.n - args.length), [], []⟩) : PureF P false f args r := by
  obtain ⟨fn, c, hf, hb, hname, hc, hres, hnt⟩ := hx
  have hle : args.length ≤ x.n := by simpa using hn
  exact pureF_of_ev (n := x.n - args.length) hm hok hf hb hname x.A hc hres (by rw [hnt]; omega) h

theorem acall_of_fn (hm : P.follows .mixedOrders = true) (hok : OkP P) (hx : FnOk P f x) {h0 : List AObj} {K : List Nat → AV → List AObj → Prop} (hn : Nat.ble args.length x.n = true)
    (h : ∀ (E : Ent) (Sg : Sig), E.base = h0.length → Sg = std P x.A none E → ev Sg x.ic (callQ Sg x.irs h0.length K) ⟨initT args (x.n - args.length), h0, []⟩) : ACall P f args h0 K := by
  obtain ⟨fn, c, hf, hb, hname, hc, hres, hnt⟩ := hx
  have hle : args.length ≤ x.n := by simpa using hn
  exact acall_of_ev (n := x.n - args.length) hm hok hf hb hname x.A hc hres (by rw [hnt]; omega) h

theorem pure_flat {r : DV} (hf : flatD (.d r)) (h : PureF P false f args (.d r)) : PureF P true f args (.d r) := by
  have := pure_own (xs := [.d r]) (fun x hx => by simp at hx; subst hx; exact hf) h
  exact this

theorem pure_bool {b : Bool} (h : PureF P false f args (.d (.bool b))) : PureF P true f args (.d (.bool b)) := pure_flat (by trivial) h
theorem pure_int {k : IntKind} {n : IX} (h : PureF P false f args (.d (.int k n))) : PureF P true f args (.d (.int k n)) := pure_flat (by trivial) h

end
end Go.Vf
