/- Weaker states, and loops by an invariant. Conditions: none. -/
import Derived.Test.YtpcokdalcafgdaaGreatMg
namespace Go.Vf
open Go

/-- Whatever o stands for, o' does. -/
structure LikeO (o o' : AObj) : Prop where
  frz : o'.frozen = false → o.frozen = false
  holds : ∀ (w : World) (S : Nat → Prop) (ρ : Rho) (ob : Option Nat) (C : Nat), Holds w S ρ ob C o → Holds w S ρ ob C o'

theorem LikeO.refl (o : AObj) : LikeO o o := ⟨id, fun _ _ _ _ _ h => h⟩

theorem Like.any (x : AV) : Like x .any := fun _ _ _ v _ => .any v

theorem Like.trans {x y z : AV} (h : Like x y) (k : Like y z) : Like x z := fun w S ρ v hv => k w S ρ v (h w S ρ v hv)

theorem LikeO.arr {sz n : Nat} {e e' : Nat → List DV} (h : ∀ i, i < n → e i = e' i) : LikeO (.arr sz n e) (.arr sz n e') := by
  refine ⟨id, fun w S ρ ob C hh => ?_⟩
  cases ob with
  | none =>
    obtain ⟨h1, sz', e1, h2 | h2⟩ := hh
    · cases h2; exact ⟨h1, sz, e', .inl rfl⟩
    · cases h2
  | some b =>
    obtain ⟨vs, ty, h1, h2, h3, h4⟩ := hh
    exact ⟨vs, ty, h1, h2, h3, fun i hi => by rw [← h i hi]; exact h4 i hi⟩

theorem LikeO.arr' {sz n m : Nat} {e e' : Nat → List DV} (hn : n = m) (h : ∀ i, i < n → e i = e' i) : LikeO (.arr sz n e) (.arr sz m e') := by
  subst hn; exact .arr h

theorem LikeO.frz' {sz n m : Nat} {e e' : Nat → List DV} (hn : n = m) (h : ∀ i, i < n → e i = e' i) : LikeO (.frz sz n e) (.frz sz m e') := by
  subst hn
  refine ⟨id, fun w S ρ ob C hh => ?_⟩
  cases ob with
  | none =>
    obtain ⟨h1, sz', e1, h2 | h2⟩ := hh
    · cases h2
    · cases h2; exact ⟨h1, sz, e', .inr rfl⟩
  | some b =>
    obtain ⟨h0, vs, ty, fr, h1, h2, h3, h4⟩ := hh
    exact ⟨h0, vs, ty, fr, h1, h2, h3, fun i hi => by rw [← h i hi]; exact h4 i hi⟩

theorem LikeO.var {cs ds : List AV} (h : Likes cs ds) : LikeO (.var cs) (.var ds) := by
  refine ⟨id, fun w S ρ ob C hh => ?_⟩
  obtain ⟨hl, hg⟩ := h.get
  cases ob with
  | none => obtain ⟨h1, sz', e1, h2 | h2⟩ := hh <;> cases h2
  | some b =>
    obtain ⟨vs, ty, h1, h2, h3⟩ := hh
    exact ⟨vs, ty, h1, by omega, Like.cells hl hg h3⟩

theorem MapR.congr {wide : Bool} {ks : List IntKind} {es : List MapEntry} {n : Nat} {f f' : List KC → Option Int} (h : MapR wide ks es n f) (e : ∀ k, f k = f' k) : MapR wide ks es n f' :=
  ⟨h.len, h.keys, h.vals, fun k => (h.find k).trans (e k), h.nd⟩

theorem LikeO.map {wide : Bool} {ks : List IntKind} {n m : Nat} {f f' : List KC → Option Int} (hn : n = m) (e : ∀ k, f k = f' k) : LikeO (.map wide ks n f) (.map wide ks m f') := by
  subst hn
  refine ⟨id, fun w S ρ ob C hh => ?_⟩
  cases ob with
  | none => obtain ⟨h1, sz', e1, h2 | h2⟩ := hh <;> cases h2
  | some b =>
    obtain ⟨es, clock, h1, h2⟩ := hh
    exact ⟨es, clock, h1, h2.congr e⟩

/-- The objects of the first list go on; those beyond the second are dropped. -/
inductive LikesO : List AObj → List AObj → Prop
  | nil (h : List AObj) : LikesO h []
  | cons {o o' : AObj} {h h' : List AObj} (e : LikeO o o') (r : LikesO h h') : LikesO (o :: h) (o' :: h')

theorem LikesO.get {h h' : List AObj} (r : LikesO h h') : h'.length ≤ h.length ∧ ∀ (i : Nat) (o o' : AObj), h[i]? = some o → h'[i]? = some o' → LikeO o o' := by
  induction r with
  | nil h => simp
  | cons e r ih =>
    refine ⟨by simp [ih.1], fun i o o' hx hy => ?_⟩
    cases i with
    | zero => simp at hx hy; subst hx; subst hy; exact e
    | succ i => simp at hx hy; exact ih.2 i o o' hx hy

mutual
/-- It names no object from number n on. -/
def AV.low (n : Nat) : AV → Bool
  | .agg cs => AV.lowL n cs
  | .tuple cs => AV.lowL n cs
  | .fn _ us cs => AV.lowL n us && AV.lowL n cs
  | .ptr m _ => Nat.blt m n
  | .aptr m _ _ _ => Nat.blt m n
  | .msl m _ _ _ _ => Nat.blt m n
  | .vsl m _ _ => Nat.blt m n
  | .map m => Nat.blt m n
  | .yl m => Nat.blt m n
  | _ => true
def AV.lowL (n : Nat) : List AV → Bool
  | [] => true
  | v :: r => v.low n && AV.lowL n r
end

def AObj.low (n : Nat) : AObj → Bool
  | .var cs => AV.lowL n cs
  | .loop _ ts _ _ => AV.lowL n ts
  | _ => true

def lowH (n : Nat) : List AObj → Bool
  | [] => true
  | o :: r => o.low n && lowH n r

theorem belowL_get {n : Nat} {l : List AV} (h : AV.lowL n l = true) {i : Nat} {x : AV} (hx : l[i]? = some x) : x.low n = true := by
  induction l generalizing i with
  | nil => simp at hx
  | cons y l ih =>
    simp only [AV.lowL, Bool.and_eq_true] at h
    cases i with
    | zero => simp at hx; subst hx; exact h.1
    | succ i => simp at hx; exact ih h.2 hx

theorem lowH_get {n : Nat} {l : List AObj} (h : lowH n l = true) {i : Nat} {x : AObj} (hx : l[i]? = some x) : x.low n = true := by
  induction l generalizing i with
  | nil => simp at hx
  | cons y l ih =>
    simp only [lowH, Bool.and_eq_true] at h
    cases i with
    | zero => simp at hx; subst hx; exact h.1
    | succ i => simp at hx; exact ih h.2 hx

def Rho.cut (ρ : Rho) (n : Nat) : Rho := fun l => if l < n then ρ l else none

theorem blt_lt {m n : Nat} (h : Nat.blt m n = true) : m < n := by simpa [Nat.blt_eq] using h

theorem Rho.cut_lt {ρ : Rho} {n m : Nat} (h : Nat.blt m n = true) : ρ.cut n m = ρ m := if_pos (blt_lt h)

theorem VR.cut {w : World} {S : Nat → Prop} {ρ : Rho} {n : Nat} {x : AV} {v : Value} (h : VR w S ρ x v) (hb : x.low n = true) : VR w S (ρ.cut n) x v := by
  induction h with
  | d h => exact .d h
  | any v => exact .any v
  | und => exact .und
  | agg cs vs hl _ ih => exact .agg cs vs hl fun i x v hx hv => ih i x v hx hv (belowL_get (by simpa only [AV.low] using hb) hx)
  | tuple cs vs hl _ ih => exact .tuple cs vs hl fun i x v hx hv => ih i x v hx hv (belowL_get (by simpa only [AV.low] using hb) hx)
  | ptr l off b C h => exact .ptr l off b C ((Rho.cut_lt (by simpa only [AV.low] using hb)).trans h)
  | aptr l sz i off b C h => exact .aptr l sz i off b C ((Rho.cut_lt (by simpa only [AV.low] using hb)).trans h)
  | dptr row off b base f hb' hv hr => exact .dptr row off b base f hb' hv hr
  | dfs sz n e a h => exact .dfs sz n e a h
  | msl l sz start len full ob C cap a h hc hcap ha => exact .msl l sz start len full ob C cap a ((Rho.cut_lt (by simpa only [AV.low] using hb)).trans h) hc hcap ha
  | vsl l off n b C cap h hc => exact .vsl l off n b C cap ((Rho.cut_lt (by simpa only [AV.low] using hb)).trans h) hc
  | map l b C h => exact .map l b C ((Rho.cut_lt (by simpa only [AV.low] using hb)).trans h)
  | fn f first cap us vs hl1 _ hl _ ih1 ih =>
    simp only [AV.low, Bool.and_eq_true] at hb
    exact .fn f first cap us vs hl1 (fun i x v hx hv => ih1 i x v hx hv (belowL_get hb.1 hx)) hl (fun i x v hx hv => ih i x v hx hv (belowL_get hb.2 hx))
  | ge m n h => exact .ge m n h
  | yl l b C h => exact .yl l b C ((Rho.cut_lt (by simpa only [AV.low] using hb)).trans h)

theorem HoldsB.cut {w : World} {S : Nat → Prop} {ρ : Rho} {n b C : Nat} {o : AObj} (h : HoldsB w S ρ b C o) (hb : o.low n = true) : HoldsB w S (ρ.cut n) b C o := by
  cases o with
  | var cs =>
    obtain ⟨vs, ty, h1, h2, h3⟩ := h
    exact ⟨vs, ty, h1, h2, fun i x v hx hv => (h3 i x v hx hv).cut (belowL_get (by simpa only [AObj.low] using hb) hx)⟩
  | arr sz n e => exact h
  | frz sz n e => exact h
  | map wide ks n f => exact h
  | loop s ts ps code =>
    obtain ⟨r, h1, h2, h3, h4, h5, h6, h7⟩ := h
    exact ⟨r, h1, h2, h3, h4, h5, h6, fun i x v hx hv => (h7 i x v hx hv).cut (belowL_get (by simpa only [AObj.low] using hb) hx)⟩

def subB : List Nat → List Nat → Bool
  | [], _ => true
  | l :: r, m => isIn l m && subB r m

theorem subB_mem : ∀ {l m : List Nat}, subB l m = true → ∀ i, i ∈ l → i ∈ m
  | [], _, _, i, h => by simp at h
  | j :: l, m, h, i, hi => by
    simp only [subB, Bool.and_eq_true] at h
    rcases List.mem_cons.1 hi with rfl | hi
    · exact isIn_mem.1 h.1
    · exact subB_mem h.2 i hi

/-- A state that says no more than another. -/
structure Le (base : Nat) (st st' : St) : Prop where
  ts : Likes st.ts st'.ts
  h : LikesO st.h st'.h
  len : base ≤ st'.h.length
  cut : (AV.lowL st'.h.length st'.ts = true ∧ lowH st'.h.length st'.h = true) ∨ st.h.length = st'.h.length
  mv : subB st.mv st'.mv = true

theorem Rel.le {E : Ent} {st st' : St} {a : Act} {w : World} {S : Nat → Prop} {ρ : Rho} (l : Le E.base st st') (r : Rel E st a w S ρ) : ∃ ρ', Rel E st' a w S ρ' := by
  obtain ⟨l1, l2⟩ := l.ts.get
  obtain ⟨l3, l4⟩ := l.h.get
  have ht : VRs w S ρ st'.ts a.tmps := ⟨by rw [← l1]; exact r.ts.1, Like.cells l1 l2 r.ts.2⟩
  have hobj : ∀ l ob C, l < st'.h.length → ρ l = some (ob, C) → ∃ o o', st.h[l]? = some o ∧ st'.h[l]? = some o' ∧ LikeO o o' ∧ Holds w S ρ ob C o' := fun m ob C hm hl => by
    obtain ⟨o, h1, h2⟩ := r.sim.obj m ob C hl
    have h3 : st'.h[m]? = some (st'.h[m]'hm) := List.getElem?_eq_getElem _
    have := l4 m o _ h1 h3
    exact ⟨o, _, h1, h3, this, this.holds _ _ _ _ _ h2⟩
  have hlt : ∀ l ob C, ρ l = some (ob, C) → l < st.h.length := fun m ob C hl => by
    obtain ⟨o, h1, _⟩ := r.sim.obj m ob C hl
    exact (List.getElem?_eq_some_iff.1 h1).1
  by_cases hn : st.h.length = st'.h.length
  · refine ⟨ρ, ⟨ht, r.ds, ⟨r.sim.sblk, fun m ob C hl => ?_, r.sim.inj, fun m b C o hl ho hf => ?_⟩, r.ext, fun m hm hmv => r.keep m hm fun h => hmv (subB_mem l.mv m h), l.len⟩⟩
    · obtain ⟨o, o', _, h2, _, h4⟩ := hobj m ob C (hn ▸ hlt m ob C hl) hl
      exact ⟨o', h2, h4⟩
    · obtain ⟨o1, o', h1, h2, h3, _⟩ := hobj m _ C (hn ▸ hlt m _ C hl) hl
      rw [ho] at h2; cases h2
      exact r.sim.own m b C o1 hl h1 (h3.frz hf)
  · obtain ⟨c1, c2⟩ := l.cut.resolve_right hn
    have hcut : ∀ m p, ρ.cut st'.h.length m = some p → m < st'.h.length ∧ ρ m = some p := fun m p hp => by
      unfold Rho.cut at hp
      split at hp
      · rename_i h; exact ⟨h, hp⟩
      · cases hp
    refine ⟨ρ.cut st'.h.length, ⟨⟨ht.1, fun i x v hx hv => (ht.2 i x v hx hv).cut (belowL_get c1 hx)⟩, ?_, ⟨r.sim.sblk, fun m ob C hl => ?_, fun m m' b C C' h1 h2 => r.sim.inj m m' b C C' (hcut _ _ h1).2 (hcut _ _ h2).2, fun m b C o hl ho hf => ?_⟩, ?_, fun m hm hmv => ?_, l.len⟩⟩
    · obtain ⟨Ds, d1, d2, d3⟩ := r.ds
      exact ⟨Ds, d1, fun D hD => ⟨(d2 D hD).obj, (d2 D hD).new, fun m C hl => (d2 D hD).out m C (hcut _ _ hl).2, (d2 D hD).imm⟩, d3⟩
    · obtain ⟨hm, hl⟩ := hcut _ _ hl
      obtain ⟨o, o', _, h2, _, h4⟩ := hobj m ob C hm hl
      refine ⟨o', h2, ?_⟩
      cases ob with
      | none => exact h4
      | some b => exact HoldsB.cut h4 (lowH_get c2 h2)
    · obtain ⟨hm, hl⟩ := hcut _ _ hl
      obtain ⟨o1, o', h1, h2, h3, _⟩ := hobj m _ C hm hl
      rw [ho] at h2; cases h2
      exact r.sim.own m b C o1 hl h1 (h3.frz hf)
    · exact ⟨r.ext.os, r.ext.tape, r.ext.output, r.ext.size, r.ext.mono, r.ext.cell, r.ext.news, r.ext.frame, fun m b C hl => r.ext.owned m b C (hcut _ _ hl).2⟩
    · have := l.len
      have e : ρ.cut st'.h.length m = ρ m := if_pos (by omega)
      rw [e]
      exact r.keep m hm fun h => hmv (subB_mem l.mv m h)

section
variable {P : Program} {A : Ann} {ro : Option Nat} {E : Ent} {Sg : Sig} {Q : Lv → St → Prop}

/-- How a round is left of a loop that has an invariant. -/
def loopQ {σ : Type} (base : Nat) (R : σ → Prop) (μ : σ → Nat) (st : σ → St) (Q : Lv → St → Prop) (s : σ) : Lv → St → Prop
  | .normal, st' => ∃ s', R s' ∧ μ s' < μ s ∧ Le base st' (st s')
  | .exit i, st' => Q (.exit i) st'
  | .ret, st' => Q .ret st'

theorem loop_inv (hm : P.follows .mixedOrders = true) (hok : OkP P) (hS : Sg = std P A ro E) {σ : Type} (R : σ → Prop) (μ : σ → Nat) (st : σ → St) {ic : ICode} {st0 : St} (s : σ) (hs : R s) (h0 : Le E.base st0 (st s))
    (h : ∀ s, R s → ev Sg ic (loopQ E.base R μ st Q s) (st s)) : Sg.loop ic Q st0 := by
  subst hS
  intro c hc a w S ρ hr
  obtain ⟨ρ1, hr1⟩ := hr.le h0
  clear hr h0
  refine wpIn_loop_rounds (μ s + 1) ?_
  have hk : μ s < μ s + 1 := Nat.lt_succ_self _
  generalize μ s + 1 = m at hk ⊢
  induction m generalizing s a w S ρ1 with
  | zero => omega
  | succ m ih =>
    refine wpIn_mono (ev_sound hm hok c ic hc (h s hs) a w S ρ1 hr1) fun e a' w' hp => ?_
    obtain ⟨lv, st', S', ρ', h1, h2, h3⟩ := hp
    cases lv with
    | normal =>
      cases e <;> simp [lvOf] at h1
      obtain ⟨s', g1, g2, g3⟩ := h2
      obtain ⟨ρ', h3⟩ := h3.le g3
      exact ih s' g1 a' w' S' ρ' h3 (by omega)
    | exit i => cases e <;> simp [lvOf] at h1; subst h1; exact ⟨_, st', S', ρ', rfl, h2, h3⟩
    | ret => cases e <;> simp [lvOf] at h1; exact ⟨_, st', S', ρ', rfl, h2, h3⟩

end
end Go.Vf
