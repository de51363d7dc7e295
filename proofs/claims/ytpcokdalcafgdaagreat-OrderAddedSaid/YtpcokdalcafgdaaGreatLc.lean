/- A call that meets a part of the memory. Conditions: none. -/
import Derived.Test.YtpcokdalcafgdaaGreatLb
namespace Go.Vf
open Go

mutual
/-- The objects renamed. -/
def AV.ren (π : Nat → Nat) : AV → AV
  | .agg cs => .agg (AV.renL π cs)
  | .tuple cs => .tuple (AV.renL π cs)
  | .fn f us cs => .fn f (AV.renL π us) (AV.renL π cs)
  | .ptr m off => .ptr (π m) off
  | .aptr m sz i off => .aptr (π m) sz i off
  | .msl m sz s n f => .msl (π m) sz s n f
  | .vsl m off n => .vsl (π m) off n
  | .map m => .map (π m)
  | .yl m => .yl (π m)
  | v => v
def AV.renL (π : Nat → Nat) : List AV → List AV
  | [] => []
  | v :: r => v.ren π :: AV.renL π r
end

def AObj.ren (π : Nat → Nat) : AObj → AObj
  | .var cs => .var (AV.renL π cs)
  | .loop s ts ps code => .loop s (AV.renL π ts) ps code
  | o => o

def renH (π : Nat → Nat) : List AObj → List AObj
  | [] => []
  | o :: r => o.ren π :: renH π r

theorem AV.renL_eq (π : Nat → Nat) (l : List AV) : AV.renL π l = l.map (AV.ren π) := by
  induction l with
  | nil => rfl
  | cons x l ih => simp [AV.renL, ih]

theorem renH_eq (π : Nat → Nat) (l : List AObj) : renH π l = l.map (AObj.ren π) := by
  induction l with
  | nil => rfl
  | cons x l ih => simp [renH, ih]

theorem ren_frozen (π : Nat → Nat) (o : AObj) : (o.ren π).frozen = o.frozen := by cases o <;> rfl

section
variable {w : World} {S : Nat → Prop} {ρ ρ' : Rho} {π : Nat → Nat}

theorem VR.ren (hρ : ∀ i p, ρ i = some p → ρ' (π i) = some p) {x : AV} {v : Value} (hv : VR w S ρ x v) : VR w S ρ' (x.ren π) v := by
  have key : ∀ {cs : List AV} {vs : Array Value}, (∀ (i : Nat) (x : AV) (v : Value), cs[i]? = some x → vs[i]? = some v → VR w S ρ' (x.ren π) v) →
      ∀ (i : Nat) (x : AV) (v : Value), (AV.renL π cs)[i]? = some x → vs[i]? = some v → VR w S ρ' x v := by
    intro cs vs ih i x v hx hv
    rw [AV.renL_eq, List.getElem?_map] at hx
    cases hc : cs[i]? with
    | none => simp [hc] at hx
    | some y => simp [hc] at hx; subst hx; exact ih i y v hc hv
  induction hv with
  | d h => exact .d h
  | any v => exact .any v
  | und => exact .und
  | agg cs vs hl _ ih => exact .agg _ vs (by simpa [AV.renL_eq] using hl) (key ih)
  | tuple cs vs hl _ ih => exact .tuple _ vs (by simpa [AV.renL_eq] using hl) (key ih)
  | ptr l off b C h => exact .ptr _ off b C (hρ _ _ h)
  | aptr l sz i off b C h => exact .aptr _ sz i off b C (hρ _ _ h)
  | dptr row off b base f hb hv hr => exact .dptr row off b base f hb hv hr
  | dfs sz n e a h => exact .dfs sz n e a h
  | msl l sz start len full ob C cap a h hc hcap ha => exact .msl _ sz start len full ob C cap a (hρ _ _ h) hc hcap ha
  | vsl l off n b C cap h hc => exact .vsl _ off n b C cap (hρ _ _ h) hc
  | map l b C h => exact .map _ b C (hρ _ _ h)
  | fn f first cap us vs hl1 _ hl _ ih1 ih => exact .fn f _ _ us vs (by simpa [AV.renL_eq] using hl1) (key ih1) (by simpa [AV.renL_eq] using hl) (key ih)
  | ge m n h => exact .ge m n h
  | yl l b C h => exact .yl _ b C (hρ _ _ h)

theorem VR.unren {y : AV} {v : Value} (hv : VR w S ρ y v) : ∀ {x : AV}, y = x.ren π → VR w S (fun i => ρ (π i)) x v := by
  have key : ∀ {cs ds : List AV} {vs : Array Value}, cs = AV.renL π ds → (∀ (i : Nat) (y : AV) (v : Value), cs[i]? = some y → vs[i]? = some v → ∀ {x : AV}, y = x.ren π → VR w S (fun i => ρ (π i)) x v) →
      ∀ (i : Nat) (x : AV) (v : Value), ds[i]? = some x → vs[i]? = some v → VR w S (fun i => ρ (π i)) x v := by
    intro cs ds vs he ih i x v hx hv
    refine ih i (x.ren π) v ?_ hv rfl
    rw [he, AV.renL_eq, List.getElem?_map, hx]; rfl
  have len : ∀ {cs ds : List AV} {n : Nat}, cs = AV.renL π ds → cs.length = n → ds.length = n := by
    intro cs ds n he hl
    rw [he, AV.renL_eq] at hl
    simpa using hl
  induction hv with
  | d h => intro x hx; cases x <;> simp only [AV.ren] at hx <;> (try cases hx); exact .d h
  | any v => intro x hx; cases x <;> simp only [AV.ren] at hx <;> (try cases hx); exact .any v
  | und => intro x hx; cases x <;> simp only [AV.ren] at hx <;> (try cases hx); exact .und
  | agg cs vs hl _ ih => intro x hx; cases x <;> simp only [AV.ren, AV.agg.injEq] at hx <;> (try cases hx); exact .agg _ vs (len rfl hl) (key rfl ih)
  | tuple cs vs hl _ ih => intro x hx; cases x <;> simp only [AV.ren, AV.tuple.injEq] at hx <;> (try cases hx); exact .tuple _ vs (len rfl hl) (key rfl ih)
  | ptr l off b C h => intro x hx; cases x <;> simp only [AV.ren] at hx <;> (try cases hx); exact .ptr _ off b C h
  | aptr l sz i off b C h => intro x hx; cases x <;> simp only [AV.ren] at hx <;> (try cases hx); exact .aptr _ sz i off b C h
  | dptr row off b base f hb hv hr => intro x hx; cases x <;> simp only [AV.ren] at hx <;> (try cases hx); exact .dptr row off b base f hb hv hr
  | dfs sz n e a h => intro x hx; cases x <;> simp only [AV.ren] at hx <;> (try cases hx); exact .dfs sz n e a h
  | msl l sz start len full ob C cap a h hc hcap ha => intro x hx; cases x <;> simp only [AV.ren] at hx <;> (try cases hx); exact .msl _ sz start len full ob C cap a h hc hcap ha
  | vsl l off n b C cap h hc => intro x hx; cases x <;> simp only [AV.ren] at hx <;> (try cases hx); exact .vsl _ off n b C cap h hc
  | map l b C h => intro x hx; cases x <;> simp only [AV.ren] at hx <;> (try cases hx); exact .map _ b C h
  | fn f first cap us vs hl1 _ hl _ ih1 ih =>
    intro x hx
    cases x <;> simp only [AV.ren, AV.fn.injEq] at hx <;> (try cases hx; done)
    obtain ⟨rfl, hx1, hx2⟩ := hx
    exact .fn _ _ _ us vs (len hx1 hl1) (key hx1 ih1) (len hx2 hl) (key hx2 ih)
  | ge m n h => intro x hx; cases x <;> simp only [AV.ren] at hx <;> (try cases hx); exact .ge m n h
  | yl l b C h => intro x hx; cases x <;> simp only [AV.ren] at hx <;> (try cases hx); exact .yl _ b C h

theorem HoldsB.ren (hρ : ∀ i p, ρ i = some p → ρ' (π i) = some p) {b C : Nat} {oo : AObj} (hv : HoldsB w S ρ b C oo) : HoldsB w S ρ' b C (oo.ren π) := by
  cases oo with
  | var cs =>
    obtain ⟨vs, ty, h1, h2, h3⟩ := hv
    refine ⟨vs, ty, h1, by simpa [AV.renL_eq] using h2, fun i x v hx hv => ?_⟩
    rw [AV.renL_eq, List.getElem?_map] at hx
    cases hc : cs[i]? with
    | none => simp [hc] at hx
    | some y => simp [hc] at hx; subst hx; exact (h3 i y v hc hv).ren hρ
  | arr sz n e => exact hv
  | frz sz n e => exact hv
  | map wide ks n f => exact hv
  | loop s ts ps code =>
    obtain ⟨r, h1, h2, h3, h4, h5, h6, h7⟩ := hv
    refine ⟨r, h1, h2, h3, h4, h5, by simpa [AV.renL_eq] using h6, fun i x v hx hv => ?_⟩
    rw [AV.renL_eq, List.getElem?_map] at hx
    cases hc : ts[i]? with
    | none => simp [hc] at hx
    | some y => simp [hc] at hx; subst hx; exact (h7 i y v hc hv).ren hρ

theorem HoldsB.unren {b C : Nat} {oo : AObj} (hv : HoldsB w S ρ b C (oo.ren π)) : HoldsB w S (fun i => ρ (π i)) b C oo := by
  cases oo with
  | var cs =>
    obtain ⟨vs, ty, h1, h2, h3⟩ := hv
    refine ⟨vs, ty, h1, by simpa [AV.renL_eq] using h2, fun i x v hx hv => ?_⟩
    exact (h3 i (x.ren π) v (by rw [AV.renL_eq, List.getElem?_map, hx]; rfl) hv).unren rfl
  | arr sz n e => exact hv
  | frz sz n e => exact hv
  | map wide ks n f => exact hv
  | loop s ts ps code =>
    obtain ⟨r, h1, h2, h3, h4, h5, h6, h7⟩ := hv
    refine ⟨r, h1, h2, h3, h4, h5, by simpa [AV.renL_eq] using h6, fun i x v hx hv => ?_⟩
    exact (h7 i (x.ren π) v (by rw [AV.renL_eq, List.getElem?_map, hx]; rfl) hv).unren rfl

def forgetsO : List Nat → AObj → AObj
  | [], o => o
  | l :: pg, o => forgetsO pg (o.forget l false)

theorem forgetsH_get (pg : List Nat) : ∀ (h : List AObj) (m : Nat), (forgetsH pg h)[m]? = (h[m]?).map (forgetsO pg) := by
  induction pg with
  | nil => intro h m; simp [forgetsH, forgetsO]
  | cons l pg ih =>
    intro h m
    rw [forgetsH, ih, forgetH_get, Option.map_map]
    rfl

theorem forgetsO_frozen (pg : List Nat) : ∀ (o : AObj), (forgetsO pg o).frozen = o.frozen := by
  induction pg with
  | nil => intro o; rfl
  | cons l pg ih => intro o; rw [forgetsO, ih, AObj.forget_frozen]

theorem HoldsB.forgets {w' : World} {S' : Nat → Prop} (hS : ∀ b, S b → S' b) (hw : ∀ b, S b → w'.heap[b]? = w.heap[b]?) {b C : Nat} (hb : w'.heap[b]? = w.heap[b]?) (pg : List Nat) :
    ∀ {ρ : Rho}, (∀ m p, m ∉ pg → ρ m = some p → ρ' m = some p) → ∀ {o : AObj}, HoldsB w S ρ b C o → HoldsB w' S' ρ' b C (forgetsO pg o) := by
  induction pg with
  | nil => intro ρ hρ o h; exact h.mono hS hw (fun m p => hρ m p (by simp)) hb
  | cons l pg ih =>
    intro ρ hρ o h
    have h1 : HoldsB w S (fun m => if m = l then none else ρ m) b C (o.forget l false) := by
      refine HoldsB.forget (fun _ h => h) (fun _ _ => rfl) l false (fun m p hg hm => ?_) rfl h
      show (if m = l then none else ρ m) = some p
      rw [if_neg (fun e => by subst e; simp [gone] at hg)]; exact hm
    refine ih (ρ := fun m => if m = l then none else ρ m) (fun m p hm hp => ?_) h1
    by_cases e : m = l
    · simp [e] at hp
    · simp [e] at hp
      exact hρ m p (by simp [e, hm]) hp

end

/-- Where object i of the part lies; those beyond it come after all others. -/
def place : List Nat → Nat → Nat → Nat
  | [], base, i => base + i
  | l :: _, _, 0 => l
  | _ :: pos, base, i + 1 => place pos base i

def setAll : List AObj → List Nat → List AObj → List AObj
  | H, [], os => lapp H os
  | H, _ :: _, [] => H
  | H, l :: pos, o :: os => setAll (lset H l o) pos os

theorem place_lt {base : Nat} : ∀ {pos : List Nat} {i : Nat}, i < pos.length → pos[i]? = some (place pos base i)
  | [], i, h => by simp at h
  | l :: pos, 0, _ => rfl
  | l :: pos, i + 1, h => by
    have := place_lt (base := base) (pos := pos) (i := i) (by simpa using h)
    simpa [place] using this

theorem place_ge {base : Nat} : ∀ {pos : List Nat} {i : Nat}, pos.length ≤ i → place pos base i = base + (i - pos.length)
  | [], i, _ => by simp [place]
  | l :: pos, 0, h => by simp at h
  | l :: pos, i + 1, h => by
    have := place_ge (base := base) (pos := pos) (i := i) (by simpa using h)
    simp only [place, this, List.length_cons]
    omega

theorem setAll_length : ∀ {pos : List Nat} {H os : List AObj}, pos.length ≤ os.length → (setAll H pos os).length = H.length + (os.length - pos.length)
  | [], H, os, _ => by simp [setAll, lapp_eq]
  | l :: pos, H, [], h => by simp at h
  | l :: pos, H, o :: os, h => by
    have h' : pos.length ≤ os.length := by simpa using h
    rw [setAll, setAll_length h', lset_eq]
    simp

theorem setAll_other : ∀ {pos : List Nat} {H os : List AObj} {m : Nat}, m < H.length → m ∉ pos → (setAll H pos os)[m]? = H[m]?
  | [], H, os, m, hm, _ => by rw [setAll, lapp_eq, List.getElem?_append_left hm]
  | l :: pos, H, [], m, _, _ => rfl
  | l :: pos, H, o :: os, m, hm, hn => by
    simp only [List.mem_cons, not_or] at hn
    rw [setAll, setAll_other (by rw [lset_eq]; simpa using hm) hn.2, lset_eq, List.getElem?_set_ne (Ne.symm hn.1)]

theorem setAll_place : ∀ {pos : List Nat} {H os : List AObj} {i : Nat}, pos.Nodup → (∀ l, l ∈ pos → l < H.length) → pos.length ≤ os.length → i < os.length → (setAll H pos os)[place pos H.length i]? = os[i]?
  | [], H, os, i, _, _, _, hi => by
    rw [setAll, lapp_eq, place, List.getElem?_append_right (by omega)]
    congr 1; omega
  | l :: pos, H, [], i, _, _, hl, _ => by simp at hl
  | l :: pos, H, o :: os, i, hd, hlt, hl, hi => by
    have hd' := List.nodup_cons.1 hd
    have hlen : (lset H l o).length = H.length := by rw [lset_eq]; simp
    cases i with
    | zero =>
      rw [setAll, place, setAll_other (by rw [hlen]; exact hlt l (by simp)) hd'.1, lset_eq, List.getElem?_set_self (hlt l (by simp))]
      rfl
    | succ i =>
      rw [setAll, place, ← hlen, setAll_place hd'.2 (fun m hm => by rw [hlen]; exact hlt m (by simp [hm])) (by simpa using hl) (by simpa using hi)]
      simp

/-- The objects of a part stand where they should. -/
def atAll (H : List AObj) : List Nat → List AObj → Prop
  | [], [] => True
  | l :: pos, o :: os => (match lget H l with | some o' => LikeO o' o | none => False) ∧ atAll H pos os
  | _, _ => False

theorem atAll_get {H : List AObj} : ∀ {pos : List Nat} {os : List AObj}, atAll H pos os → pos.length = os.length ∧ ∀ (i l : Nat) (o : AObj), pos[i]? = some l → os[i]? = some o → ∃ o', H[l]? = some o' ∧ LikeO o' o
  | [], [], _ => ⟨rfl, by simp⟩
  | [], _ :: _, h => h.elim
  | _ :: _, [], h => h.elim
  | l :: pos, o :: os, h => by
    obtain ⟨h1, h2⟩ := h
    obtain ⟨h3, h4⟩ := atAll_get h2
    refine ⟨by simp [h3], fun i l' o' hl ho => ?_⟩
    cases i with
    | zero =>
      simp at hl ho
      subst hl; subst ho
      rw [lget_eq] at h1
      split at h1
      · rename_i o' e; exact ⟨o', e, h1⟩
      · exact h1.elim
    | succ i => simp at hl ho; exact h4 i l' o' hl ho

def nodupB : List Nat → Bool
  | [] => true
  | l :: r => !isIn l r && nodupB r

theorem nodupB_ok : ∀ {l : List Nat}, nodupB l = true → l.Nodup
  | [], _ => .nil
  | l :: r, h => by
    simp only [nodupB, Bool.and_eq_true, Bool.not_eq_true'] at h
    exact List.nodup_cons.2 ⟨fun hm => by rw [isIn_mem.2 hm] at h; exact Bool.noConfusion h.1, nodupB_ok h.2⟩

/-- What a call hands back that met a part of the memory. -/
def framed (H : List AObj) (pos : List Nat) (K : List Nat → AV → List AObj → Prop) (pg : List Nat) (v : AV) (H' : List AObj) : Prop :=
  ∃ pg0 v0 h0, K pg0 v0 h0 ∧ pg = lmap (place pos (llen H)) pg0 ∧ v = v0.ren (place pos (llen H)) ∧ H' = setAll (forgetsH pg H) pos (renH (place pos (llen H)) h0)

/-- THE FRAME RULE. -/
theorem ACall.frame {P : Program} {f : FuncId} {args args' : List AV} {h : List AObj} {K : List Nat → AV → List AObj → Prop} (hc : ACall P f args h K) {H : List AObj} (pos : List Nat) (hd : nodupB pos = true)
    (ha : args' = AV.renL (place pos (llen H)) args) (hH : atAll H pos (renH (place pos (llen H)) h)) : ACall P f args' H (framed H pos K) := by
  refine ⟨hc.1, fun w S ρ vs hs hv => ?_⟩
  unfold framed
  rw [llen_eq] at ha hH ⊢
  generalize hπ : place pos H.length = π at ha hH ⊢
  have hnd := nodupB_ok hd
  obtain ⟨a1, a2⟩ := atAll_get hH
  rw [renH_eq, List.length_map] at a1
  have hlt : ∀ l, l ∈ pos → l < H.length := fun l hl => by
    obtain ⟨i, hi⟩ := List.getElem?_of_mem hl
    have hi' := (List.getElem?_eq_some_iff.1 hi).1
    have ho : h[i]? = some (h[i]'(by omega)) := List.getElem?_eq_getElem _
    obtain ⟨o', h1, _⟩ := a2 i l _ hi (by rw [renH_eq, List.getElem?_map, ho]; rfl)
    exact (List.getElem?_eq_some_iff.1 h1).1
  have πlt : ∀ i, i < h.length → pos[i]? = some (π i) := fun i hi => by rw [← hπ]; exact place_lt (by omega)
  have πge : ∀ i, h.length ≤ i → π i = H.length + (i - h.length) := fun i hi => by rw [← hπ, place_ge (by omega), a1]
  have πmem : ∀ i, i < h.length → π i ∈ pos := fun i hi => List.mem_of_getElem? (πlt i hi)
  have πinj : ∀ i j, π i = π j → i = j := fun i j e => by
    by_cases hi : i < h.length
    · by_cases hj : j < h.length
      · have h1 := πlt i hi
        have h2 := πlt j hj
        rw [← e] at h2
        obtain ⟨q1, q2⟩ := List.getElem?_eq_some_iff.1 h1
        obtain ⟨q3, q4⟩ := List.getElem?_eq_some_iff.1 h2
        have hp := List.pairwise_iff_getElem.1 hnd
        rcases Nat.lt_trichotomy i j with hij | hij | hij
        · exact absurd (q2.trans q4.symm) (hp i j q1 q3 hij)
        · exact hij
        · exact absurd (q4.trans q2.symm) (hp j i q3 q1 hij)
      · have := hlt _ (πmem i hi); have := πge j (by omega); omega
    · by_cases hj : j < h.length
      · have := hlt _ (πmem j hj); have := πge i (by omega); omega
      · have := πge i (by omega); have := πge j (by omega); omega
  have hfresh : ∀ l, H.length ≤ l → ρ l = none := fun l hl => by
    cases hr : ρ l with
    | none => rfl
    | some p =>
      obtain ⟨o, h1, _⟩ := hs.obj l p.1 p.2 hr
      have := (List.getElem?_eq_some_iff.1 h1).1
      omega
  -- the part
  have hs0 : Sim w S (fun i => ρ (π i)) h := by
    refine ⟨hs.sblk, fun i ob C hi => ?_, fun i j b C C' h1 h2 => πinj _ _ (hs.inj _ _ b C C' h1 h2), fun i b C o hi ho hf => ?_⟩
    · by_cases hil : i < h.length
      · have ho : h[i]? = some (h[i]'hil) := List.getElem?_eq_getElem _
        obtain ⟨o', h1, h2⟩ := a2 i (π i) _ (πlt i hil) (by rw [renH_eq, List.getElem?_map, ho]; rfl)
        obtain ⟨o2, h3, h4⟩ := hs.obj (π i) ob C hi
        rw [h1] at h3; cases h3
        refine ⟨_, ho, ?_⟩
        have h5 := h2.holds _ _ _ _ _ h4
        cases ob with
        | none =>
          obtain ⟨hC, sz', e', h6⟩ := h5
          refine ⟨hC, sz', e', ?_⟩
          cases hoo : h[i]'hil <;> rw [hoo] at h6 <;> simp [AObj.ren] at h6 ⊢ <;> exact h6
        | some b => exact HoldsB.unren h5
      · have := hfresh (π i) (by have := πge i (by omega); omega)
        rw [this] at hi; cases hi
    · have hil := (List.getElem?_eq_some_iff.1 ho).1
      obtain ⟨o', h1, h2⟩ := a2 i (π i) _ (πlt i hil) (by rw [renH_eq, List.getElem?_map, ho]; rfl)
      exact hs.own (π i) b C o' hi h1 (h2.frz (by rw [ren_frozen]; exact hf))
  have hv0 : VRs w S (fun i => ρ (π i)) args vs := by
    subst ha
    refine ⟨by have := hv.1; rw [AV.renL_eq] at this; simpa using this, fun i x v hx hv' => (hv.2 i (x.ren π) v (by rw [AV.renL_eq, List.getElem?_map, hx]; rfl) hv').unren rfl⟩
  refine (hc.2 w S _ vs hs0 hv0).mono fun e w' he => ?_
  obtain ⟨v, x, pg, h', S', ρ1, he, hk, hvr, hsim, hext, hlen, hlow⟩ := he
  -- the whole
  obtain ⟨ρ', r1, r2⟩ : ∃ ρ' : Rho, (∀ i, ρ' (π i) = ρ1 i) ∧ (∀ l, l < H.length → l ∉ pos → ρ' l = ρ l) := by
    classical
    refine ⟨fun l => if hl : ∃ i, π i = l then ρ1 hl.choose else ρ l, fun i => ?_, fun l hl hp => ?_⟩
    · have hex : ∃ j, π j = π i := ⟨i, rfl⟩
      simp only [dif_pos hex]
      rw [πinj _ _ hex.choose_spec]
    · have : ¬ ∃ i, π i = l := fun ⟨i, hi⟩ => by
        by_cases hil : i < h.length
        · exact hp (hi ▸ πmem i hil)
        · have := πge i (by omega); omega
      simp only [dif_neg this]
  have hcase : ∀ l, (l < H.length ∧ l ∉ pos) ∨ ∃ i, π i = l := fun l => by
    by_cases hl : l < H.length
    · by_cases hp : l ∈ pos
      · obtain ⟨i, hi⟩ := List.getElem?_of_mem hp
        have hi' := (List.getElem?_eq_some_iff.1 hi).1
        have := πlt i (by omega)
        rw [hi] at this
        exact .inr ⟨i, (Option.some.inj this).symm⟩
      · exact .inl ⟨hl, hp⟩
    · exact .inr ⟨h.length + (l - H.length), by have := πge (h.length + (l - H.length)) (by omega); omega⟩
  have hkeep : ∀ l p, l ∉ pg.map π → ρ l = some p → ρ' l = some p := fun l p hl hp => by
    rcases hcase l with ⟨h1, h2⟩ | ⟨i, rfl⟩
    · rw [r2 l h1 h2]; exact hp
    · rw [r1]
      by_cases hil : i < h.length
      · rw [hlow i hil (fun hm => hl (List.mem_map.2 ⟨i, hm, rfl⟩))]; exact hp
      · have := hfresh (π i) (by have := πge i (by omega); omega)
        rw [this] at hp; cases hp
  have hlow' : ∀ l, l < H.length → l ∉ pg.map π → ρ' l = ρ l := fun l hl hn => by
    rcases hcase l with ⟨h1, h2⟩ | ⟨i, rfl⟩
    · exact r2 l h1 h2
    · have hil : i < h.length := Nat.lt_of_not_le fun hle => by have := πge i hle; omega
      rw [r1, hlow i hil (fun hm => hn (List.mem_map.2 ⟨i, hm, rfl⟩))]
  have hfl : (forgetsH (pg.map π) H).length = H.length := forgetsH_length _ _
  have hplen : pos.length ≤ (renH π h').length := by rw [renH_eq, List.length_map]; omega
  have hlt' : ∀ l, l ∈ pos → l < (forgetsH (pg.map π) H).length := fun l hl => by rw [hfl]; exact hlt l hl
  have hget : ∀ i o, h'[i]? = some o → (setAll (forgetsH (pg.map π) H) pos (renH π h'))[π i]? = some (o.ren π) := fun i o hi => by
    have hil := (List.getElem?_eq_some_iff.1 hi).1
    have := setAll_place (H := forgetsH (pg.map π) H) (os := renH π h') (i := i) hnd hlt' hplen (by rw [renH_eq, List.length_map]; exact hil)
    rw [hfl, hπ] at this
    rw [this, renH_eq, List.getElem?_map, hi]; rfl
  have hout : ∀ l b C, l < H.length → l ∉ pos → ρ l = some (some b, C) → w'.heap[b]? = w.heap[b]? ∧ ¬ ∃ i C', ρ1 i = some (some b, C') := fun l b C hl hp hr => by
    have hb := hs.blk hr
    have hno : ∀ i C', ρ (π i) ≠ some (some b, C') := fun i C' h1 => by
      have := hs.inj _ _ b _ _ hr h1
      subst this
      by_cases hil : i < h.length
      · exact hp (πmem i hil)
      · have := πge i (by omega); omega
    refine ⟨hext.frame b hb hno, fun ⟨i, C', h1⟩ => ?_⟩
    rcases hext.owned i b C' h1 with h2 | ⟨j, C2, h2⟩
    · omega
    · exact hno j C2 h2
  have hsim' : Sim w' S' ρ' (setAll (forgetsH (pg.map π) H) pos (renH π h')) := by
    refine ⟨hsim.sblk, fun l ob C hl => ?_, fun l l' b C C' h1 h2 => ?_, fun l b C o hl ho hf => ?_⟩
    · rcases hcase l with ⟨h1, h2⟩ | ⟨i, rfl⟩
      · rw [r2 l h1 h2] at hl
        obtain ⟨o, h3, h4⟩ := hs.obj l ob C hl
        refine ⟨forgetsO (pg.map π) o, by rw [setAll_other (by rw [hfl]; exact h1) h2, forgetsH_get, h3]; rfl, ?_⟩
        cases ob with
        | none =>
          obtain ⟨hC, sz', e', h6⟩ := h4
          refine ⟨hC, sz', e', ?_⟩
          have : ∀ (pg : List Nat) (o : AObj), (o = .arr sz' 0 e' ∨ o = .frz sz' 0 e') → forgetsO pg o = o := by
            intro pg
            induction pg with
            | nil => intro o _; rfl
            | cons l pg ih => intro o h; rw [forgetsO]; rcases h with rfl | rfl <;> exact ih _ (by simp [AObj.forget])
          rw [this _ _ h6]; exact h6
        | some b => exact HoldsB.forgets hext.mono hext.cell (hout l b C h1 h2 hl).1 _ hkeep h4
      · rw [r1] at hl
        obtain ⟨o, h3, h4⟩ := hsim.obj i ob C hl
        refine ⟨_, hget i o h3, ?_⟩
        cases ob with
        | none =>
          obtain ⟨hC, sz', e', h6⟩ := h4
          refine ⟨hC, sz', e', ?_⟩
          rcases h6 with rfl | rfl
          · exact .inl rfl
          · exact .inr rfl
        | some b => exact HoldsB.ren (fun j p hp => by rw [r1]; exact hp) h4
    · rcases hcase l with ⟨g1, g2⟩ | ⟨i, rfl⟩
      · rcases hcase l' with ⟨g3, g4⟩ | ⟨j, rfl⟩
        · rw [r2 l g1 g2] at h1; rw [r2 l' g3 g4] at h2
          exact hs.inj _ _ b C C' h1 h2
        · rw [r2 l g1 g2] at h1; rw [r1] at h2
          exact absurd ⟨j, C', h2⟩ (hout l b C g1 g2 h1).2
      · rcases hcase l' with ⟨g3, g4⟩ | ⟨j, rfl⟩
        · rw [r1] at h1; rw [r2 l' g3 g4] at h2
          exact absurd ⟨i, C, h1⟩ (hout l' b C' g3 g4 h2).2
        · rw [r1] at h1 h2
          rw [hsim.inj i j b C C' h1 h2]
    · rcases hcase l with ⟨g1, g2⟩ | ⟨i, rfl⟩
      · rw [r2 l g1 g2] at hl
        rw [setAll_other (by rw [hfl]; exact g1) g2, forgetsH_get] at ho
        obtain ⟨o1, h3, _⟩ := hs.obj l _ C hl
        rw [h3] at ho
        simp at ho
        subst ho
        rw [forgetsO_frozen] at hf
        intro hS
        rcases hext.news b hS with h4 | h4 | ⟨j, C', h4⟩
        · exact hs.own l b C o1 hl h3 hf h4
        · have := hs.blk hl; omega
        · have := hs.inj _ _ b _ _ hl h4
          subst this
          by_cases hil : j < h.length
          · exact g2 (πmem j hil)
          · have := πge j (by omega); omega
      · rw [r1] at hl
        obtain ⟨o1, h3, _⟩ := hsim.obj i _ C hl
        rw [hget i o1 h3] at ho
        cases ho
        rw [ren_frozen] at hf
        exact hsim.own i b C o1 hl h3 hf
  refine ⟨v, x.ren π, pg.map π, _, S', ρ', he, ⟨pg, x, h', hk, (lmap_eq _ _).symm, rfl, rfl⟩, hvr.ren (fun i p hp => by rw [r1]; exact hp), hsim', ?_, ?_, hlow'⟩
  · refine ⟨hext.os, hext.tape, hext.output, hext.size, hext.mono, hext.cell, fun b hb => ?_, fun b hb hn => hext.frame b hb (fun i C => hn (π i) C), fun l b C hl => ?_⟩
    · rcases hext.news b hb with h1 | h1 | ⟨i, C, h1⟩
      · exact .inl h1
      · exact .inr (.inl h1)
      · exact .inr (.inr ⟨π i, C, h1⟩)
    · rcases hcase l with ⟨g1, g2⟩ | ⟨i, rfl⟩
      · rw [r2 l g1 g2] at hl; exact .inr ⟨l, C, hl⟩
      · rw [r1] at hl
        rcases hext.owned i b C hl with h1 | ⟨j, C', h1⟩
        · exact .inl h1
        · exact .inr ⟨π j, C', h1⟩
  · rw [setAll_length hplen, hfl]; omega

end Go.Vf
