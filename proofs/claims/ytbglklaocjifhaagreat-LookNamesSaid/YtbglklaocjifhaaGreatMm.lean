/- The runner's eighth text: elements, appends, copies. The runner's ninth text: operations. The runner's tenth text: the other operations. The runner's eleventh text: operations in a row, regions that draw their order. Conditions: none. -/
import Derived.Test.YtbglklaocjifhaaGreatMl
set_option linter.unusedSimpArgs false
set_option linter.unusedVariables false

namespace Go.Vf
open Go

section
variable {P : Program} {t : TS} {ts : List AV} {h : CH} {hl : List AObj}

theorem xidx_ok {i : IX} {n : Nat} {k : Nat → Bool} (hk : xidx i n k = true) : k i.val.toNat = true ∧ ∀ S, Sd P S → ∀ K : Nat → Prop, K i.val.toNat → idx S i n K := by
  unfold xidx at hk
  split at hk
  · rename_i m e
    obtain ⟨h1, hk⟩ := reqB_ok hk
    have h2 : m < n := Nat.le_of_ble_eq_true h1
    refine ⟨by rw [e]; exact hk, ?_⟩
    rintro S ⟨A, ro, E, rfl⟩ K hK
    refine And.intro (show 0 ≤ i.val ∧ i.val < n from ?_) (by rw [nat_std]; exact hK)
    rw [e]; simp only [Int.ofNat_eq_natCast]; omega
  · exact absurd hk Bool.false_ne_true

def E0 : Ent := ⟨default, fun _ => False, noRho, 0, []⟩

theorem xstepIaddr_ok {sz : Nat} {x : CA} {i : IX} {k : CA → Bool} (hk : xstepIaddr sz x i k = true) : ∃ v, k v = true ∧ ∀ S, Sd P S → ∀ K : AV → Prop, K v.to → stepIaddr S sz x.to i K := by
  unfold xstepIaddr at hk
  split at hk
  · obtain ⟨h1, hk⟩ := reqB_ok hk
    obtain ⟨hk, h2⟩ := xidx_ok (P := P) hk
    have hk := addK_ok (P := P) (A := {}) (ro := none) (E := E0) hk
    refine ⟨_, hk, ?_⟩
    rintro S ⟨A, ro, E, rfl⟩ K hK
    simp only [CA.to, stepIaddr, h1, if_true]
    exact h2 _ ⟨A, ro, E, rfl⟩ _ hK
  · obtain ⟨h1, hk⟩ := reqB_ok hk
    obtain ⟨hk, h2⟩ := xidx_ok (P := P) hk
    obtain ⟨row, h3, h4, hk⟩ := rowK_ok hk
    refine ⟨_, hk, ?_⟩
    rintro S ⟨A, ro, E, rfl⟩ K hK
    simp only [CA.to, CD.to, stepIaddr, h1, if_true]
    refine h2 _ ⟨A, ro, E, rfl⟩ _ ?_
    rw [h4]; exact hK
  · obtain ⟨h1, hk⟩ := reqB_ok hk
    obtain ⟨hk, h2⟩ := xidx_ok (P := P) hk
    obtain ⟨row, h3, h4, hk⟩ := rowK_ok hk
    refine ⟨_, hk, ?_⟩
    rintro S ⟨A, ro, E, rfl⟩ K hK
    simp only [CA.to, stepIaddr, h1, if_true]
    refine h2 _ ⟨A, ro, E, rfl⟩ _ ?_
    rw [h4]; exact hK
  · exact absurd hk Bool.false_ne_true

theorem viewN_gen {S : Sig} {sz : Nat} {v : AV} {K : Nat → Nat → (Nat → List DV) → Prop} (hv : v ≠ .d .nil) (hk : view S hl v K) : viewN S sz hl v K := by
  unfold viewN
  split
  · exact (hv rfl).elim
  · exact hk.elim
  · exact hk

theorem rowAt_nil : rowAt ([] : List (List DV)) = fun _ => [] := by funext j; rfl

theorem CA.to_nil {v : CA} (h : v.to = .d .nil) : v = .d .nil := by
  cases v with
  | d x => cases x <;> first | rfl | cases h
  | _ => cases h

theorem xviewN_ok (r : RH P h hl) {sz : Nat} {v : CA} {k : Nat → Nat → List (List CD) → Bool} (hk : xviewN sz h v k = true) :
    ∃ sz' n rows, k sz' n rows = true ∧ ∀ S, Sd P S → ∀ K : Nat → Nat → (Nat → List DV) → Prop, K sz' n (rowAt (CD.toR rows)) → viewN S sz hl v.to K := by
  unfold xviewN at hk
  split at hk
  · exact ⟨_, _, _, hk, fun S _ K hK => hK⟩
  · rename_i hne
    obtain ⟨sz', n, rows, hk, hv⟩ := xview_ok r hk
    exact ⟨_, _, _, hk, fun S hS K hK => viewN_gen (fun e => hne (CA.to_nil e)) (hv S hS K hK)⟩

theorem app_rows {A : Ann} {ro : Option Nat} {E : Ent} {e e2 : List (List CD)} {n : Nat} (hn : n ≤ e.length) :
    rowAt (CD.toR (e.take n ++ e2)) = (std P A ro E).app n (rowAt (CD.toR e)) (rowAt (CD.toR e2)) := by
  rw [CD.toR_eq, List.map_append, List.map_take, rowAt_app _ _ _ (by simpa using hn), ← CD.toR_eq, ← CD.toR_eq]
  rfl

theorem put_rows {A : Ann} {ro : Option Nat} {E : Ent} {e new : List (List CD)} {i m : Nat} (h1 : i + m ≤ e.length) (h2 : m ≤ new.length) :
    rowAt (CD.toR (e.take i ++ new.take m ++ e.drop (i + m))) = (std P A ro E).put i m (rowAt (CD.toR e)) (rowAt (CD.toR new)) := by
  rw [CD.toR_eq, List.map_append, List.map_append, List.map_take, List.map_take, List.map_drop, rowAt_put _ _ _ _ (by simpa using h1) (by simpa using h2), ← CD.toR_eq, ← CD.toR_eq]
  rfl

theorem ble_ok {a b : Nat} {k : Bool} (h : reqB (Nat.ble a b) k = true) : a ≤ b ∧ k = true := by
  obtain ⟨h1, h2⟩ := reqB_ok h
  exact ⟨Nat.le_of_ble_eq_true h1, h2⟩

theorem blt_ok {a b : Nat} {k : Bool} (h : reqB (Nat.blt a b) k = true) : a < b ∧ k = true := by
  obtain ⟨h1, h2⟩ := reqB_ok h
  exact ⟨Nat.le_of_ble_eq_true h1, h2⟩

theorem xstepAppend_ok (r : RH P h hl) {sz : Nat} {x y : CA} {mu : Bool} {k : CA → CH → List Nat → Bool} (hk : xstepAppend h sz x y mu k = true) :
    ∃ v h' hl' pg, k v h' pg = true ∧ RH P h' hl' ∧ ∀ S, Sd P S → ∀ K : AV → List AObj → List Nat → Prop, K v.to hl' pg → stepAppend S hl sz x.to y.to mu K := by
  unfold xstepAppend at hk
  obtain ⟨sz2, m, e2, hk, hv⟩ := xviewN_ok r hk
  obtain ⟨h1, hk⟩ := reqB_ok hk
  split at hk
  · obtain ⟨h2, hk⟩ := ble_ok hk
    cases mu with
    | true =>
      obtain ⟨h', hk, hr⟩ := r.adds hk
      refine ⟨_, _, _, _, hk, hr _ rfl, ?_⟩
      rintro S ⟨A, ro, E, rfl⟩ K hK
      refine hv _ ⟨A, ro, E, rfl⟩ _ ?_
      simp only [CA.to, CD.to, h1, if_true]
      exact And.intro h2 hK
    | false =>
      refine ⟨_, _, _, _, hk, r, ?_⟩
      rintro S ⟨A, ro, E, rfl⟩ K hK
      refine hv _ ⟨A, ro, E, rfl⟩ _ ?_
      simp only [CA.to, CD.to, h1, if_true]
      exact And.intro h2 hK
  · rename_i sz' n e
    obtain ⟨h2, hk⟩ := reqB_ok hk
    rw [fN_eq] at hk
    obtain ⟨h3, hk⟩ := ble_ok hk
    obtain ⟨h4, hk⟩ := blt_ok hk
    obtain ⟨h5, hk⟩ := takeAppK_ok hk
    cases mu with
    | true =>
      obtain ⟨h', hk, hr⟩ := r.adds hk
      refine ⟨_, _, _, _, hk, hr _ rfl, ?_⟩
      rintro S ⟨A, ro, E, rfl⟩ K hK
      refine hv _ ⟨A, ro, E, rfl⟩ _ ?_
      simp only [CA.to, h1, h2, if_true]
      rw [app_rows (P := P) (A := A) (ro := ro) (E := E) h5] at hK
      exact And.intro h3 (And.intro h4 hK)
    | false =>
      refine ⟨_, _, _, _, hk, r, ?_⟩
      rintro S ⟨A, ro, E, rfl⟩ K hK
      refine hv _ ⟨A, ro, E, rfl⟩ _ ?_
      simp only [CA.to, h1, h2, if_true]
      simp only [CA.to, CD.to] at hK
      rw [app_rows (P := P) (A := A) (ro := ro) (E := E) h5] at hK
      exact And.intro h3 (And.intro h4 hK)
  · rename_i l sz' n
    obtain ⟨h2, hk⟩ := reqB_ok hk
    obtain ⟨o, ao, h3, hR, hk⟩ := r.gets hk
    cases o with
    | arr sz'' n' e =>
      cases hR
      obtain ⟨h4, hk⟩ := reqB_ok hk
      obtain ⟨h5, hk⟩ := reqB_ok hk
      rw [fN_eq] at hk
      obtain ⟨h6, hk⟩ := ble_ok hk
      obtain ⟨h7, hk⟩ := takeAppK_ok hk
      obtain ⟨h', hk, hr⟩ := r.sets hk
      obtain ⟨h'', hk, hr'⟩ := xforgetH_ok (hr _ rfl) hk
      refine ⟨_, _, _, _, hk, hr', ?_⟩
      rintro S ⟨A, ro, E, rfl⟩ K hK
      refine hv _ ⟨A, ro, E, rfl⟩ _ ?_
      simp only [CA.to, h1, h2, h3, h4, if_true]
      rw [app_rows (P := P) (A := A) (ro := ro) (E := E) h7] at hK
      exact And.intro (Nat.eq_of_beq_eq_true h5) (And.intro h6 hK)
    | _ => exact absurd hk Bool.false_ne_true
  · rename_i l sz' s n
    obtain ⟨h2, hk⟩ := reqB_ok hk
    obtain ⟨sz3, n3, e, hk, hv2⟩ := xview_ok r hk
    rw [fN_eq] at hk
    obtain ⟨h3, hk⟩ := ble_ok hk
    obtain ⟨h4, hk⟩ := blt_ok hk
    obtain ⟨h5, hk⟩ := takeAppK_ok hk
    cases mu with
    | true =>
      obtain ⟨h', hk, hr⟩ := r.adds hk
      refine ⟨_, _, _, _, hk, hr _ rfl, ?_⟩
      rintro S ⟨A, ro, E, rfl⟩ K hK
      refine hv _ ⟨A, ro, E, rfl⟩ _ ?_
      simp only [CA.to, h1, h2, if_true]
      refine hv2 _ ⟨A, ro, E, rfl⟩ _ ?_
      rw [app_rows (P := P) (A := A) (ro := ro) (E := E) h5] at hK
      exact And.intro h3 (And.intro h4 hK)
    | false =>
      refine ⟨_, _, _, _, hk, r, ?_⟩
      rintro S ⟨A, ro, E, rfl⟩ K hK
      refine hv _ ⟨A, ro, E, rfl⟩ _ ?_
      simp only [CA.to, h1, h2, if_true]
      refine hv2 _ ⟨A, ro, E, rfl⟩ _ ?_
      simp only [CA.to, CD.to] at hK
      rw [app_rows (P := P) (A := A) (ro := ro) (E := E) h5] at hK
      exact And.intro h3 (And.intro h4 hK)
  · exact absurd hk Bool.false_ne_true

theorem xstepAppIn_ok (r : RH P h hl) {sz : Nat} {x y : CA} {k : CA → CH → Bool} (hk : xstepAppIn h sz x y k = true) :
    ∃ v h' hl', k v h' = true ∧ RH P h' hl' ∧ ∀ S, Sd P S → ∀ K : AV → List AObj → Prop, K v.to hl' → stepAppIn S hl sz x.to y.to K := by
  unfold xstepAppIn at hk
  obtain ⟨sz2, m, e2, hk, hv⟩ := xviewN_ok r hk
  obtain ⟨h1, hk⟩ := reqB_ok hk
  split at hk
  · rename_i l sz' s n
    obtain ⟨h2, hk⟩ := reqB_ok hk
    obtain ⟨o, ao, h3, hR, hk⟩ := r.gets hk
    cases o with
    | arr sz'' n' e =>
      cases hR
      obtain ⟨h4, hk⟩ := reqB_ok hk
      have hk := addK_ok (P := P) (A := {}) (ro := none) (E := E0) hk
      obtain ⟨h6, hk⟩ := ble_ok hk
      obtain ⟨h7, h8, hk⟩ := segK_ok hk
      obtain ⟨h', hk, hr⟩ := r.sets hk
      rw [fN_eq] at hk
      refine ⟨_, _, _, hk, hr _ rfl, ?_⟩
      rintro S ⟨A, ro, E, rfl⟩ K hK
      refine hv _ ⟨A, ro, E, rfl⟩ _ ?_
      simp only [CA.to, h1, h2, h3, h4, if_true]
      rw [put_rows (P := P) (A := A) (ro := ro) (E := E) h7 h8] at hK
      exact And.intro h6 hK
    | _ => exact absurd hk Bool.false_ne_true
  · exact absurd hk Bool.false_ne_true

theorem xstartN_eq (s : Option Nat) : xstartN s = startN s := by cases s <;> rfl
theorem xmin_eq (a b : Nat) : xmin a b = min a b := by
  unfold xmin
  split
  · rename_i e; have := Nat.le_of_ble_eq_true e; omega
  · rename_i e; have : ¬ a ≤ b := fun c => by rw [Nat.ble_eq_true_of_le c] at e; cases e
    omega

theorem rowsEK_ok {n : Nat} : ∀ {e : List (List CD)} {k : List CA → Bool}, rowsEK e n k = true → ∃ cs, cs.length = n ∧ (∀ i, i < n → ∃ x, rowAt (CD.toR e) i = [x] ∧ (CA.toL cs)[i]? = some (.d x)) ∧ k cs = true := by
  induction n with
  | zero => intro e k hk; simp only [rowsEK] at hk; exact ⟨[], rfl, fun i hi => by omega, hk⟩
  | succ n ih =>
    intro e k hk
    cases e with
    | nil => exact absurd hk Bool.false_ne_true
    | cons row e =>
      match row, hk with
      | [], hk => exact absurd hk Bool.false_ne_true
      | [x], hk =>
        obtain ⟨cs, h1, h2, hk⟩ := ih (e := e) (k := fun l => k (.d x :: l)) hk
        refine ⟨_, by simp [h1], fun i hi => ?_, hk⟩
        cases i with
        | zero => exact ⟨x.to, rfl, rfl⟩
        | succ i => obtain ⟨y, h3, h4⟩ := h2 i (by omega); exact ⟨y, h3, by simpa [CA.toL] using h4⟩
      | _ :: _ :: _, hk => exact absurd hk Bool.false_ne_true

theorem rowsE_of {n : Nat} : ∀ {e : Nat → List DV} {l : List AV}, l.length = n → (∀ i, i < n → ∃ x, e i = [x] ∧ l[i]? = some (.d x)) → rowsE e n = some l := by
  induction n with
  | zero => intro e l h1 h2; simp [rowsE]; exact (List.length_eq_zero_iff.1 h1)
  | succ n ih =>
    intro e l h1 h2
    obtain ⟨x, h3, h4⟩ := h2 n (by omega)
    have h5 := ih (l := l.take n) (e := e) (by simp [h1]) (fun i hi => by obtain ⟨y, h6, h7⟩ := h2 i (by omega); exact ⟨y, h6, by rw [List.getElem?_take_of_lt hi]; exact h7⟩)
    simp only [rowsE, h5, h3, lapp_eq]
    congr 1
    refine List.ext_getElem? fun i => ?_
    by_cases c : i < n
    · rw [List.getElem?_append_left (by simp [h1]; omega), List.getElem?_take_of_lt c]
    · by_cases d : i = n
      · subst d; rw [List.getElem?_append_right (by rw [List.length_take]; omega), List.length_take, h1, show i - min i (i + 1) = 0 by omega, h4]; rfl
      · rw [List.getElem?_eq_none (by simp [h1]; omega), List.getElem?_eq_none (by omega)]

theorem xstepCopy_ok (r : RH P h hl) {sz : Nat} {x y : CA} {k : CA → CH → Bool} (hk : xstepCopy h sz x y k = true) :
    ∃ v h' hl', k v h' = true ∧ RH P h' hl' ∧ ∀ S, Sd P S → ∀ K : AV → List AObj → Prop, K v.to hl' → stepCopy S hl sz x.to y.to K := by
  unfold xstepCopy at hk
  obtain ⟨sz2, m, e2, hk, hv⟩ := xviewN_ok r hk
  obtain ⟨h1, hk⟩ := reqB_ok hk
  split at hk
  · rename_i l sz' s n f
    obtain ⟨h2, hk⟩ := reqB_ok hk
    obtain ⟨o, ao, h3, hR, hk⟩ := r.gets hk
    cases o with
    | arr sz'' n' e =>
      cases hR
      obtain ⟨h4, hk⟩ := reqB_ok hk
      have hk := addK_ok (P := P) (A := {}) (ro := none) (E := E0) hk
      obtain ⟨h6, hk⟩ := ble_ok hk
      rw [fN_eq] at hk
      obtain ⟨h7, h8, hk⟩ := segK_ok hk
      obtain ⟨h', hk, hr⟩ := r.sets hk
      refine ⟨_, _, _, hk, hr _ rfl, ?_⟩
      rintro S ⟨A, ro, E, rfl⟩ K hK
      refine hv _ ⟨A, ro, E, rfl⟩ _ ?_
      simp only [CA.to, h1, h2, h3, h4, if_true]
      rw [put_rows (P := P) (A := A) (ro := ro) (E := E) h7 h8, xstartN_eq] at hK
      simp only [CA.to, CD.to, xmin_eq] at hK
      exact And.intro h6 hK
    | _ => exact absurd hk Bool.false_ne_true
  · obtain ⟨h2, hk⟩ := reqB_ok hk
    obtain ⟨o, ao, h3, hR, hk⟩ := r.gets hk
    cases o with
    | var cs =>
      cases hR
      simp only [fN_eq] at hk
      obtain ⟨new, h4, h5, hk⟩ := rowsEK_ok hk
      obtain ⟨c, h6, hk⟩ := putK_ok CA.to hk
      obtain ⟨h', hk, hr⟩ := r.sets hk
      refine ⟨_, _, _, hk, hr _ rfl, ?_⟩
      rintro S ⟨A, ro, E, rfl⟩ K hK
      refine hv _ ⟨A, ro, E, rfl⟩ _ ?_
      have h7 : rowsE (rowAt (CD.toR e2)) ((std P A ro E).nmin _ m) = some (CA.toL new) := rowsE_of (by rw [CA.toL_len, h4, xmin_eq]; rfl) (fun i hi => h5 i (by rw [xmin_eq]; exact hi))
      simp only [CA.to, h1, h2, h3, if_true, h7]
      rw [CA.toL_eq, CA.toL_eq, h6, ← CA.toL_eq]
      simp only [CA.to, CD.to, xmin_eq] at hK
      exact hK
    | _ => exact absurd hk Bool.false_ne_true
  · exact absurd hk Bool.false_ne_true

end
end Go.Vf


namespace Go.Vf
open Go

/-- What moved below 'base' is known. -/
def MV (base : Nat) (mvA mv : List Nat) : Prop := ∀ m, m < base → m ∈ mvA → m ∈ mv

/-- The words for calls and loops keep their promises. -/
structure XOk (P : Program) (X : XS) : Prop where
  pcall : ∀ {own : Bool} {f : FuncId} {args : List CA} {k : CA → Bool}, X.pcall own f args k = true → ∃ r, k r = true ∧ PureF P own f (CA.toL args) r.to
  call : ∀ {f : FuncId} {args : List CA} {h : CH} {hl : List AObj} {k : List Nat → CA → CH → Bool}, RH P h hl → X.call f args h k = true →
    ∃ pg v h' hl', k pg v h' = true ∧ RH P h' hl' ∧ ∀ K : List Nat → AV → List AObj → Prop, K pg v.to hl' → ACall P f (CA.toL args) hl K
  yld : ∀ {l : Nat} {args : List CA} {h : CH} {hl : List AObj} {k : List Nat → CA → CH → Bool}, RH P h hl → X.yld l args h k = true →
    ∃ pg v h' hl', k pg v h' = true ∧ RH P h' hl' ∧ ∀ K : List Nat → AV → List AObj → Prop, K pg v.to hl' → YCall P l (CA.toL args) hl K
  loop : ∀ {A : Ann} {base : Nat} {top : Bool} {c : ICode} {k : Lv → TS → CH → List Nat → Bool} {t : TS} {ts : List AV} {h : CH} {hl : List AObj} {mv mvA : List Nat},
    RT t ts → RH P h hl → MV base mvA mv → X.loop A base top c k t h mv = true →
    ∃ lv t' ts' h' hl' mv' mvA', k lv t' h' mv' = true ∧ RT t' ts' ∧ RH P h' hl' ∧ MV base mvA' mv' ∧
      ∀ (ro : Option Nat) (E : Ent) (Q : Lv → St → Prop), (top = true → ro = none) → Q lv ⟨ts', hl', mvA'⟩ → ∃ m, evRounds (std P A ro E) m c Q ⟨ts, hl, mvA⟩

/-- An operation does what the runner says. -/
def StepOk (P : Program) (o : IOp) (ts : List AV) (hl : List AObj) (k : CA → CH → List Nat → Bool) : Prop :=
  ∃ v h' hl' pg, k v h' pg = true ∧ RH P h' hl' ∧ ∀ S, Sd P S → ∀ (mv : List Nat) (K : AV → List AObj → List Nat → Prop), K v.to hl' pg → stepOp S o ⟨ts, hl, mv⟩ K

section
variable {P : Program} {X : XS} {t : TS} {ts : List AV} {h : CH} {hl : List AObj} {k : CA → CH → List Nat → Bool}

theorem mv_ok (r : RT t ts) (rh : RH P h hl) {x : IOpd} (hk : xMvO x X t h k = true) : StepOk P (.mv x) ts hl k := by
  obtain ⟨v, h1, hk⟩ := xopd_ok r hk
  exact ⟨v, h, hl, [], hk, rh, fun S _ mv K hK => by simp only [stepOp, h1]; exact hK⟩

theorem newnil_ok (rh : RH P h hl) {sz : Nat} (hk : xNewnilO sz X t h k = true) : StepOk P (.newnil sz) ts hl k := by
  obtain ⟨h', hk, hr⟩ := rh.adds hk
  refine ⟨_, _, _, _, hk, hr _ rfl, fun S _ mv K hK => ?_⟩
  exact hK

theorem bnew_ok (rh : RH P h hl) {sz : Nat} (hk : xBnewO sz X t h k = true) : StepOk P (.bnew sz) ts hl k := by
  obtain ⟨h', hk, hr⟩ := rh.adds hk
  refine ⟨_, _, _, _, hk, hr _ rfl, fun S _ mv K hK => ?_⟩
  exact hK

theorem pick_ok (r : RT t ts) (rh : RH P h hl) {c a b : IOpd} (hk : xPickO c a b X t h k = true) : StepOk P (.pick c a b) ts hl k := by
  obtain ⟨v, h1, hk⟩ := xopd_ok r hk
  obtain ⟨n, rfl, hk⟩ := xbval_ok hk
  cases n with
  | true =>
    obtain ⟨v, h2, hk⟩ := xopd_ok r hk
    exact ⟨v, h, hl, [], hk, rh, fun S _ mv K hK => by simp only [stepOp, h1, CA.to, CD.to, bval, h2]; exact hK⟩
  | false =>
    obtain ⟨v, h2, hk⟩ := xopd_ok r hk
    exact ⟨v, h, hl, [], hk, rh, fun S _ mv K hK => by simp only [stepOp, h1, CA.to, CD.to, bval, h2]; exact hK⟩

theorem alloc_ok (rh : RH P h hl) {zs : List DV} (hk : xAllocO zs X t h k = true) : StepOk P (.alloc zs) ts hl k := by
  obtain ⟨cs, ez, hk2⟩ := cdKL_ok hk
  clear hk
  subst ez
  obtain ⟨ds, h1, hk⟩ := dL_ok hk2
  obtain ⟨h', hk, hr⟩ := rh.adds hk
  refine ⟨_, _, _, _, hk, hr _ rfl, fun S _ mv K hK => ?_⟩
  simp only [stepOp, h1]
  exact hK

theorem box_ok (r : RT t ts) (rh : RH P h hl) {x : IOpd} (hk : xBoxO x X t h k = true) : StepOk P (.box x) ts hl k := by
  obtain ⟨v, h1, hk⟩ := xopd_ok r hk
  obtain ⟨h2, hk⟩ := onesK_ok hk
  obtain ⟨h', hk, hr⟩ := rh.adds hk
  refine ⟨_, _, _, _, hk, hr _ rfl, fun S _ mv K hK => ?_⟩
  simp only [stepOp, h1, CA.cells_to, h2, if_true]
  exact hK

theorem build_ok (r : RT t ts) (rh : RH P h hl) {zs : List DV} {ps : List (Nat × Nat × IOpd)} (hk : xBuildO zs ps X t h k = true) : StepOk P (.build zs ps) ts hl k := by
  obtain ⟨cs, ez, hk2⟩ := cdKL_ok hk
  clear hk
  subst ez
  obtain ⟨ds, h1, hk⟩ := dL_ok hk2
  obtain ⟨cs', h2, hk⟩ := xfillP_ok r hk
  refine ⟨_, _, _, _, hk, rh, fun S _ mv K hK => ?_⟩
  simp only [stepOp, h1, h2]
  exact hK

theorem bslice_ok (r : RT t ts) (rh : RH P h hl) {sz len : Nat} {zs : List DV} {ps : List (Nat × IOpd)} {mu : Bool} (hk : xBsliceO sz len zs ps mu X t h k = true) : StepOk P (.bslice sz len zs ps mu) ts hl k := by
  obtain ⟨cs, ez, hk2⟩ := cdKL_ok hk
  clear hk
  subst ez
  obtain ⟨ds, h1, hk⟩ := dL_ok hk2
  have hk := repK_ok hk
  obtain ⟨rs, h2, hk⟩ := xfillR_ok r hk
  obtain ⟨rows, h', hl', hk, rh', h3⟩ := xfreezeR_ok rh hk
  have h2' : fillR ts sz (lrep (lmap .d (CD.toL cs)) len) ps = some (rs.map CA.toL) := by
    rw [lrep_eq, h1]; simpa using h2
  cases mu with
  | true =>
    obtain ⟨h'', hk, hr⟩ := rh'.adds hk
    refine ⟨_, _, _, _, hk, hr _ rfl, fun S hS mv K hK => ?_⟩
    simp only [stepOp, h2', if_true]
    exact h3 S hS _ hK
  | false =>
    refine ⟨_, _, _, _, hk, rh', fun S hS mv K hK => ?_⟩
    simp only [stepOp, h2']
    exact h3 S hS _ hK

theorem xdvsR_ok {rs : List (List CA)} : ∀ {k : List (List CD) → Bool}, xdvsR rs k = true → ∃ rows, dvsR (rs.map CA.toL) = some (CD.toR rows) ∧ k rows = true := by
  induction rs with
  | nil => intro k hk; exact ⟨[], rfl, hk⟩
  | cons r rs ih =>
    intro k hk
    obtain ⟨ds, h1, hk⟩ := dvsK_ok hk
    obtain ⟨rows, h2, hk⟩ := ih hk
    refine ⟨ds :: rows, ?_, hk⟩
    simp only [List.map_cons, dvsR, h1, h2]
    rfl

theorem bsliceP_ok (r : RT t ts) (rh : RH P h hl) {sz len : Nat} {zs : List DV} {ps : List (Nat × IOpd)} (hk : xBslicePO sz len zs ps X t h k = true) : StepOk P (.bsliceP sz len zs ps) ts hl k := by
  obtain ⟨cs, ez, hk2⟩ := cdKL_ok hk
  clear hk
  subst ez
  obtain ⟨ds, h1, hk⟩ := dL_ok hk2
  have hk := repK_ok hk
  obtain ⟨rs, h2, hk⟩ := xfillR_ok r hk
  obtain ⟨rows, h3, hk⟩ := xdvsR_ok hk
  have h2' : fillR ts sz (lrep (lmap .d (CD.toL cs)) len) ps = some (rs.map CA.toL) := by
    rw [lrep_eq, h1]; simpa using h2
  refine ⟨_, _, _, _, hk, rh, fun S hS mv K hK => ?_⟩
  simp only [stepOp, h2', h3]
  exact hK

theorem load_ok (r : RT t ts) (rh : RH P h hl) {agg : Option Nat} {x : IOpd} (hk : xLoadO agg x X t h k = true) : StepOk P (.load agg x) ts hl k := by
  obtain ⟨v, h1, hk⟩ := xopd_ok r hk
  obtain ⟨u, hk, h2⟩ := xreadP_ok rh hk
  refine ⟨_, _, _, _, hk, rh, fun S hS mv K hK => ?_⟩
  simp only [stepOp, h1]
  exact h2 S hS _ hK

theorem store_ok (r : RT t ts) (rh : RH P h hl) {sz : Nat} {a x : IOpd} (hk : xStoreO sz a x X t h k = true) : StepOk P (.store sz a x) ts hl k := by
  obtain ⟨p, h1, hk⟩ := xopd_ok r hk
  obtain ⟨v, h2, hk⟩ := xopd_ok r hk
  obtain ⟨h', hl', hk, rh', h3⟩ := xwriteP_ok rh hk
  refine ⟨_, _, _, _, hk, rh', fun S hS mv K hK => ?_⟩
  simp only [stepOp, h1, h2]
  exact h3 S hS _ hK

theorem nilchk_ok (r : RT t ts) (rh : RH P h hl) {x : IOpd} (hk : xNilchkO x X t h k = true) : StepOk P (.nilchk x) ts hl k := by
  obtain ⟨v, h1, hk⟩ := xopd_ok r hk
  obtain ⟨h2, hk⟩ := reqB_ok hk
  refine ⟨_, _, _, _, hk, rh, fun S hS mv K hK => ?_⟩
  simp only [stepOp, h1, CA.isPtr_to, h2, if_true]
  exact hK

theorem bw_ok (r : RT t ts) (rh : RH P h hl) {op : BinOp} {x y : IOpd} (hk : xBwO op x y X t h k = true) : StepOk P (.bw op x y) ts hl k := by
  obtain ⟨v, h1, hk⟩ := xopd_ok r hk
  obtain ⟨u, h2, hk⟩ := xopd_ok r hk
  split at hk
  · split at hk
    · split at hk
      · exact absurd hk Bool.false_ne_true
      · rename_i n ecl
        split at hk
        · obtain ⟨h3, hk⟩ := xle_ok hk
          rw [fI_eq] at hk
          refine ⟨_, _, _, _, hk, rh, ?_⟩
          rintro S ⟨A, ro, E, rfl⟩ mv K hK
          simp only [stepOp, h1, h2, CA.to, CD.to, bwI, ecl]
          exact ⟨h3, hK⟩
        · split at hk
          · obtain ⟨h3, hk2⟩ := reqB_ok hk
            rw [fI_eq] at hk2
            have e := kEq_ok h3
            refine ⟨_, _, _, _, hk2, rh, ?_⟩
            rintro S ⟨A, ro, E, rfl⟩ mv K hK
            simp only [stepOp, h1, h2, CA.to, CD.to, bwI, ecl, if_pos e]
            exact hK
          · exact absurd hk Bool.false_ne_true
    · exact absurd hk Bool.false_ne_true
  · exact absurd hk Bool.false_ne_true

theorem bin_ok (r : RT t ts) (rh : RH P h hl) {op : BinOp} {x y : IOpd} (hk : xBinO op x y X t h k = true) : StepOk P (.bin op x y) ts hl k := by
  obtain ⟨v, h1, hk⟩ := xopd_ok r hk
  obtain ⟨u, h2, hk⟩ := xopd_ok r hk
  split at hk
  · split at hk
    · obtain ⟨h3, hk⟩ := reqB_ok hk
      obtain ⟨c, hk, h4⟩ := xbinI_ok (P := P) hk
      refine ⟨_, _, _, _, hk, rh, fun S hS mv K hK => ?_⟩
      have e := kEq_ok h3
      subst e
      simp only [stepOp, h1, h2, CA.to, CD.to, if_true]
      exact h4 S hS _ hK
    · split at hk
      · obtain ⟨h3, hk⟩ := reqB_ok hk
        obtain ⟨h4, hk⟩ := xle_ok hk
        refine ⟨_, _, _, _, hk, rh, ?_⟩
        rintro S ⟨A, ro, E, rfl⟩ mv K hK
        have e := kEq_ok h3
        subst e
        simp only [stepOp, h1, h2, CA.to, CD.to]
        exact And.intro h4 hK
      · exact absurd hk Bool.false_ne_true
    · exact absurd hk Bool.false_ne_true
  · exact absurd hk Bool.false_ne_true

theorem binb_ok (r : RT t ts) (rh : RH P h hl) {op : BinOp} {x y : IOpd} (hk : xBinbO op x y X t h k = true) : StepOk P (.binb op x y) ts hl k := by
  obtain ⟨v, h1, hk⟩ := xopd_ok r hk
  obtain ⟨a, rfl, hk⟩ := xbval_ok hk
  obtain ⟨v, h2, hk⟩ := xopd_ok r hk
  obtain ⟨b, rfl, hk⟩ := xbval_ok hk
  cases op
  case eql =>
    cases a <;> cases b <;>
    · refine ⟨_, _, _, _, hk, rh, ?_⟩
      rintro S ⟨A, ro, E, rfl⟩ mv K hK
      simp only [stepOp, h1, h2, CA.to, CD.to]
      exact hK
  case neq =>
    cases a <;> cases b <;>
    · refine ⟨_, _, _, _, hk, rh, ?_⟩
      rintro S ⟨A, ro, E, rfl⟩ mv K hK
      simp only [stepOp, h1, h2, CA.to, CD.to]
      exact hK
  all_goals exact absurd hk Bool.false_ne_true

theorem aeq_ok (r : RT t ts) (rh : RH P h hl) {neg : Bool} {ks : List IntKind} {x y : IOpd} (hk : xAeqO neg ks x y X t h k = true) : StepOk P (.aeq neg ks x y) ts hl k := by
  obtain ⟨v, h1, hk⟩ := xopd_ok r hk
  obtain ⟨u, h2, hk⟩ := xopd_ok r hk
  split at hk
  · split at hk
    · obtain ⟨b, hk, h3⟩ := xaeq_ok (P := P) hk
      cases neg <;> cases b <;>
      · refine ⟨_, _, _, _, hk, rh, ?_⟩
        rintro S ⟨A, ro, E, rfl⟩ mv K hK
        simp only [stepOp, h1, h2, CA.to, h3 _ ⟨A, ro, E, rfl⟩]
        exact hK
    · exact absurd hk Bool.false_ne_true
  · exact absurd hk Bool.false_ne_true

theorem aeqw_ok (r : RT t ts) (rh : RH P h hl) {neg : Bool} {ks : List CK} {x y : IOpd} (hk : xAeqwO neg ks x y X t h k = true) : StepOk P (.aeqw neg ks x y) ts hl k := by
  obtain ⟨v, h1, hk⟩ := xopd_ok r hk
  obtain ⟨u, h2, hk⟩ := xopd_ok r hk
  split at hk
  · split at hk
    · obtain ⟨b, hk, h3⟩ := xaeqC_ok (P := P) hk
      cases neg <;> cases b <;>
      · refine ⟨_, _, _, _, hk, rh, ?_⟩
        rintro S ⟨A, ro, E, rfl⟩ mv K hK
        simp only [stepOp, h1, h2, CA.to, h3 _ ⟨A, ro, E, rfl⟩]
        exact hK
    · exact absurd hk Bool.false_ne_true
  · exact absurd hk Bool.false_ne_true

theorem un_ok (r : RT t ts) (rh : RH P h hl) {op : UnOp} {x : IOpd} (hk : xUnO op x X t h k = true) : StepOk P (.un op x) ts hl k := by
  obtain ⟨v, h1, hk⟩ := xopd_ok r hk
  split at hk
  · obtain ⟨b, rfl, hk⟩ := xbval_ok hk
    cases b <;>
    · refine ⟨_, _, _, _, hk, rh, ?_⟩
      rintro S ⟨A, ro, E, rfl⟩ mv K hK
      simp only [stepOp, h1, CA.to, CD.to]
      exact hK
  · split at hk
    · rw [fI_eq] at hk
      obtain ⟨h3, hk⟩ := reqB_ok hk
      refine ⟨_, _, _, _, hk, rh, ?_⟩
      rintro S ⟨A, ro, E, rfl⟩ mv K hK
      simp only [stepOp, h1, CA.to, CD.to]
      exact And.intro (inrB_ok h3) hK
    · exact absurd hk Bool.false_ne_true
  · exact absurd hk Bool.false_ne_true

theorem conv_ok (r : RT t ts) (rh : RH P h hl) {kd : IntKind} {x : IOpd} (hk : xConvO kd x X t h k = true) : StepOk P (.conv kd x) ts hl k := by
  obtain ⟨v, h1, hk⟩ := xopd_ok r hk
  split at hk
  · rw [fI_eq] at hk
    refine ⟨_, _, _, _, hk, rh, ?_⟩
    rintro S ⟨A, ro, E, rfl⟩ mv K hK
    simp only [stepOp, h1, CA.to, CD.to]
    exact hK
  · exact absurd hk Bool.false_ne_true

theorem mkfn_ok (r : RT t ts) (rh : RH P h hl) {f : FuncId} {a b : List IOpd} (hk : xMkfnO f a b X t h k = true) : StepOk P (.mkfn f a b) ts hl k := by
  obtain ⟨us, h1, hk⟩ := xopds_ok r hk
  obtain ⟨cs, h2, hk⟩ := xopds_ok r hk
  refine ⟨_, _, _, _, hk, rh, fun S _ mv K hK => ?_⟩
  simp only [stepOp, h1, h2]
  exact hK

theorem mkmap_ok (rh : RH P h hl) {wide : Bool} {ks : List IntKind} (hk : xMkmapO wide ks X t h k = true) : StepOk P (.mkmap wide ks) ts hl k := by
  obtain ⟨h', hk, hr⟩ := rh.adds hk
  refine ⟨_, _, _, _, hk, hr _ rfl, fun S _ mv K hK => ?_⟩
  exact hK

theorem mkmapv_ok (rh : RH P h hl) {wide : Bool} {ks : List IntKind} (hk : xMkmapvO wide ks X t h k = true) : StepOk P (.mkmapv wide ks) ts hl k := by
  obtain ⟨h', hk, hr⟩ := rh.adds hk
  refine ⟨_, _, _, _, hk, hr _ rfl, fun S _ mv K hK => ?_⟩
  exact hK

theorem rep_rows {A : Ann} {ro : Option Nat} {E : Ent} (zs : List CD) (n : Nat) : rowAt (CD.toR (List.replicate n zs)) = (std P A ro E).rep n (CD.toL zs) := by
  rw [CD.toR_eq, List.map_replicate, rowAt_rep]; rfl

theorem mkslice_ok (r : RT t ts) (rh : RH P h hl) {sz : Nat} {zs : List DV} {b : Nat} {n : IOpd} (hk : xMksliceO sz zs b n X t h k = true) : StepOk P (.mkslice sz zs b n) ts hl k := by
  obtain ⟨cs, ez, hk2⟩ := cdKL_ok hk
  clear hk
  subst ez
  obtain ⟨v, h1, hk⟩ := xopd_ok r hk2
  obtain ⟨n', rfl, hk⟩ := xival_ok hk
  obtain ⟨h2, hk⟩ := xle_ok hk
  obtain ⟨h3, hk⟩ := xle_ok hk
  have hk := natK_ok hk
  have hk := repK_ok hk
  obtain ⟨h', hk, hr⟩ := rh.adds hk
  refine ⟨_, _, _, _, hk, hr _ rfl, ?_⟩
  rintro S ⟨A, ro, E, rfl⟩ mv K hK
  simp only [stepOp, h1, CA.to, CD.to, ival]
  refine And.intro h2 (And.intro h3 ?_)
  rw [nat_std]
  rw [rep_rows (P := P) (A := A) (ro := ro) (E := E)] at hK
  exact hK

theorem slice_ok (r : RT t ts) (rh : RH P h hl) {sz : Nat} {x : IOpd} {lo hi mx : Option IOpd} (hk : xSliceO sz x lo hi mx X t h k = true) : StepOk P (.slice sz x lo hi mx) ts hl k := by
  obtain ⟨v, h1, hk⟩ := xopd_ok r hk
  obtain ⟨u, hk, h2⟩ := xstepSlice_ok (P := P) r hk
  refine ⟨_, _, _, _, hk, rh, fun S hS mv K hK => ?_⟩
  simp only [stepOp, h1]
  exact h2 S hS _ hK

theorem slarr_ok (r : RT t ts) (rh : RH P h hl) {n : Nat} {x : IOpd} {lo hi : Option IOpd} (hk : xSlarrO n x lo hi X t h k = true) : StepOk P (.slarr n x lo hi) ts hl k := by
  obtain ⟨v, h1, hk⟩ := xopd_ok r hk
  split at hk
  · obtain ⟨lo', hk, hlo⟩ := xbnd_ok r hk
    obtain ⟨hi', hk, hhi⟩ := xbnd_ok r hk
    obtain ⟨h2, hk⟩ := xle_ok hk
    obtain ⟨h3, hk⟩ := xle_ok hk
    obtain ⟨h4, hk⟩ := xle_ok hk
    have hk := natK_ok hk
    have hk := natK_ok hk
    rw [fN_eq] at hk
    split at hk
    · rename_i e
      refine ⟨_, _, _, _, hk, rh, ?_⟩
      rintro S ⟨A, ro, E, rfl⟩ mv K hK
      have e' : (std P A ro E).nsub (nat (std P A ro E) hi') (nat (std P A ro E) lo') = 0 := by rw [nat_std, nat_std]; exact e
      simp only [stepOp, h1, CA.to]
      refine hlo _ (hhi _ (And.intro h2 (And.intro h3 (And.intro h4 ?_))))
      rw [e']
      exact hK
    · rename_i m e
      refine ⟨_, _, _, _, hk, rh, ?_⟩
      rintro S ⟨A, ro, E, rfl⟩ mv K hK
      have e' : (std P A ro E).nsub (nat (std P A ro E) hi') (nat (std P A ro E) lo') = m + 1 := by rw [nat_std, nat_std]; exact e
      simp only [stepOp, h1, CA.to]
      refine hlo _ (hhi _ (And.intro h2 (And.intro h3 (And.intro h4 ?_))))
      rw [e', nat_std]
      exact hK
  · exact absurd hk Bool.false_ne_true

theorem faddr_ok (r : RT t ts) (rh : RH P h hl) {off : Nat} {x : IOpd} (hk : xFaddrO off x X t h k = true) : StepOk P (.faddr off x) ts hl k := by
  obtain ⟨v, h1, hk⟩ := xopd_ok r hk
  split at hk
  · rw [fN_eq] at hk
    exact ⟨_, _, _, _, hk, rh, fun S _ mv K hK => by simp only [stepOp, h1, CA.to]; exact hK⟩
  · rw [fN_eq] at hk
    exact ⟨_, _, _, _, hk, rh, fun S _ mv K hK => by simp only [stepOp, h1, CA.to]; exact hK⟩
  · rw [fN_eq] at hk
    exact ⟨_, _, _, _, hk, rh, fun S _ mv K hK => by simp only [stepOp, h1, CA.to]; exact hK⟩
  · exact absurd hk Bool.false_ne_true

theorem field_ok (r : RT t ts) (rh : RH P h hl) {off : Nat} {agg : Option Nat} {x : IOpd} (hk : xFieldO off agg x X t h k = true) : StepOk P (.field off agg x) ts hl k := by
  obtain ⟨v, h1, hk⟩ := xopd_ok r hk
  split at hk
  · cases agg with
    | none =>
      obtain ⟨v, h2, hk⟩ := getK_ok hk
      exact ⟨_, _, _, _, hk, rh, fun S _ mv K hK => by simp only [stepOp, h1, CA.to, CA.toL_get h2]; exact hK⟩
    | some n =>
      obtain ⟨c, h2, hk⟩ := cutK_ok CA.to hk
      refine ⟨_, _, _, _, hk, rh, fun S _ mv K hK => ?_⟩
      simp only [stepOp, h1, CA.to]
      rw [CA.toL_eq, h2, ← CA.toL_eq]
      exact hK
  · exact absurd hk Bool.false_ne_true

theorem iaddr_ok (r : RT t ts) (rh : RH P h hl) {sz : Nat} {x i : IOpd} (hk : xIaddrO sz x i X t h k = true) : StepOk P (.iaddr sz x i) ts hl k := by
  obtain ⟨v, h1, hk⟩ := xopd_ok r hk
  obtain ⟨n, rfl, hk⟩ := xival_ok hk
  obtain ⟨u, h2, hk⟩ := xopd_ok r hk
  obtain ⟨w, hk, h3⟩ := xstepIaddr_ok (P := P) hk
  refine ⟨_, _, _, _, hk, rh, fun S hS mv K hK => ?_⟩
  simp only [stepOp, h1, CA.to, CD.to, ival, h2]
  exact h3 S hS _ hK

theorem iaddrA_ok (r : RT t ts) (rh : RH P h hl) {n sz : Nat} {x i : IOpd} (hk : xIaddrAO n sz x i X t h k = true) : StepOk P (.iaddrA n sz x i) ts hl k := by
  obtain ⟨v, h1, hk⟩ := xopd_ok r hk
  obtain ⟨i', rfl, hk⟩ := xival_ok hk
  obtain ⟨u, h2, hk⟩ := xopd_ok r hk
  split at hk
  · cases i' with
    | l i' =>
      cases i' with
      | ofNat m =>
        obtain ⟨h3, hk⟩ := reqB_ok hk
        rw [fN_eq] at hk
        refine ⟨_, _, _, _, hk, rh, fun S _ mv K hK => ?_⟩
        have h4 : Int.beq' (Int.ofNat m) (Int.ofNat m) = true := by rw [ibeq_eq]; simp
        have e : (Int.ofNat m).toNat = m := rfl
        simp only [stepOp, h1, CA.to, CD.to, ival, h2, e, h3, h4, Bool.and_self, if_true]
        exact hK
      | negSucc m => exact absurd hk Bool.false_ne_true
    | v i' =>
      cases i' with
      | ofNat m =>
        obtain ⟨h3, hk⟩ := reqB_ok hk
        rw [fN_eq] at hk
        refine ⟨_, _, _, _, hk, rh, ?_⟩
        rintro S ⟨A, ro, E, rfl⟩ mv K hK
        have h4 : m < n := Nat.le_of_ble_eq_true h3
        simp only [stepOp, h1, CA.to, CD.to, ival, h2]
        exact ⟨⟨Int.natCast_nonneg m, Int.ofNat_lt.2 h4⟩, hK⟩
      | negSucc m => exact absurd hk Bool.false_ne_true
  · exact absurd hk Bool.false_ne_true

theorem wide_ok {a b k : Bool} (h : reqB (match a with | true => b | false => Bool.not b) k = true) : a = b ∧ k = true := by
  obtain ⟨h1, h2⟩ := reqB_ok h
  exact ⟨(by cases a <;> cases b <;> first | rfl | cases h1), h2⟩

theorem lookup_ok (r : RT t ts) (rh : RH P h hl) {wide : Bool} {ks : List IntKind} {ok : Bool} {m kx : IOpd} (hk : xLookupO wide ks ok m kx X t h k = true) : StepOk P (.lookup wide ks ok m kx) ts hl k := by
  obtain ⟨v, h1, hk⟩ := xopd_ok r hk
  split at hk
  · obtain ⟨o, ao, h2, hR, hk⟩ := rh.gets hk
    cases o with
    | map wide' ks' n es =>
      cases hR
      obtain ⟨h3, hk⟩ := wide_ok hk
      obtain ⟨h4, hk⟩ := reqB_ok hk
      have h4 := ksEq_ok h4
      obtain ⟨u, h5, hk⟩ := xopd_ok r hk
      obtain ⟨kc, hk, h6⟩ := xkshape_ok (P := P) hk
      have hk := xlook_ok hk
      split at hk
      · rename_i e
        cases ok with
        | true =>
          refine ⟨_, _, _, _, hk, rh, ?_⟩
          rintro S ⟨A, ro, E, rfl⟩ mv K hK
          simp only [stepOp, h1, CA.to, h2, h3, h4, and_self, if_true, h5]
          subst h3 h4
          refine h6 _ ⟨A, ro, E, rfl⟩ _ ?_
          simp only [std, e]
          exact hK
        | false =>
          refine ⟨_, _, _, _, hk, rh, ?_⟩
          rintro S ⟨A, ro, E, rfl⟩ mv K hK
          simp only [stepOp, h1, CA.to, h2, h3, h4, and_self, if_true, h5]
          subst h3 h4
          refine h6 _ ⟨A, ro, E, rfl⟩ _ ?_
          simp only [std, e]
          exact hK
      · rename_i e
        cases ok with
        | true =>
          refine ⟨_, _, _, _, hk, rh, ?_⟩
          rintro S ⟨A, ro, E, rfl⟩ mv K hK
          simp only [stepOp, h1, CA.to, h2, h3, h4, and_self, if_true, h5]
          subst h3 h4
          refine h6 _ ⟨A, ro, E, rfl⟩ _ ?_
          simp only [std, e]
          exact hK
        | false =>
          refine ⟨_, _, _, _, hk, rh, ?_⟩
          rintro S ⟨A, ro, E, rfl⟩ mv K hK
          simp only [stepOp, h1, CA.to, h2, h3, h4, and_self, if_true, h5]
          subst h3 h4
          refine h6 _ ⟨A, ro, E, rfl⟩ _ ?_
          simp only [std, e]
          exact hK
    | _ => exact absurd hk Bool.false_ne_true
  · exact absurd hk Bool.false_ne_true

theorem mapupd_ok (r : RT t ts) (rh : RH P h hl) {wide : Bool} {ks : List IntKind} {m kx x : IOpd} (hk : xMapupdO wide ks m kx x X t h k = true) : StepOk P (.mapupd wide ks m kx x) ts hl k := by
  obtain ⟨v, h1, hk⟩ := xopd_ok r hk
  split at hk
  · obtain ⟨o, ao, h2, hR, hk⟩ := rh.gets hk
    cases o with
    | map wide' ks' n es =>
      cases hR
      obtain ⟨h3, hk⟩ := wide_ok hk
      obtain ⟨h4, hk⟩ := reqB_ok hk
      have h4 := ksEq_ok h4
      obtain ⟨u, h5, hk⟩ := xopd_ok r hk
      obtain ⟨kc, hk, h6⟩ := xkshape_ok (P := P) hk
      obtain ⟨w, h7, hk⟩ := xopd_ok r hk
      obtain ⟨x', rfl, hk⟩ := xival_ok hk
      have hk := xlook_ok hk
      have hm : ∀ (A : Ann) (ro : Option Nat) (E : Ent), (std P A ro E).mset (alook es) kc x'.val = alook ((kc, x'.val) :: es) := fun _ _ _ => rfl
      split at hk
      · rename_i e
        obtain ⟨h', hk, hr⟩ := rh.sets hk
        refine ⟨_, _, _, _, hk, hr _ rfl, ?_⟩
        rintro S ⟨A, ro, E, rfl⟩ mv K hK
        have hc : (std P A ro E).mcnt (alook es) kc n = n := by simp only [std, e]; rfl
        simp only [stepOp, h1, CA.to, h2, h3, h4, and_self, if_true, h5, h7]
        subst h3 h4
        refine h6 _ ⟨A, ro, E, rfl⟩ _ ?_
        simp only [CD.to, ival, hm, hc]
        exact hK
      · rename_i e
        rw [fN_eq] at hk
        obtain ⟨h', hk, hr⟩ := rh.sets hk
        refine ⟨_, _, _, _, hk, hr _ rfl, ?_⟩
        rintro S ⟨A, ro, E, rfl⟩ mv K hK
        have hc : (std P A ro E).mcnt (alook es) kc n = n + 1 := by simp only [std, e]; rfl
        simp only [stepOp, h1, CA.to, h2, h3, h4, and_self, if_true, h5, h7]
        subst h3 h4
        refine h6 _ ⟨A, ro, E, rfl⟩ _ ?_
        simp only [CD.to, ival, hm, hc]
        exact hK
    | _ => exact absurd hk Bool.false_ne_true
  · exact absurd hk Bool.false_ne_true

theorem lookupv_ok (r : RT t ts) (rh : RH P h hl) {wide : Bool} {ks : List IntKind} {ok : Bool} {z : AV} {m kx : IOpd} (hk : xLookupvO wide ks ok z m kx X t h k = true) : StepOk P (.lookupv wide ks ok z m kx) ts hl k := by
  obtain ⟨z, ez, hk2⟩ := caK_ok hk
  clear hk
  subst ez
  obtain ⟨v, h1, hk⟩ := xopd_ok r hk2
  split at hk
  · obtain ⟨o, ao, h2, hR, hk⟩ := rh.gets hk
    cases o with
    | mapv wide' ks' keys vals =>
      cases hR
      obtain ⟨h3, hk⟩ := wide_ok hk
      obtain ⟨h4, hk⟩ := reqB_ok hk
      have h4 := ksEq_ok h4
      obtain ⟨u, h5, hk⟩ := xopd_ok r hk
      obtain ⟨kc, hk, h6⟩ := xkshape_ok (P := P) hk
      obtain ⟨q, hk, e⟩ := xkfind_ok hk
      cases q with
      | some q =>
        cases ok with
        | true =>
          refine ⟨_, _, _, _, hk, rh, fun S hS mv K hK => ?_⟩
          simp only [stepOp, h1, CA.to, h2, h3, h4, and_self, if_true, h5]
          subst h3 h4
          refine h6 _ hS _ ?_
          simp only [e]
          exact hK
        | false =>
          refine ⟨_, _, _, _, hk, rh, fun S hS mv K hK => ?_⟩
          simp only [stepOp, h1, CA.to, h2, h3, h4, and_self, if_true, h5]
          subst h3 h4
          refine h6 _ hS _ ?_
          simp only [e]
          exact hK
      | none =>
        cases ok with
        | true =>
          refine ⟨_, _, _, _, hk, rh, fun S hS mv K hK => ?_⟩
          simp only [stepOp, h1, CA.to, h2, h3, h4, and_self, if_true, h5]
          subst h3 h4
          refine h6 _ hS _ ?_
          simp only [e]
          exact hK
        | false =>
          refine ⟨_, _, _, _, hk, rh, fun S hS mv K hK => ?_⟩
          simp only [stepOp, h1, CA.to, h2, h3, h4, and_self, if_true, h5]
          subst h3 h4
          refine h6 _ hS _ ?_
          simp only [e]
          exact hK
    | _ => exact absurd hk Bool.false_ne_true
  · exact absurd hk Bool.false_ne_true

theorem mapupdv_ok (r : RT t ts) (rh : RH P h hl) {wide : Bool} {ks : List IntKind} {m kx x : IOpd} (hk : xMapupdvO wide ks m kx x X t h k = true) : StepOk P (.mapupdv wide ks m kx x) ts hl k := by
  obtain ⟨v, h1, hk⟩ := xopd_ok r hk
  split at hk
  · obtain ⟨o, ao, h2, hR, hk⟩ := rh.gets hk
    cases o with
    | mapv wide' ks' keys vals =>
      cases hR
      obtain ⟨h3, hk⟩ := wide_ok hk
      obtain ⟨h4, hk⟩ := reqB_ok hk
      have h4 := ksEq_ok h4
      obtain ⟨u, h5, hk⟩ := xopd_ok r hk
      obtain ⟨kc, hk, h6⟩ := xkshape_ok (P := P) hk
      obtain ⟨w, h7, hk⟩ := xopd_ok r hk
      obtain ⟨q, hk, e⟩ := xkset_ok hk
      cases q with
      | some q =>
        obtain ⟨h', hk, hr⟩ := rh.sets hk
        refine ⟨_, _, _, _, hk, hr _ rfl, fun S hS mv K hK => ?_⟩
        simp only [stepOp, h1, CA.to, h2, h3, h4, and_self, if_true, h5, h7]
        subst h3 h4
        refine h6 _ hS _ ?_
        simp only [e]
        exact hK
      | none =>
        have hk := appK_ok hk
        have hk := appK_ok hk
        obtain ⟨h', hk, hr⟩ := rh.sets hk
        refine ⟨_, _, _, _, hk, hr _ rfl, fun S hS mv K hK => ?_⟩
        simp only [stepOp, h1, CA.to, h2, h3, h4, and_self, if_true, h5, h7]
        subst h3 h4
        refine h6 _ hS _ ?_
        simp only [e]
        simpa only [CA.to, e, Option.map_none, lapp_eq, CA.toL_eq, List.map_append, List.map_cons, List.map_nil] using hK
    | _ => exact absurd hk Bool.false_ne_true
  · exact absurd hk Bool.false_ne_true

theorem extract_ok (r : RT t ts) (rh : RH P h hl) {x : IOpd} {i : Nat} (hk : xExtractO x i X t h k = true) : StepOk P (.extract x i) ts hl k := by
  obtain ⟨v, h1, hk⟩ := xopd_ok r hk
  split at hk
  · obtain ⟨v, h2, hk⟩ := getK_ok hk
    exact ⟨_, _, _, _, hk, rh, fun S _ mv K hK => by simp only [stepOp, h1, CA.to, CA.toL_get h2]; exact hK⟩
  · exact absurd hk Bool.false_ne_true

theorem to_agg {v : CA} {cs : List AV} (h : v.to = .agg cs) : ∃ ds, v = .agg ds := by
  cases v <;> simp [CA.to] at h
  exact ⟨_, rfl⟩

theorem to_ptr {v : CA} {l o : Nat} (h : v.to = .ptr l o) : v = .ptr l o := by
  cases v <;> simp [CA.to] at h
  obtain ⟨rfl, rfl⟩ := h
  rfl

theorem extractF_ok (r : RT t ts) (rh : RH P h hl) {x : IOpd} {i : Nat} (hk : xExtractFO x i X t h k = true) : StepOk P (.extractF x i) ts hl k := by
  obtain ⟨v, h1, hk⟩ := xopd_ok r hk
  split at hk
  · obtain ⟨v, h2, hk⟩ := getK_ok hk
    have h2 := CA.toL_get h2
    split at hk
    · obtain ⟨cs', h', hl', hk, rh', h3⟩ := xfreezeC_ok rh hk
      refine ⟨_, _, _, _, hk, rh', fun S hS mv K hK => ?_⟩
      simp only [stepOp, h1, CA.to, h2]
      exact h3 S hS _ hK
    · obtain ⟨v', h', hl', hk, rh', h3⟩ := xfreezePtr_ok rh hk
      refine ⟨_, _, _, _, hk, rh', fun S hS mv K hK => ?_⟩
      simp only [stepOp, h1, CA.to, h2]
      exact h3 S hS _ hK
    · rename_i v hne hne2
      obtain ⟨v', h', hl', hk, rh', h3⟩ := xfreeze_ok rh hk
      refine ⟨_, _, _, _, hk, rh', fun S hS mv K hK => ?_⟩
      simp only [stepOp, h1, CA.to, h2]
      split
      · rename_i cs e
        injection e with e
        obtain ⟨ds, rfl⟩ := to_agg e
        exact absurd rfl (hne ds)
      · rename_i l e
        injection e with e
        have := to_ptr e
        exact absurd this (hne2 l)
      · rename_i u _ _ e
        injection e with e
        subst e
        exact h3 S hS _ hK
      · rename_i e; cases e
  · exact absurd hk Bool.false_ne_true

theorem appendP_ok (r : RT t ts) (rh : RH P h hl) {sz b : Nat} {x y : IOpd} (hk : xAppendPO sz b x y X t h k = true) : StepOk P (.appendP sz b x y) ts hl k := by
  obtain ⟨v, h1, hk⟩ := xopd_ok r hk
  obtain ⟨u, h2, hk⟩ := xopd_ok r hk
  split at hk
  · split at hk
    · exact ⟨_, _, _, _, hk, rh, fun S _ mv K hK => by simp only [stepOp, h1, h2, CA.to, CD.to]; exact hK⟩
    · obtain ⟨h3, hk⟩ := reqB_ok hk
      obtain ⟨h4, hk⟩ := ble_ok hk
      refine ⟨_, _, _, _, hk, rh, ?_⟩
      rintro S ⟨A, ro, E, rfl⟩ mv K hK
      simp only [stepOp, h1, h2, CA.to, CD.to, if_pos h3]
      exact ⟨h4, hK⟩
    · exact absurd hk Bool.false_ne_true
  · exact absurd hk Bool.false_ne_true

theorem xkidx_ok {kc : List KC} {ks : List (List KC)} : ∀ {n : Nat} {k : Option Nat → Bool}, xkidx kc ks n k = true → k (kidx kc ks n) = true := by
  induction ks with
  | nil => intro n k hk; exact hk
  | cons k' ks ih =>
    intro n k hk
    unfold xkidx at hk
    cases e : kcEq kc k' with
    | true =>
      rw [e] at hk
      have : kc = k' := by rw [kcEq_eq] at e; exact of_decide_eq_true e
      rw [kidx, if_pos this.symm]
      exact hk
    | false =>
      rw [e] at hk
      have : ¬ kc = k' := by rw [kcEq_eq] at e; exact of_decide_eq_false e
      rw [kidx, if_neg (fun h => this h.symm)]
      exact ih hk

theorem mapent_ok (r : RT t ts) (rh : RH P h hl) {wide : Bool} {ks : List IntKind} {z : AV} {m kx : IOpd} (hk : xMapentO wide ks z m kx X t h k = true) : StepOk P (.mapent wide ks z m kx) ts hl k := by
  obtain ⟨z, ez, hk2⟩ := caK_ok hk
  clear hk
  subst ez
  obtain ⟨v, h1, hk⟩ := xopd_ok r hk2
  split at hk
  · obtain ⟨o, ao, h2, hR, hk⟩ := rh.gets hk
    cases o with
    | mapv wide' ks' keys vals =>
      cases hR
      obtain ⟨h3, hk⟩ := wide_ok hk
      obtain ⟨h4, hk⟩ := reqB_ok hk
      have h4 := ksEq_ok h4
      obtain ⟨u, h5, hk⟩ := xopd_ok r hk
      obtain ⟨kc, hk, h6⟩ := xkshape_ok (P := P) hk
      have hk := xkidx_ok hk
      cases e : kidx kc keys 0 with
      | some i =>
        rw [e] at hk
        obtain ⟨y, h7, hk⟩ := getK_ok hk
        have h7 := CA.toL_get h7
        refine ⟨_, _, _, _, hk, rh, ?_⟩
        rintro S ⟨A, ro, E, rfl⟩ mv K hK
        simp only [stepOp, h1, CA.to, h2, h3, h4, and_self, if_true, h5]
        subst h3 h4
        refine h6 _ ⟨A, ro, E, rfl⟩ _ ?_
        simp only [e, h7]
        exact hK
      | none =>
        rw [e] at hk
        have hk := lenK_ok hk
        have hk := appK_ok hk
        have hk := appK_ok hk
        obtain ⟨h', hk, hr⟩ := rh.sets hk
        refine ⟨_, _, _, _, hk, hr _ rfl, ?_⟩
        rintro S ⟨A, ro, E, rfl⟩ mv K hK
        simp only [stepOp, h1, CA.to, h2, h3, h4, and_self, if_true, h5]
        subst h3 h4
        refine h6 _ ⟨A, ro, E, rfl⟩ _ ?_
        simp only [e]
        have hn : (std P A ro E).ofNat (llen keys) = Int.ofNat (Nat.zero + keys.length) := by
          rw [llen_eq, show Nat.zero + keys.length = keys.length from Nat.zero_add _]; rfl
        rw [hn]
        simpa only [CA.to, CA.toL, CD.to, lapp_eq, CA.toL_eq, List.map_append, List.map_cons, List.map_nil] using hK
    | _ => exact absurd hk Bool.false_ne_true
  · exact absurd hk Bool.false_ne_true

theorem entst_ok (r : RT t ts) (rh : RH P h hl) {m s x : IOpd} (hk : xEntstO m s x X t h k = true) : StepOk P (.entst m s x) ts hl k := by
  obtain ⟨v, h1, hk⟩ := xopd_ok r hk
  split at hk
  · obtain ⟨o, ao, h2, hR, hk⟩ := rh.gets hk
    cases o with
    | mapv wide ks keys vals =>
      cases hR
      obtain ⟨u, h5, hk⟩ := xopd_ok r hk
      obtain ⟨n, rfl, hk⟩ := xival_ok hk
      have hk := lenK_ok hk
      obtain ⟨hk, h6⟩ := xidx_ok (P := P) hk
      obtain ⟨y, h7, hk⟩ := xopd_ok r hk
      have hk := setK_ok hk
      obtain ⟨h', hk, hr⟩ := rh.sets hk.2
      refine ⟨_, _, _, _, hk, hr _ rfl, fun S hS mv K hK => ?_⟩
      simp only [stepOp, h1, CA.to, h2, h5, CD.to, ival, h7]
      have hn : llen (CA.toL vals) = Nat.zero + vals.length := by
        rw [llen_eq, CA.toL_eq, List.length_map]
        exact (Nat.zero_add _).symm
      rw [hn]
      refine h6 S hS _ ?_
      simpa only [CA.to, lset_eq, CA.toL_eq, List.map_set] using hK
    | _ => exact absurd hk Bool.false_ne_true
  · exact absurd hk Bool.false_ne_true

end
end Go.Vf


namespace Go.Vf
open Go

section
variable {P : Program} {X : XS} {t : TS} {ts : List AV} {h : CH} {hl : List AObj} {k : CA → CH → List Nat → Bool}

theorem fnOfC_to (v : CA) : fnOf v.to = (fnOfC v).to := by
  cases v with
  | d x =>
    cases x with
    | raw u =>
      cases u with
      | func c us vs =>
        cases c with
        | func f =>
          simp only [fnOfC, fnOf, CA.to, CD.to]
          show (if (Nat.beq us.size 0 && Nat.beq vs.size 0) = true then _ else _) = CA.to (match Nat.beq us.size 0 with | true => _ | false => _)
          cases Nat.beq us.size 0 <;> cases Nat.beq vs.size 0 <;> rfl
        | _ => rfl
      | _ => rfl
    | _ => rfl
  | _ => rfl

theorem call_ok (x : XOk P X) (r : RT t ts) (rh : RH P h hl) {f : IOpd} {args : List IOpd} {m : Mode} (hk : xCallO f args m X t h k = true) : StepOk P (.call f args m) ts hl k := by
  obtain ⟨v, h1, hk⟩ := xopd_ok r hk
  have h1 : fnOf (opd ts f) = (fnOfC v).to := by rw [h1, fnOfC_to]
  revert h1 hk
  generalize fnOfC v = v
  intro hk h1
  split at hk
  · rename_i g first cap
    obtain ⟨as, h2, hk⟩ := xopds_ok r hk
    have hk := appK_ok hk
    have hk := appK_ok hk
    have e : lapp (CA.toL first) (lapp (CA.toL as) (CA.toL cap)) = CA.toL (first ++ (as ++ cap)) := by
      rw [lapp_eq, lapp_eq, CA.toL_eq, CA.toL_eq, CA.toL_eq, CA.toL_eq]; simp
    cases m with
    | borrow =>
      obtain ⟨vs, hk, h3⟩ := xpeekL_ok rh hk
      obtain ⟨h4, hk⟩ := freesK_ok hk
      obtain ⟨ws, hk, h5⟩ := xnormL_ok _ hk
      obtain ⟨u, hk, h6⟩ := x.pcall hk
      refine ⟨_, _, _, _, hk, rh, ?_⟩
      rintro S ⟨A, ro, E, rfl⟩ mv K hK
      simp only [stepOp, h1, CA.to, h2, e]
      refine h3 _ ⟨A, ro, E, rfl⟩ _ ?_
      simp only [h4, if_true]
      rw [← h5]
      exact ⟨_, h6, hK⟩
    | share =>
      obtain ⟨vs, h', hl', hk, rh', h3⟩ := xfreezeL_ok rh hk
      obtain ⟨h4, hk⟩ := freesK_ok hk
      obtain ⟨ws, hk, h5⟩ := xnormL_ok _ hk
      obtain ⟨u, hk, h6⟩ := x.pcall hk
      refine ⟨_, _, _, _, hk, rh', ?_⟩
      rintro S ⟨A, ro, E, rfl⟩ mv K hK
      simp only [stepOp, h1, CA.to, h2, e]
      refine h3 _ ⟨A, ro, E, rfl⟩ _ ?_
      simp only [h4, if_true]
      rw [← h5]
      exact ⟨_, h6, hK⟩
    | data =>
      obtain ⟨h4, hk⟩ := freesK_ok hk
      obtain ⟨ws, hk, h5⟩ := xnormL_ok _ hk
      obtain ⟨u, hk, h6⟩ := x.pcall hk
      refine ⟨_, _, _, _, hk, rh, ?_⟩
      rintro S ⟨A, ro, E, rfl⟩ mv K hK
      simp only [stepOp, h1, CA.to, h2, e, h4, if_true]
      rw [← h5]
      exact ⟨_, h6, hK⟩
    | raw =>
      obtain ⟨ws, hk, h5⟩ := xnormL_ok _ hk
      obtain ⟨pg, u, h', hl', hk, rh', h6⟩ := x.call rh hk
      refine ⟨_, _, _, _, hk, rh', ?_⟩
      rintro S ⟨A, ro, E, rfl⟩ mv K hK
      simp only [stepOp, h1, CA.to, h2, e]
      rw [← h5]
      exact h6 (fun pg v h'' => K v h'' pg) hK
    | fresh => exact absurd hk Bool.false_ne_true
  · rename_i l
    split at hk
    · obtain ⟨as, h2, hk⟩ := xopds_ok r hk
      obtain ⟨ws, hk, h5⟩ := xnormL_ok _ hk
      obtain ⟨pg, u, h', hl', hk, rh', h6⟩ := x.yld rh hk
      refine ⟨_, _, _, _, hk, rh', ?_⟩
      rintro S ⟨A, ro, E, rfl⟩ mv K hK
      simp only [stepOp, h1, CA.to, h2, if_true]
      rw [← h5]
      exact h6 (fun pg v h'' => K v h'' pg) hK
    · exact absurd hk Bool.false_ne_true
  · exact absurd hk Bool.false_ne_true

theorem len_ok (r : RT t ts) (rh : RH P h hl) {x : IOpd} (hk : xLenO x X t h k = true) : StepOk P (.len x) ts hl k := by
  obtain ⟨v, h1, hk⟩ := xopd_ok r hk
  split at hk <;> first
    | exact absurd hk Bool.false_ne_true
    | (refine ⟨_, _, _, _, hk, rh, ?_⟩
       rintro S ⟨A, ro, E, rfl⟩ mv K hK
       simp only [stepOp, h1, CA.to, CD.to]
       exact hK)

theorem lenm_ok (r : RT t ts) (rh : RH P h hl) {x : IOpd} (hk : xLenmO x X t h k = true) : StepOk P (.lenm x) ts hl k := by
  obtain ⟨v, h1, hk⟩ := xopd_ok r hk
  split at hk
  · obtain ⟨o, ao, h2, hR, hk⟩ := rh.gets hk
    cases o with
    | map wide' ks' n es =>
      cases hR
      refine ⟨_, _, _, _, hk, rh, ?_⟩
      rintro S ⟨A, ro, E, rfl⟩ mv K hK
      simp only [stepOp, h1, CA.to, h2]
      exact hK
    | _ => exact absurd hk Bool.false_ne_true
  · exact absurd hk Bool.false_ne_true

theorem cap_ok (r : RT t ts) (rh : RH P h hl) {x : IOpd} (hk : xCapO x X t h k = true) : StepOk P (.cap x) ts hl k := by
  obtain ⟨v, h1, hk⟩ := xopd_ok r hk
  split at hk
  · obtain ⟨o, ao, h2, hR, hk⟩ := rh.gets hk
    cases o with
    | arr sz' n' e =>
      cases hR
      obtain ⟨h3, hk⟩ := reqB_ok hk
      split at hk
      · refine ⟨_, _, _, _, hk, rh, ?_⟩
        rintro S ⟨A, ro, E, rfl⟩ mv K hK
        simp only [stepOp, h1, CA.to, h2, h3, if_true]
        exact hK
      · split at hk
        · refine ⟨_, _, _, _, hk, rh, ?_⟩
          rintro S ⟨A, ro, E, rfl⟩ mv K hK
          simp only [stepOp, h1, CA.to, h2, h3, if_true]
          exact hK
        · rw [fN_eq] at hk
          refine ⟨_, _, _, _, hk, rh, ?_⟩
          rintro S ⟨A, ro, E, rfl⟩ mv K hK
          simp only [stepOp, h1, CA.to, h2, h3, if_true]
          exact hK
    | _ => exact absurd hk Bool.false_ne_true
  · exact absurd hk Bool.false_ne_true

theorem min_ok (r : RT t ts) (rh : RH P h hl) {x y : IOpd} (hk : xMinO x y X t h k = true) : StepOk P (.min x y) ts hl k := by
  obtain ⟨v, h1, hk⟩ := xopd_ok r hk
  obtain ⟨u, h2, hk⟩ := xopd_ok r hk
  split at hk
  · split at hk
    · obtain ⟨h3, hk⟩ := reqB_ok hk
      have e := kEq_ok h3
      split at hk
      · rename_i c
        rw [xlt_eq] at c
        refine ⟨_, _, _, _, hk, rh, ?_⟩
        rintro S ⟨A, ro, E, rfl⟩ mv K hK
        simp only [stepOp, h1, h2, CA.to, CD.to, e, if_true]
        simp only [std, c, if_true]
        rw [e] at hK
        exact hK
      · rename_i c
        rw [xlt_eq] at c
        refine ⟨_, _, _, _, hk, rh, ?_⟩
        rintro S ⟨A, ro, E, rfl⟩ mv K hK
        simp only [stepOp, h1, h2, CA.to, CD.to, e, if_true]
        simp only [std, c]
        rw [e] at hK
        exact hK
    · exact absurd hk Bool.false_ne_true
  · exact absurd hk Bool.false_ne_true

theorem max_ok (r : RT t ts) (rh : RH P h hl) {x y : IOpd} (hk : xMaxO x y X t h k = true) : StepOk P (.max x y) ts hl k := by
  obtain ⟨v, h1, hk⟩ := xopd_ok r hk
  obtain ⟨u, h2, hk⟩ := xopd_ok r hk
  split at hk
  · split at hk
    · obtain ⟨h3, hk⟩ := reqB_ok hk
      have e := kEq_ok h3
      split at hk
      · rename_i c
        rw [xlt_eq] at c
        refine ⟨_, _, _, _, hk, rh, ?_⟩
        rintro S ⟨A, ro, E, rfl⟩ mv K hK
        simp only [stepOp, h1, h2, CA.to, CD.to, e, if_true]
        simp only [std, c, if_true]
        rw [e] at hK
        exact hK
      · rename_i c
        rw [xlt_eq] at c
        refine ⟨_, _, _, _, hk, rh, ?_⟩
        rintro S ⟨A, ro, E, rfl⟩ mv K hK
        simp only [stepOp, h1, h2, CA.to, CD.to, e, if_true]
        simp only [std, c]
        rw [e] at hK
        exact hK
    · exact absurd hk Bool.false_ne_true
  · exact absurd hk Bool.false_ne_true

theorem append_ok (r : RT t ts) (rh : RH P h hl) {sz b : Nat} {x y : IOpd} {mu : Bool} (hk : xAppendO sz b x y mu X t h k = true) : StepOk P (.append sz b x y mu) ts hl k := by
  obtain ⟨v, h1, hk⟩ := xopd_ok r hk
  obtain ⟨u, h2, hk⟩ := xopd_ok r hk
  obtain ⟨w, h', hl', pg, hk, rh', h3⟩ := xstepAppend_ok rh hk
  refine ⟨_, _, _, _, hk, rh', fun S hS mv K hK => ?_⟩
  simp only [stepOp, h1, h2]
  exact h3 S hS _ hK

theorem copy_ok (r : RT t ts) (rh : RH P h hl) {sz : Nat} {x y : IOpd} (hk : xCopyO sz x y X t h k = true) : StepOk P (.copy sz x y) ts hl k := by
  obtain ⟨v, h1, hk⟩ := xopd_ok r hk
  obtain ⟨u, h2, hk⟩ := xopd_ok r hk
  obtain ⟨w, h', hl', hk, rh', h3⟩ := xstepCopy_ok rh hk
  refine ⟨_, _, _, _, hk, rh', fun S hS mv K hK => ?_⟩
  simp only [stepOp, h1, h2]
  exact h3 S hS _ hK

theorem appendIn_ok (r : RT t ts) (rh : RH P h hl) {sz : Nat} {x y : IOpd} (hk : xAppendInO sz x y X t h k = true) : StepOk P (.appendIn sz x y) ts hl k := by
  obtain ⟨v, h1, hk⟩ := xopd_ok r hk
  obtain ⟨u, h2, hk⟩ := xopd_ok r hk
  obtain ⟨w, h', hl', hk, rh', h3⟩ := xstepAppIn_ok rh hk
  refine ⟨_, _, _, _, hk, rh', fun S hS mv K hK => ?_⟩
  simp only [stepOp, h1, h2]
  exact h3 S hS _ hK

theorem clear_ok (r : RT t ts) (rh : RH P h hl) {sz : Nat} {zs : List DV} {x : IOpd} (hk : xClearO sz zs x X t h k = true) : StepOk P (.clear sz zs x) ts hl k := by
  obtain ⟨cs, ez, hk2⟩ := cdKL_ok hk
  clear hk
  subst ez
  obtain ⟨v, h1, hk⟩ := xopd_ok r hk2
  split at hk
  · obtain ⟨h2, hk⟩ := reqB_ok hk
    obtain ⟨o, ao, h3, hR, hk⟩ := rh.gets hk
    cases o with
    | arr sz'' n' e =>
      cases hR
      obtain ⟨h4, hk⟩ := reqB_ok hk
      have hk := addK_ok (P := P) (A := {}) (ro := none) (E := E0) hk
      obtain ⟨h6, hk⟩ := ble_ok hk
      have hk := repK_ok hk
      obtain ⟨h7, h8, hk⟩ := segK_ok hk
      obtain ⟨h', hk, hr⟩ := rh.sets hk
      refine ⟨_, _, _, _, hk, hr _ rfl, ?_⟩
      rintro S ⟨A, ro, E, rfl⟩ mv K hK
      simp only [stepOp, h1, CA.to, h2, h3, h4, if_true]
      rw [put_rows (P := P) (A := A) (ro := ro) (E := E) h7 h8, xstartN_eq, rep_rows (P := P) (A := A) (ro := ro) (E := E)] at hK
      exact And.intro h6 hK
    | _ => exact absurd hk Bool.false_ne_true
  · exact absurd hk Bool.false_ne_true

theorem isnil_ok (r : RT t ts) (rh : RH P h hl) {neg : Bool} {x : IOpd} (hk : xIsnilO neg x X t h k = true) : StepOk P (.isnil neg x) ts hl k := by
  obtain ⟨v, h1, hk⟩ := xopd_ok r hk
  split at hk
  · cases neg <;>
    · refine ⟨_, _, _, _, hk, rh, ?_⟩
      rintro S ⟨A, ro, E, rfl⟩ mv K hK
      simp only [stepOp, h1, CA.to, CD.to]
      exact hK
  · obtain ⟨h2, hk⟩ := blt_ok hk
    refine ⟨_, _, _, _, hk, rh, ?_⟩
    rintro S ⟨A, ro, E, rfl⟩ mv K hK
    simp only [stepOp, h1, CA.to, CD.to]
    exact And.intro h2 hK
  · obtain ⟨h2, hk⟩ := blt_ok hk
    refine ⟨_, _, _, _, hk, rh, ?_⟩
    rintro S ⟨A, ro, E, rfl⟩ mv K hK
    simp only [stepOp, h1, CA.to]
    exact And.intro h2 hK
  · obtain ⟨h2, hk⟩ := blt_ok hk
    refine ⟨_, _, _, _, hk, rh, ?_⟩
    rintro S ⟨A, ro, E, rfl⟩ mv K hK
    simp only [stepOp, h1, CA.to]
    exact And.intro h2 hK
  · exact absurd hk Bool.false_ne_true

theorem slicex_ok (r : RT t ts) (rh : RH P h hl) {sz : Nat} {x : IOpd} {lo hi : Option IOpd} (hk : xSlicexO sz x lo hi X t h k = true) : StepOk P (.slicex sz x lo hi) ts hl k := by
  obtain ⟨v, h1, hk⟩ := xopd_ok r hk
  split at hk
  · obtain ⟨h2, hk⟩ := reqB_ok hk
    obtain ⟨o, ao, h3, hR, hk⟩ := rh.gets hk
    cases o with
    | arr sz'' n' e =>
      cases hR
      obtain ⟨h4, hk⟩ := reqB_ok hk
      obtain ⟨lo', hk, hlo⟩ := xbnd_ok r hk
      obtain ⟨hi', hk, hhi⟩ := xbnd_ok r hk
      obtain ⟨h5, hk⟩ := xle_ok hk
      obtain ⟨h6, hk⟩ := xle_ok hk
      have hk := natK_ok hk
      have hk := addK_ok (P := P) (A := {}) (ro := none) (E := E0) hk
      obtain ⟨h7, hk⟩ := ble_ok hk
      have hk := natK_ok hk
      rw [fN_eq] at hk
      obtain ⟨s', hk, h8⟩ := xstartO_ok (P := P) hk
      refine ⟨_, _, _, _, hk, rh, ?_⟩
      rintro S ⟨A, ro, E, rfl⟩ mv K hK
      simp only [stepOp, h1, CA.to, h2, h3, h4, if_true]
      refine hlo _ (hhi _ (And.intro h5 (And.intro h6 ?_)))
      rw [h8 _ ⟨A, ro, E, rfl⟩, nat_std, nat_std]
      exact And.intro h7 hK
    | _ => exact absurd hk Bool.false_ne_true
  · exact absurd hk Bool.false_ne_true

theorem idxs_ok (r : RT t ts) (rh : RH P h hl) {l : List UInt8} {x : IOpd} (hk : xIdxsO l x X t h k = true) : StepOk P (.idxs l x) ts hl k := by
  obtain ⟨v, h1, hk⟩ := xopd_ok r hk
  split at hk
  · rename_i i
    have hk := natK_ok hk
    obtain ⟨h2, hk⟩ := xle_ok hk
    obtain ⟨b, h3, hk⟩ := getK_ok hk
    rw [fN_eq] at hk
    refine ⟨_, _, _, _, hk, rh, ?_⟩
    rintro S ⟨A, ro, E, rfl⟩ mv K hK
    have hlt := (List.getElem?_eq_some_iff.1 h3).1
    simp only [stepOp, h1, CA.to, CD.to]
    refine And.intro (show (0 : Int) ≤ _ ∧ _ < ((llen l : Nat) : Int) from ⟨h2, by rw [llen_eq]; simp only [Int.ofNat_eq_natCast] at h2; omega⟩) ?_
    have e : (std P A ro E).sidx l (IX.val ‹IX›) = ((b.toNat : Nat) : Int) := by
      simp only [std, List.getD_eq_getElem?_getD, h3, Option.getD_some]
    rw [e]
    exact hK
  · exact absurd hk Bool.false_ne_true

theorem xstepChk_ok (r : RT t ts) {sz sz' n : Nat} {lo hi mx : Option IOpd} {k : Unit → Bool} (hk : xstepChk t sz sz' n lo hi mx k = true) : k () = true ∧ ∀ S, Sd P S → ∀ K : Prop, K → stepChk S ts sz sz' n lo hi mx K := by
  obtain ⟨h1, hk⟩ := reqB_ok hk
  obtain ⟨lo', hk, hlo⟩ := xbnd_ok r hk
  obtain ⟨hi', hk, hhi⟩ := xbnd_ok r hk
  obtain ⟨mx', hk, hmx⟩ := xbnd_ok r hk
  obtain ⟨h2, hk⟩ := xle_ok hk
  obtain ⟨h3, hk⟩ := xle_ok hk
  obtain ⟨h4, hk⟩ := xle_ok hk
  obtain ⟨h5, hk⟩ := xle_ok hk
  refine ⟨hk, ?_⟩
  rintro S ⟨A, ro, E, rfl⟩ K hK
  simp only [stepChk, h1, if_true]
  exact hlo _ (hhi _ (hmx _ (And.intro h2 (And.intro h3 (And.intro h4 (And.intro h5 hK))))))

theorem slchk_ok (r : RT t ts) (rh : RH P h hl) {sz : Nat} {x : IOpd} {lo hi mx : Option IOpd} (hk : xSlchkO sz x lo hi mx X t h k = true) : StepOk P (.slchk sz x lo hi mx) ts hl k := by
  obtain ⟨v, h1, hk⟩ := xopd_ok r hk
  split at hk
  · obtain ⟨hk, h2⟩ := xstepChk_ok (P := P) r hk
    refine ⟨_, _, _, _, hk, rh, fun S hS mv K hK => ?_⟩
    simp only [stepOp, h1, CA.to]
    exact h2 S hS _ hK
  · obtain ⟨hk, h2⟩ := xstepChk_ok (P := P) r hk
    refine ⟨_, _, _, _, hk, rh, fun S hS mv K hK => ?_⟩
    simp only [stepOp, h1, CA.to, CD.to]
    exact h2 S hS _ hK
  · exact absurd hk Bool.false_ne_true

theorem ovl_ok (r : RT t ts) (rh : RH P h hl) {x y : IOpd} (hk : xOvlO x y X t h k = true) : StepOk P (.ovl x y) ts hl k := by
  obtain ⟨v, h1, hk⟩ := xopd_ok r hk
  obtain ⟨u, h2, hk⟩ := xopd_ok r hk
  split at hk
  · split at hk
    · split at hk
      · exact absurd hk Bool.false_ne_true
      · rename_i hne
        obtain ⟨h3, hk⟩ := blt_ok hk
        obtain ⟨h4, hk⟩ := blt_ok hk
        obtain ⟨o, ao, h5, hR, hk⟩ := rh.gets hk
        cases o with
        | arr sz n e =>
          cases hR
          obtain ⟨o', ao', h6, hR', hk⟩ := rh.gets hk
          cases o' with
          | arr sz' n' e' =>
            cases hR'
            obtain ⟨h7, hk⟩ := reqB_ok hk
            obtain ⟨h8, hk⟩ := reqB_ok hk
            obtain ⟨h9, hk⟩ := blt_ok hk
            refine ⟨_, _, _, _, hk, rh, ?_⟩
            rintro S ⟨A, ro, E, rfl⟩ mv K hK
            have e1 := Nat.eq_of_beq_eq_true h7
            have e2 := Nat.eq_of_beq_eq_true h8
            subst e1 e2
            simp only [stepOp, h1, h2, CA.to, hne]
            refine And.intro h3 (And.intro h4 ?_)
            simp only [h5, h6]
            exact And.intro h9 hK
          | _ => exact absurd hk Bool.false_ne_true
        | _ => exact absurd hk Bool.false_ne_true
    · exact absurd hk Bool.false_ne_true
  · exact absurd hk Bool.false_ne_true

theorem isZero_ok {v : CA} (h : xisZero v = true) : isZero v.to = true := by
  unfold xisZero at h
  split at h
  · rfl
  · have := Nat.eq_of_beq_eq_true h; subst this; rfl
  · have := Nat.eq_of_beq_eq_true h; subst this; rfl
  · have := Nat.eq_of_beq_eq_true h; subst this; rfl
  · cases h

theorem isZero_no {v : CA} (h : xisZero v = false) : isZero v.to = false := by
  unfold xisZero at h
  split at h
  · cases h
  · rename_i n _; cases n with
    | zero => cases h
    | succ n => rfl
  · rename_i n _; cases n with
    | zero => cases h
    | succ n => rfl
  · rename_i n _; cases n with
    | zero => cases h
    | succ n => rfl
  · rename_i h1 h2 h3 h4
    cases v with
    | d x => cases x <;> first | rfl | exact (h1 rfl).elim | exact (h2 _ _ _ rfl).elim
    | dfs => exact (h3 _ _ _ rfl).elim
    | msl => exact (h4 _ _ _ _ _ rfl).elim
    | _ => rfl

theorem isNil_no {v : CA} (h : xisNil v = false) : v.to ≠ .d .nil := by
  intro e
  rw [CA.to_nil e] at h
  cases h

theorem isD0_to {v : CA} {s : Nat} {e : Nat → List DV} (h : v.to = .dfs s 0 e) : xisD0 v = true := by
  cases v <;> simp [CA.to] at h
  obtain ⟨_, rfl, _⟩ := h
  rfl

theorem appendN_ok (r : RT t ts) (rh : RH P h hl) {sz b : Nat} {x y : IOpd} {mu : Bool} (hk : xAppendNO sz b x y mu X t h k = true) : StepOk P (.appendN sz b x y mu) ts hl k := by
  obtain ⟨v, h1, hk⟩ := xopd_ok r hk
  obtain ⟨u, h2, hk⟩ := xopd_ok r hk
  have gen : ¬ ((v.to = .d .nil ∨ xisD0 v = true) ∧ isZero u.to = true) → xstepAppend h sz v u mu k = true → StepOk P (.appendN sz b x y mu) ts hl k := by
    intro hne hk
    obtain ⟨w, h', hl', pg, hk, rh', h3⟩ := xstepAppend_ok rh hk
    refine ⟨_, _, _, _, hk, rh', fun S hS mv K hK => ?_⟩
    simp only [stepOp, h1, h2]
    split
    · rename_i e1 e2; exact (hne ⟨.inl e1, e2⟩).elim
    · rename_i e1 e2; exact (hne ⟨.inr (isD0_to e1), e2⟩).elim
    · exact h3 S hS _ hK
  split at hk
  · rename_i e
    split at hk
    · rename_i e2
      have hv : v.to = .d .nil := by
        unfold xisNil at e
        split at e
        · rfl
        · cases e
      refine ⟨_, _, _, _, hk, rh, fun S hS mv K hK => ?_⟩
      simp only [stepOp, h1, h2, hv, isZero_ok e2]
      exact hK
    · rename_i e2
      exact gen (fun c => by rw [isZero_no e2] at c; cases c.2) hk
  · rename_i e
    split at hk
    · rename_i e3
      split at hk
      · rename_i e2
        obtain ⟨s0, r0, rfl⟩ : ∃ s r, v = .dfs s 0 r := by
          unfold xisD0 at e3
          split at e3
          · rename_i a b c
            have := Nat.eq_of_beq_eq_true e3
            subst this
            exact ⟨_, _, rfl⟩
          · cases e3
        refine ⟨_, _, _, _, hk, rh, fun S hS mv K hK => ?_⟩
        simp only [stepOp, h1, h2, CA.to, isZero_ok e2]
        exact hK
      · rename_i e2
        exact gen (fun c => by rw [isZero_no e2] at c; cases c.2) hk
    · rename_i e3
      exact gen (fun c => by
        rcases c.1 with c | c
        · exact isNil_no e c
        · rw [e3] at c; cases c) hk

theorem bslice0_ok (rh : RH P h hl) {sz : Nat} (hk : xBslice0O sz X t h k = true) : StepOk P (.bslice0 sz) ts hl k :=
  ⟨_, _, _, _, hk, rh, fun S _ mv K hK => by simp only [stepOp]; exact hK⟩

theorem xstep_ok (x : XOk P X) (r : RT t ts) (rh : RH P h hl) {o : IOp} (hk : xstep X o t h k = true) : StepOk P o ts hl k := by
  cases o with
  | mv => exact mv_ok (X := X) r rh hk
  | newnil => exact newnil_ok (X := X) (t := t) rh hk
  | bnew => exact bnew_ok (X := X) (t := t) rh hk
  | pick => exact pick_ok (X := X) r rh hk
  | alloc => exact alloc_ok (X := X) (t := t) rh hk
  | box => exact box_ok (X := X) r rh hk
  | build => exact build_ok (X := X) r rh hk
  | bslice => exact bslice_ok (X := X) r rh hk
  | load => exact load_ok (X := X) r rh hk
  | store => exact store_ok (X := X) r rh hk
  | nilchk => exact nilchk_ok (X := X) r rh hk
  | bin => exact bin_ok (X := X) r rh hk
  | binb => exact binb_ok (X := X) r rh hk
  | aeq => exact aeq_ok (X := X) r rh hk
  | un => exact un_ok (X := X) r rh hk
  | conv => exact conv_ok (X := X) r rh hk
  | mkfn => exact mkfn_ok (X := X) r rh hk
  | mkmap => exact mkmap_ok (X := X) (t := t) rh hk
  | mkslice => exact mkslice_ok (X := X) r rh hk
  | slice => exact slice_ok (X := X) r rh hk
  | slarr => exact slarr_ok (X := X) r rh hk
  | faddr => exact faddr_ok (X := X) r rh hk
  | field => exact field_ok (X := X) r rh hk
  | iaddr => exact iaddr_ok (X := X) r rh hk
  | iaddrA => exact iaddrA_ok (X := X) r rh hk
  | lookup => exact lookup_ok (X := X) r rh hk
  | mapupd => exact mapupd_ok (X := X) r rh hk
  | extract => exact extract_ok (X := X) r rh hk
  | call => exact call_ok x r rh hk
  | len => exact len_ok (X := X) r rh hk
  | lenm => exact lenm_ok (X := X) r rh hk
  | cap => exact cap_ok (X := X) r rh hk
  | min => exact min_ok (X := X) r rh hk
  | append => exact append_ok (X := X) r rh hk
  | copy => exact copy_ok (X := X) r rh hk
  | bad => exact absurd hk Bool.false_ne_true
  | appendIn => exact appendIn_ok (X := X) r rh hk
  | clear => exact clear_ok (X := X) r rh hk
  | isnil => exact isnil_ok (X := X) r rh hk
  | slicex => exact slicex_ok (X := X) r rh hk
  | idxs => exact idxs_ok (X := X) r rh hk
  | slchk => exact slchk_ok (X := X) r rh hk
  | ovl => exact ovl_ok (X := X) r rh hk
  | appendN => exact appendN_ok (X := X) r rh hk
  | bw => exact bw_ok (X := X) r rh hk
  | max => exact max_ok (X := X) r rh hk
  | aeqw => exact aeqw_ok (X := X) r rh hk
  | mkmapv => exact mkmapv_ok (X := X) (t := t) rh hk
  | lookupv => exact lookupv_ok (X := X) r rh hk
  | mapupdv => exact mapupdv_ok (X := X) r rh hk
  | bsliceP => exact bsliceP_ok (X := X) r rh hk
  | extractF => exact extractF_ok (X := X) r rh hk
  | mapent => exact mapent_ok (X := X) r rh hk
  | appendP => exact appendP_ok (X := X) r rh hk
  | bslice0 => exact bslice0_ok (X := X) (t := t) rh hk
  | entst => exact entst_ok (X := X) r rh hk

end
end Go.Vf


namespace Go.Vf
open Go

/-- The runner's state stands for the executor's. -/
structure SR (P : Program) (base : Nat) (t : TS) (h : CH) (mv : List Nat) (st : St) : Prop where
  ts : RT t st.ts
  h : RH P h st.h
  mv : MV base st.mv mv

theorem purge_in (pg : List Nat) : ∀ (st : St) (m : Nat), m ∈ (st.purge pg).mv → m ∈ pg ∨ m ∈ st.mv := by
  induction pg with
  | nil => intro st m h; exact .inr h
  | cons l pg ih =>
    intro st m h
    rcases ih _ m h with h | h
    · exact .inl (by simp [h])
    · rcases List.mem_cons.1 h with h | h
      · exact .inl (by simp [h])
      · exact .inr h

def GOff (g : Option (Nat × Bool)) (st : St) : Prop := ∃ j want, g = some (j, want) ∧ (lget st.ts j = some .und ∨ ∃ b, lget st.ts j = some (.d (.bool b)) ∧ b ≠ want)
def GOn (g : Option (Nat × Bool)) (st : St) : Prop := g = none ∨ ∃ j want, g = some (j, want) ∧ lget st.ts j = some (.d (.bool want))

theorem setb_self {st : St} {j : Nat} {b : Bool} (h : lget st.ts j = some (.d (.bool b))) : st.setb j b = st := by
  obtain ⟨ts, hl, mv⟩ := st
  simp only [St.setb, St.put, lset_eq]
  rw [lget_eq] at h
  congr 1
  refine List.ext_getElem? fun i => ?_
  by_cases e : i = j
  · subst e
    have h' : ts[i]? = some (.d (.bool b)) := h
    rw [List.getElem?_set, if_pos rfl, if_pos (List.getElem?_eq_some_iff.1 h').1]; exact h'.symm
  · rw [List.getElem?_set_ne (Ne.symm e)]

section
variable {P : Program} {X : XS} {base : Nat} {t : TS} {h : CH} {mv : List Nat} {st : St}

theorem xputD_ok (r : RT t st.ts) {dst : Option Nat} {v : CA} {k : TS → Bool} (hk : xputD dst v t k = true) : ∃ t', RT t' (st.put dst v.to).ts ∧ k t' = true := by
  cases dst with
  | none => exact ⟨t, r, hk⟩
  | some d => exact r.set (i := d) hk

theorem putS_h (st : St) (dst : Option Nat) (v : AV) : (st.put dst v).h = st.h := by cases dst <;> rfl
theorem putS_mv (st : St) (dst : Option Nat) (v : AV) : (st.put dst v).mv = st.mv := by cases dst <;> rfl

theorem xputS_ok (r : SR P base t h mv st) {dst : Option Nat} {v : CA} {k : TS → Bool} (hk : xputD dst v t k = true) : ∃ t', SR P base t' h mv (st.put dst v.to) ∧ k t' = true := by
  obtain ⟨t', h1, h2⟩ := xputD_ok r.ts hk
  exact ⟨t', ⟨h1, by rw [putS_h]; exact r.h, by rw [putS_mv]; exact r.mv⟩, h2⟩

/-- Behind a purge. -/
theorem xpurgeS_ok (r : RT t st.ts) (hm : MV base st.mv mv) {h' : CH} {hl' : List AObj} (rh : RH P h' hl') {pg : List Nat} {k : TS → List Nat → Bool}
    (hk : xpurge pg t (fun ts => addMv base pg mv fun mv => k ts mv) = true) : ∃ t' mv', SR P base t' h' mv' ((st.setH hl').purge pg) ∧ k t' mv' = true := by
  obtain ⟨t', hk, r'⟩ := xpurge_ok r hk
  obtain ⟨mv', hk, h1, h2⟩ := addMv_ok hk
  have hp := forgetsL_eq pg (st.setH hl')
  refine ⟨t', mv', ⟨by rw [hp.1]; exact r', by rw [hp.2]; exact rh, fun m hb hin => ?_⟩, hk⟩
  rcases purge_in pg _ m hin with h | h
  · exact h2 m h hb
  · exact h1 m (hm m hb h)

theorem xafter_ok (r : RT t st.ts) (hm : MV base st.mv mv) {h' : CH} {hl' : List AObj} (rh : RH P h' hl') {dst : Option Nat} {v : CA} {pg : List Nat} {k : TS → CH → List Nat → Bool}
    (hk : xafter base dst t mv k v h' pg = true) : ∃ t' mv', SR P base t' h' mv' (((st.setH hl').purge pg).put dst v.to) ∧ k t' h' mv' = true := by
  unfold xafter at hk
  split at hk
  · obtain ⟨t', h1, h2⟩ := xputS_ok (P := P) (base := base) (st := st.setH hl') ⟨r, rh, hm⟩ hk
    exact ⟨t', mv, h1, h2⟩
  · obtain ⟨t', mv', h1, hk⟩ := xpurgeS_ok r hm rh (k := fun ts mv => xputD dst v ts fun ts => k ts h' mv) hk
    obtain ⟨t'', h2, hk⟩ := xputS_ok h1 hk
    exact ⟨t'', mv', h2, hk⟩

theorem xop_ok (x : XOk P X) (r : SR P base t h mv st) {o : IOper} {k : TS → CH → List Nat → Bool} (hk : xop X base o.op o.dst t h mv k = true) :
    ∃ t' h' mv' st', k t' h' mv' = true ∧ SR P base t' h' mv' st' ∧ ∀ S, Sd P S → ∀ K : St → Prop, K st' → evOp S o st K := by
  obtain ⟨v, h', hl', pg, hk, rh', h1⟩ := xstep_ok x r.ts r.h hk
  obtain ⟨t', mv', h2, hk⟩ := xafter_ok r.ts r.mv rh' hk
  exact ⟨t', h', mv', _, hk, h2, fun S hS K hK => h1 S hS _ (fun v h pg => K (((st.setH h).purge pg).put o.dst v)) hK⟩

theorem xguard_ok (r : RT t st.ts) {g : Option (Nat × Bool)} {off on : Unit → Bool} (hk : xguard g t off on = true) : (off () = true ∧ GOff g st) ∨ (on () = true ∧ GOn g st) := by
  cases g with
  | none => exact .inr ⟨hk, .inl rfl⟩
  | some g =>
    obtain ⟨j, want⟩ := g
    obtain ⟨v, h1, hk⟩ := r.get (i := j) (k := xgV want off on) hk
    unfold xgV at hk
    split at hk
    · rename_i b
      cases b <;> cases want
      · exact .inr ⟨hk, .inr ⟨j, _, rfl, h1⟩⟩
      · exact .inl ⟨hk, j, _, rfl, .inr ⟨_, h1, by simp⟩⟩
      · exact .inl ⟨hk, j, _, rfl, .inr ⟨_, h1, by simp⟩⟩
      · exact .inr ⟨hk, .inr ⟨j, _, rfl, h1⟩⟩
    · exact .inl ⟨hk, j, want, rfl, .inl h1⟩
    · exact absurd hk Bool.false_ne_true

theorem guarded_off {o : IOper} {st : St} {off on : St → Prop} (hg : GOff o.guard st) (h : off st) : guarded o st off on := by
  obtain ⟨j, want, h1, h2 | ⟨b, h2, h3⟩⟩ := hg
  · simp only [guarded, h1, h2]; exact h
  · simp only [guarded, h1, h2]
    cases b <;> cases want
    · exact absurd rfl h3
    · simp only [setb_self h2, if_true]; exact h
    · simp only [setb_self h2]; exact h
    · exact absurd rfl h3

theorem guarded_on {o : IOper} {st : St} {off on : St → Prop} (hg : GOn o.guard st) (h : on st) : guarded o st off on := by
  rcases hg with h1 | ⟨j, want, h1, h2⟩
  · simp only [guarded, h1]; exact h
  · simp only [guarded, h1, h2]
    cases want
    · simp only [setb_self h2]; exact h
    · simp only [setb_self h2, if_true]; exact h

theorem evOpG_guarded {S : Sig} {o : IOper} {st : St} {K : St → Prop} (h : guarded o st (fun st => K (st.put o.dst .und)) fun st => evOp S o st K) : evOpG S o st K := by
  obtain ⟨dst, g, op⟩ := o
  cases g with
  | none => exact h
  | some g =>
    obtain ⟨j, want⟩ := g
    simp only [guarded] at h
    simp only [evOpG]
    cases e : lget st.ts j with
    | none => rw [e] at h; exact h.elim
    | some v =>
      rw [e] at h
      cases v with
      | d x =>
        cases x with
        | bool b => cases b <;> cases want <;> exact h
        | _ => exact h.elim
      | und => exact h
      | _ => exact h.elim

theorem xoper_ok (x : XOk P X) (r : SR P base t h mv st) {o : IOper} {k : TS → CH → List Nat → Bool} (hk : xoper X base o t h mv k = true) :
    ∃ t' h' mv' st', k t' h' mv' = true ∧ SR P base t' h' mv' st' ∧ ∀ S, Sd P S → ∀ K : St → Prop, K st' → evOpG S o st K := by
  obtain ⟨dst, g, op⟩ := o
  rcases xguard_ok (g := g) r.ts hk with ⟨hk, hg⟩ | ⟨hk, hg⟩
  · obtain ⟨t', h1, hk⟩ := xputS_ok r (v := .und) hk
    exact ⟨t', h, mv, _, hk, h1, fun S hS K hK => evOpG_guarded (guarded_off (o := ⟨dst, g, op⟩) hg hK)⟩
  · obtain ⟨t', h', mv', st', hk, h1, h2⟩ := xop_ok x r (o := ⟨dst, g, op⟩) hk
    exact ⟨t', h', mv', st', hk, h1, fun S hS K hK => evOpG_guarded (guarded_on (o := ⟨dst, g, op⟩) hg (h2 S hS K hK))⟩

theorem xops_ok (x : XOk P X) {l : List IOper} : ∀ {t : TS} {h : CH} {mv : List Nat} {st : St} (_ : SR P base t h mv st) {k : TS → CH → List Nat → Bool}, xops X base l t h mv k = true →
    ∃ t' h' mv' st', k t' h' mv' = true ∧ SR P base t' h' mv' st' ∧ ∀ S, Sd P S → ∀ K : St → Prop, K st' → evOps S l st K := by
  induction l with
  | nil => intro t h mv st r k hk; exact ⟨t, h, mv, st, hk, r, fun S hS K hK => hK⟩
  | cons o l ih =>
    intro t h mv st r k hk
    obtain ⟨t1, h1, mv1, st1, hk, r1, g1⟩ := xoper_ok x r (o := o) (k := fun t h mv => xops X base l t h mv k) hk
    obtain ⟨t2, h2, mv2, st2, hk, r2, g2⟩ := ih r1 hk
    exact ⟨t2, h2, mv2, st2, hk, r2, fun S hS K hK => g1 S hS _ (g2 S hS K hK)⟩

theorem xstepA_ok (r : RT t st.ts) {l : Nat} {o : IOp} {k : CA → CObj → Bool} (hk : xstepA l o t k = true) :
    ∃ v o' ao, k v o' = true ∧ o'.R P ao ∧ ∀ S, Sd P S → ∀ K : AV → AObj → Prop, K v.to ao → stepA S l o st K := by
  unfold xstepA at hk
  split at hk
  · obtain ⟨cs, ez, hk⟩ := cdKL_ok hk
    obtain ⟨ds, h1, hk⟩ := dL_ok hk
    refine ⟨_, _, _, hk, rfl, fun S _ K hK => ?_⟩
    simp only [stepA, ez, h1]
    exact hK
  · obtain ⟨v, h1, hk⟩ := xopd_ok r hk
    obtain ⟨h2, hk⟩ := onesK_ok hk
    refine ⟨_, _, _, hk, rfl, fun S _ K hK => ?_⟩
    simp only [stepA, h1, CA.cells_to, h2, if_true]
    exact hK
  · exact ⟨_, _, _, hk, rfl, fun S _ K hK => hK⟩
  · exact ⟨_, _, _, hk, rfl, fun S _ K hK => hK⟩
  · exact ⟨_, _, _, hk, rfl, fun S _ K hK => hK⟩
  · obtain ⟨cs, ez, hk⟩ := cdKL_ok hk
    obtain ⟨v, h1, hk⟩ := xopd_ok r hk
    obtain ⟨n', rfl, hk⟩ := xival_ok hk
    obtain ⟨h2, hk⟩ := xle_ok hk
    obtain ⟨h3, hk⟩ := xle_ok hk
    have hk := natK_ok hk
    have hk := repK_ok hk
    refine ⟨_, _, _, hk, rfl, ?_⟩
    rintro S ⟨A, ro, E, rfl⟩ K hK
    simp only [stepA, h1, CA.to, CD.to, ival]
    refine And.intro h2 (And.intro h3 ?_)
    rw [nat_std]
    rw [rep_rows (P := P) (A := A) (ro := ro) (E := E), ← ez] at hK
    exact hK
  · exact absurd hk Bool.false_ne_true

theorem klEq_ok {u v : Kl} (h : klEq u v = true) : u = v := by cases u <;> cases v <;> first | rfl | cases h
theorem klEq_no {u v : Kl} (h : klEq u v = false) : u ≠ v := by cases u <;> cases v <;> first | (intro e; cases e; done) | cases h

theorem xavOk_ok {ts : List AV} (r : RT t ts) {b0 : Nat} {d : DOper} {k : Unit → Bool} (hk : xavOk b0 d t k = true) : avOk b0 d ts = true ∧ k () = true := by
  unfold xavOk at hk
  split at hk
  · rename_i e; simp only [avOk, e]; exact ⟨trivial, hk⟩
  · rename_i hne
    split at hk
    · rename_i x e
      obtain ⟨v, h1, hk⟩ := xopd_ok r hk
      have key : ∀ b : Bool, (match opd ts x with
          | .ptr l _ => avoids b0 l d.av
          | .aptr l _ _ _ => if d.o.op.kl = .r then avoids b0 l d.av else false
          | .map l => if d.o.op.kl = .r then avoids b0 l d.av else false
          | .dptr _ _ => if d.o.op.kl = .r then true else false
          | _ => false) = b → avOk b0 d ts = b := by
        intro b hb
        unfold avOk
        split
        · rename_i e'; exact (hne e').elim
        · simp only [e]; exact hb
      split at hk
      · obtain ⟨h2, hk⟩ := reqB_ok hk
        exact ⟨key _ (by simp only [h1, CA.to, h2]), hk⟩
      · obtain ⟨h3, hk⟩ := reqB_ok hk
        obtain ⟨h2, hk⟩ := reqB_ok hk
        exact ⟨key _ (by simp only [h1, CA.to, h2, klEq_ok h3, if_true]), hk⟩
      · obtain ⟨h3, hk⟩ := reqB_ok hk
        obtain ⟨h2, hk⟩ := reqB_ok hk
        exact ⟨key _ (by simp only [h1, CA.to, h2, klEq_ok h3, if_true]), hk⟩
      · obtain ⟨h3, hk⟩ := reqB_ok hk
        exact ⟨key _ (by simp only [h1, CA.to, klEq_ok h3, if_true]), hk⟩
      · exact absurd hk Bool.false_ne_true
    · exact absurd hk Bool.false_ne_true

end

theorem u8_ok {a b : List UInt8} (h : u8sEq a b = true) : a = b := by rw [u8sEq_eq] at h; exact of_decide_eq_true h
theorem xeq_of {a b : Int} (h : xeq a b = true) : a = b := by rw [xeq_eq] at h; exact of_decide_eq_true h
theorem bEq_of {a b : Bool} (h : bEq a b = true) : a = b := by rw [bEq_eq] at h; exact of_decide_eq_true h
theorem onEq_ok {a b : Option Nat} (h : onEq a b = true) : a = b := by
  cases a <;> cases b <;> first | rfl | (cases h; done) | (exact congrArg some (Nat.eq_of_beq_eq_true h))
theorem ixEq_ok {a b : IX} (h : ixEq a b = true) : a = b := by
  cases a <;> cases b <;> first | (exact congrArg _ (xeq_of h)) | cases h

theorem ite_b {a b : Bool} (h : (match a with | true => b | false => false) = true) : a = true ∧ b = true := by
  cases a <;> first | exact ⟨rfl, h⟩ | cases h

mutual
theorem cdEq_ok : (x y : CD) → cdEq x y = true → x = y
  | .int kd n, y, h => by
    cases y <;> first | (simp only [cdEq] at h; cases h; done) | (simp only [cdEq] at h; obtain ⟨h1, h2⟩ := ite_b h; rw [kEq_ok h1, ixEq_ok h2])
  | .bool b, y, h => by
    cases y <;> first | (simp only [cdEq] at h; cases h; done) | (simp only [cdEq] at h; cases b <;> simp_all)
  | .str l, y, h => by
    cases y <;> first | (simp only [cdEq] at h; cases h; done) | (simp only [cdEq] at h; rw [u8_ok h])
  | .nil, y, h => by
    cases y <;> first | rfl | (simp only [cdEq] at h; cases h; done)
  | .sl sz n rows, y, h => by
    cases y with
    | sl sz' n' rows' =>
      simp only [cdEq] at h
      obtain ⟨h1, h2⟩ := ite_b h
      obtain ⟨h2, h3⟩ := ite_b h2
      rw [Nat.eq_of_beq_eq_true h1, Nat.eq_of_beq_eq_true h2, cdEqss_ok rows rows' h3]
    | _ => simp only [cdEq] at h; cases h
  | .raw v, y, h => by simp only [cdEq] at h; cases h
theorem cdEqs_ok : (x y : List CD) → cdEqs x y = true → x = y
  | [], y, h => by cases y <;> first | rfl | (simp only [cdEqs] at h; cases h; done)
  | x :: xs, y, h => by
    cases y with
    | nil => simp only [cdEqs] at h; cases h
    | cons y ys => simp only [cdEqs] at h; obtain ⟨h1, h2⟩ := ite_b h; rw [cdEq_ok x y h1, cdEqs_ok xs ys h2]
theorem cdEqss_ok : (x y : List (List CD)) → cdEqss x y = true → x = y
  | [], y, h => by cases y <;> first | rfl | (simp only [cdEqss] at h; cases h; done)
  | x :: xs, y, h => by
    cases y with
    | nil => simp only [cdEqss] at h; cases h
    | cons y ys => simp only [cdEqss] at h; obtain ⟨h1, h2⟩ := ite_b h; rw [cdEqs_ok x y h1, cdEqss_ok xs ys h2]
end

mutual
theorem caEq_ok : (x y : CA) → caEq x y = true → x = y
  | .d x, y, h => by
    cases y with
    | d y => simp only [caEq] at h; rw [cdEq_ok x y h]
    | _ => simp only [caEq] at h; cases h
  | .agg xs, y, h => by
    cases y with
    | agg ys => simp only [caEq] at h; rw [caEqs_ok xs ys h]
    | _ => simp only [caEq] at h; cases h
  | .ptr l o, y, h => by
    cases y with
    | ptr l' o' => simp only [caEq] at h; obtain ⟨h1, h2⟩ := ite_b h; rw [Nat.eq_of_beq_eq_true h1, Nat.eq_of_beq_eq_true h2]
    | _ => simp only [caEq] at h; cases h
  | .msl l sz s n f, y, h => by
    cases y with
    | msl l' sz' s' n' f' =>
      simp only [caEq] at h
      obtain ⟨h1, h⟩ := ite_b h
      obtain ⟨h2, h⟩ := ite_b h
      obtain ⟨h3, h⟩ := ite_b h
      obtain ⟨h4, h5⟩ := ite_b h
      rw [Nat.eq_of_beq_eq_true h1, Nat.eq_of_beq_eq_true h2, onEq_ok h3, Nat.eq_of_beq_eq_true h4, bEq_of h5]
    | _ => simp only [caEq] at h; cases h
  | .map l, y, h => by
    cases y with
    | map l' => simp only [caEq] at h; rw [Nat.eq_of_beq_eq_true h]
    | _ => simp only [caEq] at h; cases h
  | .fn f us cs, y, h => by
    cases y with
    | fn f' us' cs' =>
      simp only [caEq] at h
      obtain ⟨h1, h⟩ := ite_b h
      obtain ⟨h2, h3⟩ := ite_b h
      rw [Nat.eq_of_beq_eq_true h1, caEqs_ok us us' h2, caEqs_ok cs cs' h3]
    | _ => simp only [caEq] at h; cases h
  | .yl l, y, h => by
    cases y with
    | yl l' => simp only [caEq] at h; rw [Nat.eq_of_beq_eq_true h]
    | _ => simp only [caEq] at h; cases h
  | .any, y, h => by simp only [caEq] at h; cases h
  | .und, y, h => by simp only [caEq] at h; cases h
  | .tuple _, y, h => by simp only [caEq] at h; cases h
  | .aptr .., y, h => by simp only [caEq] at h; cases h
  | .dptr .., y, h => by simp only [caEq] at h; cases h
  | .dfs .., y, h => by simp only [caEq] at h; cases h
  | .vsl .., y, h => by simp only [caEq] at h; cases h
  | .ge _, y, h => by simp only [caEq] at h; cases h
theorem caEqs_ok : (x y : List CA) → caEqs x y = true → x = y
  | [], y, h => by cases y <;> first | rfl | (simp only [caEqs] at h; cases h; done)
  | x :: xs, y, h => by
    cases y with
    | nil => simp only [caEqs] at h; cases h
    | cons y ys => simp only [caEqs] at h; obtain ⟨h1, h2⟩ := ite_b h; rw [caEq_ok x y h1, caEqs_ok xs ys h2]
end

end Go.Vf
