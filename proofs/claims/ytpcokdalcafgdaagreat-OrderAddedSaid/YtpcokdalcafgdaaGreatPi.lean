/- The reference's ByUse. Conditions: none. -/
import Derived.Test.YtpcokdalcafgdaaGreatPh
set_option linter.unusedSimpArgs false
set_option linter.unusedVariables false
namespace Go.Proofs.Tryz.Run
open Go Go.Vf Go.Proofs
open Go.Proofs.YtpcokdalcafgdaaGreat

theorem opOk_code {o : OpR} {number ch : Int} (h : opOk o number ch) : 1 ≤ o.code ∧ o.code ≤ 17 := by
  have h1 := h.1
  unfold opInfo at h1
  (repeat' (split at h1)) <;> simp at h1 <;> omega

theorem opOk_args {o : OpR} {number ch : Int} (h : opOk o number ch) : ∀ a, a ∈ opList o → 0 ≤ a ∧ a ≤ number - 1 := by
  have hc := opOk_code h
  have h2 := h.2
  rw [opInfo_arity hc] at h2
  have q0 := h2 0 (by omega)
  have q1 := h2 1 (by omega)
  have q2 := h2 2 (by omega)
  simp only [argOk, OpR.arg, arity] at q0 q1 q2
  intro a ha
  unfold opList at ha
  split at ha
  · simp at ha
  · split at ha
    · simp at ha; subst ha; rw [if_neg (by omega), if_pos (by omega)] at q0; omega
    · split at ha
      · rename_i h1 h2 h3
        rw [if_neg (by omega), if_neg (by omega), if_neg (by omega)] at q0 q1 q2
        simp at ha; rcases ha with rfl | rfl | rfl <;> omega
      · rename_i h1 h2 h3
        rw [if_neg (by omega), if_neg (by omega), if_pos (by omega)] at q0 q1 q2
        simp at ha; rcases ha with rfl | rfl <;> omega

theorem opOk_choice {o : OpR} {number ch : Int} (h : opOk o number ch) (hc : o.code = 3) : 0 ≤ o.n ∧ o.n ≤ ch - 1 := by
  have := h.1
  simpa [opInfo, hc] using this

/-- What one operand adds. -/
def useStep (op : Nat → OpR) (acc : List Int) (a : Int) : List Int := if (op a.toNat).code = 3 then onceL acc (op a.toNat).n else acc

/-- What the first operations use. -/
def uses (op : Nat → OpR) : Nat → List Int
  | 0 => []
  | i + 1 => (opList (op i)).foldl (useStep op) (uses op i)

/-- The order by use. -/
def byUse (c : CoR) : List Int := (L c.nc fun k => (k : Int)).foldl onceL (uses c.op c.no)

theorem opList_len (o : OpR) : (opList o).length ≤ 3 := by unfold opList; (repeat' split) <;> simp

theorem ilist_ex (l : List Int) : ∃ q gl, ilist l = isl q gl ∧ L q gl = l ∧ q = l.length :=
  ⟨l.length, fun i => l.getD i 0, rfl, by
    unfold L
    refine List.ext_getElem (by simp) fun i h1 h2 => by simp [h2], rfl⟩

set_option maxHeartbeats 8000000 in
theorem byUse33 (c : CoR) (hlim : limOk c) (hops : opsOk c) : ∃ m g, L m g = byUse c ∧ PureF Tryz.prog false 33 [c.av] (isl m g) := by
  obtain ⟨m, g, hr, hl, hm⟩ := ilist_ex (byUse c)
  refine ⟨m, g, hl, ?_⟩
  obtain ⟨nc, ch, no, op, nr, rt⟩ := c
  obtain ⟨cd, oa, ob, oc, on, hoo⟩ : ∃ cd oa ob oc on, op = fun i => OpR.mk (cd i) (oa i) (ob i) (oc i) (on i) := ⟨fun i => (op i).code, fun i => (op i).a, fun i => (op i).b, fun i => (op i).c, fun i => (op i).n, rfl⟩
  simp only [limOk] at hlim
  simp only [opsOk] at hops
  simp only [byUse] at hl
  have hargs := fun i hi => opOk_args (hops i hi)
  refine pureF_of_fn Tryz.mixed okP ok33 _ rfl fun E Sg hb hS => ?_
  generalize hmg : isl m g = res
  cbv
  refine loop_i Tryz.mixed okP hS (σ := Nat × Nat × (Nat → Int)) (fun s => s.1 ≤ no ∧ L s.2.1 s.2.2 = uses op s.1 ∧ s.2.1 ≤ 3 * s.1) (fun s => no - s.1)
    (fun s => ⟨mkTs [(1, .ptr 0 0), (3, .msl 1 1 none s.2.1 false), (4, int s.1)] 56, [.var [csl nc ch, osl no op, isl nr rt], arrI s.2.1 s.2.2], [1]⟩) (0, 0, fun _ => 0) ⟨by simp, rfl, by simp⟩ ?_ ?_
  · exact le_mk rfl ⟨Like.refl _, Like.refl _, lk_l rfl, trivial⟩ (.cons (.refl _) (.cons (LikeO.arrI rfl (fun j hj => absurd hj (by omega))) (.nil _))) (by simp; omega) (.inr rfl) rfl
  · rintro ⟨i, m0, g0⟩ ⟨hi1, hi2, hi3⟩ N hN
    simp only at hi1 hi2 hi3 hN
    cbv
    split
    · have hlt : i < no := by subst hS; simp [std] at *; omega
      have hop := operands74 (op i)
      obtain ⟨q, gl, e1, e2, e3⟩ := ilist_ex (opList (op i))
      have hq := opList_len (op i)
      rw [← e3] at hq
      rw [e1] at hop
      have hag : ∀ k, k < q → 0 ≤ gl k ∧ gl k ≤ (i : Int) - 1 := fun k hk => hargs i hlt _ (by rw [← e2]; exact mem_L.2 ⟨k, hk, rfl⟩)
      cbv
      refine req_i hS (by subst hS; simp [std]; omega) ?_
      refine callb_i hS (isl q gl) (by subst hS; exact hop) ?_
      cbv
      refine loop_i Tryz.mixed okP hS (σ := Nat × Nat × (Nat → Int)) (fun s => s.1 ≤ q ∧ L s.2.1 s.2.2 = (L s.1 gl).foldl (useStep op) (uses op i) ∧ s.2.1 ≤ 3 * i + s.1) (fun s => q - s.1)
        (fun s => ⟨mkTs [(1, .ptr 0 0), (3, .msl 1 1 none s.2.1 false), (4, int i), (6, isl q gl), (7, int s.1)] 56, [.var [csl nc ch, osl no op, isl nr rt], arrI s.2.1 s.2.2], [1]⟩) (0, m0, g0) ⟨by simp, hi2, by simpa using hi3⟩ ?_ ?_
      · exact le_mk rfl ⟨Like.refl _, Like.refl _, Like.refl _, Like.refl _, lk_l rfl, trivial⟩ (.cons (.refl _) (.cons (.refl _) (.nil _))) (by simp; omega) (.inl ⟨rfl, rfl⟩) rfl
      · rintro ⟨k, m1, g1⟩ ⟨hk1, hk2, hk3⟩ N2 hN2
        simp only at hk1 hk2 hk3 hN2
        cbv
        split
        · have hkl : k < q := by subst hS; simp [std] at *; omega
          have hgk : 0 ≤ gl k ∧ gl k < (no : Int) := by
            have h1 := hag k hkl
            have h2 : gl k ≤ (i : Int) - 1 := h1.2
            have h3 : (i : Int) < no := Int.ofNat_lt.2 hlt
            exact ⟨h1.1, by omega⟩
          cbv
          refine req_i hS (by subst hS; simp [std]; omega) ?_
          refine req_i hS (by subst hS; simp [std, nat, IX.val]; omega) ?_
          have ett : ∀ z, Sg.toNat z = z.toNat := by subst hS; exact fun _ => rfl
          have hstep : (L (k + 1) gl).foldl (useStep op) (uses op i) = useStep op (L m1 g1) (gl k) := by rw [L_succ, List.foldl_append, ← hk2]; rfl
          simp only [nat, ett, Int.ofNat_eq_natCast, Int.toNat_natCast]
          have hcase : (op (gl k).toNat).code = 3 ∨ (op (gl k).toNat).code ≠ 3 := by omega
          split
          · have h3 : (op (gl k).toNat).code = 3 := by subst hS; simp [std] at *; assumption
            cbv
            refine call_c hS (ACall.frame (once75 (n := m1) (by omega) g1 (op (gl k).toNat).n) [1] rfl rfl ⟨LikeO.refl _, trivial⟩) ?_
            rintro pg v H' ⟨pg0, v0, h0, ⟨rfl, n', g', f1, f2, rfl, rfl⟩, rfl, rfl, rfl⟩
            cbv
            refine req_i hS (by subst hS; exact wrap64 (by simp [std]; omega) (by simp [std]; omega)) ?_
            refine hN2 (k + 1, n', g') _ ⟨by simp; omega, ?_, by simp; omega⟩ (by simp; omega) (le_mk rfl ⟨Like.refl _, Like.refl _, Like.refl _, Like.refl _, lk_v (by subst hS; simp [std]), trivial⟩ (.cons (.refl _) (.cons (.refl _) (.nil _))) (by simp; omega) (.inl ⟨rfl, rfl⟩) rfl)
            simp only [hstep, useStep, if_pos h3]; exact f1
          · have h3 : (op (gl k).toNat).code ≠ 3 := by subst hS; simp [std] at *; assumption
            cbv
            refine req_i hS (by subst hS; exact wrap64 (by simp [std]; omega) (by simp [std]; omega)) ?_
            refine hN2 (k + 1, m1, g1) _ ⟨by simp; omega, ?_, by simp; omega⟩ (by simp; omega) (le_mk rfl ⟨Like.refl _, Like.refl _, Like.refl _, Like.refl _, lk_v (by subst hS; simp [std]), trivial⟩ (.cons (.refl _) (.cons (.refl _) (.nil _))) (by simp; omega) (.inl ⟨rfl, rfl⟩) rfl)
            simp only [hstep, useStep, if_neg h3]
        · have hkq : k = q := by subst hS; simp [std] at *; omega
          subst hkq
          cbv
          refine req_i hS (by subst hS; exact wrap64 (by simp [std]; omega) (by simp [std]; omega)) ?_
          refine hN (i + 1, m1, g1) _ ⟨by simp; omega, ?_, by simp; omega⟩ (by simp; omega) (le_mk rfl ⟨Like.refl _, Like.refl _, lk_v (by subst hS; simp [std]), trivial⟩ (.cons (.refl _) (.cons (.refl _) (.nil _))) (by simp; omega) (.inr rfl) rfl)
          simp only [uses, ← e2]; exact hk2
    · have hin : i = no := by subst hS; simp [std] at *; omega
      subst hin
      cbv
      refine loop_i Tryz.mixed okP hS (σ := Nat × Nat × (Nat → Int)) (fun s => s.1 ≤ nc ∧ L s.2.1 s.2.2 = (L s.1 fun k => (k : Int)).foldl onceL (uses op i) ∧ s.2.1 ≤ 3 * i + s.1) (fun s => nc - s.1)
        (fun s => ⟨mkTs [(1, .ptr 0 0), (3, .msl 1 1 none s.2.1 false), (9, int s.1)] 56, [.var [csl nc ch, osl i op, isl nr rt], arrI s.2.1 s.2.2], [1]⟩) (0, m0, g0) ⟨by simp, hi2, by simpa using hi3⟩ ?_ ?_
      · exact le_mk rfl ⟨Like.refl _, Like.refl _, lk_l rfl, trivial⟩ (.cons (.refl _) (.cons (.refl _) (.nil _))) (by simp; omega) (.inr rfl) rfl
      · rintro ⟨k, m1, g1⟩ ⟨hk1, hk2, hk3⟩ N2 hN2
        simp only at hk1 hk2 hk3 hN2
        cbv
        split
        · have hkl : k < nc := by subst hS; simp [std] at *; omega
          cbv
          refine call_c hS (ACall.frame (once75 (n := m1) (by omega) g1 (k : Int)) [1] rfl rfl ⟨LikeO.refl _, trivial⟩) ?_
          rintro pg v H' ⟨pg0, v0, h0, ⟨rfl, n', g', f1, f2, rfl, rfl⟩, rfl, rfl, rfl⟩
          cbv
          refine req_i hS (by subst hS; exact wrap64 (by simp [std]; omega) (by simp [std]; omega)) ?_
          refine hN2 (k + 1, n', g') _ ⟨by simp; omega, ?_, by simp; omega⟩ (by simp; omega) (le_mk rfl ⟨Like.refl _, Like.refl _, lk_v (by subst hS; simp [std]), trivial⟩ (.cons (.refl _) (.cons (.refl _) (.nil _))) (by simp; omega) (.inr rfl) rfl)
          simp only [L_succ, List.foldl_append, ← hk2]; exact f1
        · have hkn : k = nc := by subst hS; simp [std] at *; omega
          subst hkn
          have hmm : m1 = m ∧ ∀ j, j < m1 → g1 j = g j := by
            have e := hk2.trans hl.symm
            have el : m1 = m := by simpa [L_length] using congrArg List.length e
            refine ⟨el, fun j hj => ?_⟩
            have := congrArg (fun l => l[j]?) e
            simpa [L, hj, show j < m by omega] using this
          obtain ⟨rfl, hgg⟩ := hmm
          cbv
          refine req_i hS (by subst hS; simp [std]) ?_
          subst hmg
          exact Like.isl rfl hgg

end Go.Proofs.Tryz.Run
