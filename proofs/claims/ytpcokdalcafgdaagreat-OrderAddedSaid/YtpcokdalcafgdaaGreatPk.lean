/- The program's ByUse. Conditions: none. -/
import Derived.Test.YtpcokdalcafgdaaGreatPj
set_option linter.unusedSimpArgs false
set_option linter.unusedVariables false
namespace Go.Proofs.Tryz.Run
open Go Go.Vf Go.Proofs
open Go.Proofs.YtpcokdalcafgdaaGreat

theorem once_full {l : List Int} {x : Int} (h : x ∈ l) : onceL l x = l := if_pos h

theorem foldl_full {l : List Int} {S : List Int} (h : ∀ x, x ∈ S → x ∈ l) : S.foldl onceL l = l := by
  induction S with
  | nil => rfl
  | cons x S ih => rw [List.foldl_cons, once_full (h x (by simp))]; exact ih fun y hy => h y (by simp [hy])

theorem step_full {op : Nat → OpR} {l S : List Int} (h : ∀ a, a ∈ S → (op a.toNat).code = 3 → (op a.toNat).n ∈ l) : S.foldl (useStep op) l = l := by
  induction S with
  | nil => rfl
  | cons x S ih =>
    have : useStep op l x = l := by
      unfold useStep; split
      · rename_i e; exact once_full (h x (by simp) e)
      · rfl
    rw [List.foldl_cons, this]; exact ih fun y hy => h y (by simp [hy])

theorem uses_full {op : Nat → OpR} {l : List Int} {i no : Nat} (hi : i ≤ no) (hu : uses op i = l) (h : ∀ j, j < no → ∀ a, a ∈ opList (op j) → (op a.toNat).code = 3 → (op a.toNat).n ∈ l) : uses op no = l := by
  obtain ⟨d, rfl⟩ := Nat.exists_eq_add_of_le hi
  induction d with
  | zero => exact hu
  | succ d ih =>
    have := ih (by omega) fun j hj => h j (by omega)
    rw [← Nat.add_assoc, uses, this]
    exact step_full (h (i + d) (by omega))

set_option maxHeartbeats 16000000 in
theorem byUse30 (c : CoR) (hbig : c.nc ≤ 1000000 ∧ c.no ≤ 1000000 ∧ c.nr ≤ 1000000) (hlim : limOk c) (hchs : chsOk c) (hops : opsOk c) (hrts : rtsOk c) : ∃ m g, L m g = byUse c ∧ PureF Tryz.prog false 30 [c.av] (.tuple [isl m g, int 0]) := by
  obtain ⟨m, g, hr, hl, hm⟩ := ilist_ex (byUse c)
  refine ⟨m, g, hl, ?_⟩
  have hce : coErr c = 0 := by unfold coErr; rw [if_neg (fun h => h hlim), if_neg (fun h => h hchs), if_pos ⟨hops, hrts⟩]
  have hck := check69 c 0 hce hbig
  obtain ⟨nc, ch, no, op, nr, rt⟩ := c
  simp only [limOk] at hlim
  simp only [opsOk] at hops
  simp only [byUse] at hl
  have hargs := fun i hi => opOk_args (hops i hi)
  have hidx : ∀ j, j < no → ∀ a, a ∈ opList (op j) → (op a.toNat).code = 3 → ∃ x : Nat, x < nc ∧ (op a.toNat).n = x := fun j hj a ha h3 => by
    have h1 := hargs j hj a ha
    have h2 : a ≤ (j : Int) - 1 := h1.2
    have h4 : a.toNat < no := by have := h1.1; omega
    have h5 := opOk_choice (hops _ h4) h3
    have h6 : (op a.toNat).n ≤ (nc : Int) - 1 := h5.2
    have h7 := h5.1
    exact ⟨(op a.toNat).n.toNat, by omega, by omega⟩
  refine pureF_of_fn Tryz.mixed okP ok30 _ rfl fun E Sg hb hS => ?_
  have ett : ∀ z, Sg.toNat z = z.toNat := by subst hS; exact fun _ => rfl
  generalize hmg : isl m g = res
  cbv
  refine req_i hS (by subst hS; simp [std]) ?_
  refine callb_i hS _ hck ?_
  cbv
  split
  · rename_i h; exfalso; subst hS; simp [std] at h
  cbv
  repeat' ((first | (with_reducible apply req_i hS)) <;> cbv)
  all_goals try (subst hS; simp [std, nat, IX.val, big] at * <;> omega)
  refine loop_i Tryz.mixed okP hS (σ := Nat × Nat × (Nat → Int) × (Nat → Bool)) (fun s => s.1 ≤ no ∧ L s.2.1 s.2.2.1 = uses op s.1 ∧ s.2.1 ≤ 3 * s.1 ∧ Flags nc s.2.2.2 (L s.2.1 s.2.2.1)) (fun s => no - s.1)
    (fun s => ⟨mkTs [(1, .ptr 0 0), (5, .ptr 3 0), (7, .fn 70 [] [.ptr 4 0, .ptr 3 0]), (25, osl no op), (26, int no), (27, int s.1)] 72, [.var [csl nc ch, osl no op, isl nr rt], arrI s.2.1 s.2.2.1, arrB nc s.2.2.2, .var [.msl 1 1 none s.2.1 false], .var [.msl 2 1 none nc false]], [1]⟩) (0, 0, fun _ => 0, fun _ => false) ⟨by simp, rfl, by simp, by simp [Flags, L]⟩ ?_ ?_
  · refine le_mk rfl ⟨Like.refl _, Like.refl _, Like.refl _, Like.refl _, lk_v (by subst hS; rfl), lk_l rfl, trivial⟩ (.cons (.refl _) (.cons (LikeO.arrI rfl fun j hj => absurd hj (by omega)) (.cons (LikeO.arrB (by subst hS; simp [std, nat, IX.val]) ?_) (.cons (.refl _) (.cons (LikeO.var (.cons (by subst hS; exact Like.refl _) .nil)) (.nil _)))))) (by simp; omega) (.inr rfl) rfl
    subst hS
    intro j hj
    simp [std, nat, IX.val] at hj ⊢
    exact hj
  · rintro ⟨i, m0, g0, u0⟩ ⟨hi1, hi2, hi3, hi4⟩ N hN
    simp only at hi1 hi2 hi3 hi4 hN
    cbv
    split
    · have hlt : i < no := by subst hS; simp [std] at *; omega
      have hop := operands71 (op i) (opOk_code (hops i hlt))
      obtain ⟨q, gl, e1, e2, e3⟩ := ilist_ex (opList (op i))
      have hq := opList_len (op i)
      rw [← e3] at hq
      rw [e1] at hop
      have hmem : ∀ k, k < q → gl k ∈ opList (op i) := fun k hk => by rw [← e2]; exact mem_L.2 ⟨k, hk, rfl⟩
      cbv
      refine req_i hS (by subst hS; simp [std]; omega) ?_
      refine callb_i hS (isl q gl) (by subst hS; exact hop) ?_
      cbv
      refine loop_i Tryz.mixed okP hS (σ := Nat × Nat × (Nat → Int) × (Nat → Bool)) (fun s => s.1 ≤ q ∧ L s.2.1 s.2.2.1 = (L s.1 gl).foldl (useStep op) (uses op i) ∧ s.2.1 ≤ 3 * i + s.1 ∧ Flags nc s.2.2.2 (L s.2.1 s.2.2.1)) (fun s => q - s.1)
        (fun s => ⟨mkTs [(1, .ptr 0 0), (5, .ptr 3 0), (7, .fn 70 [] [.ptr 4 0, .ptr 3 0]), (25, osl no op), (26, int no), (27, int i), (32, isl q gl), (33, int q), (34, int s.1)] 72, [.var [csl nc ch, osl no op, isl nr rt], arrI s.2.1 s.2.2.1, arrB nc s.2.2.2, .var [.msl 1 1 none s.2.1 false], .var [.msl 2 1 none nc false]], [1]⟩) (0, m0, g0, u0) ⟨by simp, hi2, by simpa using hi3, hi4⟩ ?_ ?_
      · exact le_mk rfl ⟨Like.refl _, Like.refl _, Like.refl _, Like.refl _, Like.refl _, Like.refl _, Like.refl _, lk_v (by subst hS; rfl), lk_l rfl, trivial⟩ (.cons (.refl _) (.cons (.refl _) (.cons (.refl _) (.cons (.refl _) (.cons (.refl _) (.nil _)))))) (by simp; omega) (.inl ⟨rfl, rfl⟩) rfl
      · rintro ⟨k, m1, g1, u1⟩ ⟨hk1, hk2, hk3, hk4⟩ N2 hN2
        simp only at hk1 hk2 hk3 hk4 hN2
        cbv
        split
        · have hkl : k < q := by subst hS; simp [std] at *; omega
          have hgk : 0 ≤ gl k ∧ gl k < (no : Int) := by
            have h1 := hargs i hlt _ (hmem k hkl)
            have h2 : gl k ≤ (i : Int) - 1 := h1.2
            have h3 : (i : Int) < no := Int.ofNat_lt.2 hlt
            exact ⟨h1.1, by omega⟩
          have hstep : (L (k + 1) gl).foldl (useStep op) (uses op i) = useStep op (L m1 g1) (gl k) := by rw [L_succ, List.foldl_append, ← hk2]; rfl
          have hix := hidx i hlt _ (hmem k hkl)
          cbv
          refine req_i hS (by subst hS; simp [std]; omega) ?_
          refine req_i hS (by subst hS; simp [std, nat, IX.val]; omega) ?_
          simp only [nat, ett, Int.ofNat_eq_natCast, Int.toNat_natCast]
          rcases hoa : op (gl k).toNat with ⟨cd, oa, ob, oc, on⟩
          simp only [useStep, hoa] at hstep hix
          simp only [hoa]
          split
          · have h3 : cd ≠ 3 := by subst hS; simp [std] at *; assumption
            cbv
            refine req_i hS (by subst hS; exact wrap64 (by simp [std]; omega) (by simp [std]; omega)) ?_
            refine hN2 (k + 1, m1, g1, u1) _ ⟨by simp; omega, ?_, by simp; omega, hk4⟩ (by simp; omega) (le_mk rfl ⟨Like.refl _, Like.refl _, Like.refl _, Like.refl _, Like.refl _, Like.refl _, Like.refl _, Like.refl _, lk_v (by subst hS; simp [std]), trivial⟩ (.cons (.refl _) (.cons (.refl _) (.cons (.refl _) (.cons (.refl _) (.cons (.refl _) (.nil _)))))) (by simp; omega) (.inr rfl) rfl)
            simp only [hstep, if_neg h3]
          · have h3 : cd = 3 := by subst hS; simp [std] at *; assumption
            obtain ⟨x, hx, rfl⟩ := hix h3
            cbv
            refine req_i hS (by subst hS; simp [std, nat, IX.val]; omega) ?_
            simp only [nat, ett, Int.ofNat_eq_natCast, Int.toNat_natCast, hoa]
            refine call_c hS (ACall.frame (use70 (n := m1) (nc := nc) (by omega) (by omega) u1 g1 x hx hk4) [1, 2, 3, 4] rfl rfl ⟨LikeO.refl _, LikeO.refl _, LikeO.refl _, LikeO.refl _, trivial⟩) ?_
            rintro pg v H' ⟨pg0, v0, h0, ⟨rfl, n', g', f1, f2, rfl⟩, rfl, rfl, rfl⟩
            have hfl : Flags nc (fun k => if k = x then true else u1 k) (L n' g') := by rw [f1]; exact hk4.use hx
            rw [if_pos h3, ← f1] at hstep
            cbv
            split
            · have hfull : n' = nc := by subst hS; simp [std] at *; omega
              have hall := hfl.full (by rw [L_length, hfull])
              have hphase : (L nc fun k => (k : Int)).foldl onceL (L n' g') = (L nc fun k => (k : Int)).foldl onceL (uses op no) := by
                have h1 : uses op (i + 1) = L n' g' := by
                  rw [uses, ← e2]
                  have : L q gl = L (k + 1) gl ++ (L q gl).drop (k + 1) := by
                    conv => lhs; rw [← List.take_append_drop (k + 1) (L q gl)]
                    congr 1
                    unfold L
                    rw [← List.map_take, List.take_range, Nat.min_eq_left (by omega)]
                  rw [this, List.foldl_append, hstep]
                  refine step_full fun a ha h4 => ?_
                  obtain ⟨y, hy, e⟩ := hidx i hlt a (by rw [← e2]; exact List.mem_of_mem_drop ha) h4
                  rw [e]; exact hall y hy
                rw [uses_full (by omega) h1 fun j hj a ha h4 => ?_]
                obtain ⟨y, hy, e⟩ := hidx j hj a ha h4
                rw [e]; exact hall y hy
              obtain ⟨mm, hmm⟩ : ∃ mm, mm = n' := ⟨_, rfl⟩
              obtain ⟨gg, hgg⟩ : ∃ gg, gg = g' := ⟨_, rfl⟩
              obtain ⟨uu, huu⟩ : ∃ uu, uu = fun k => if k = x then true else u1 k := ⟨_, rfl⟩
              have hff : Flags nc uu (L mm gg) := by rw [hmm, hgg, huu]; exact hfl
              subst hmm hgg
              cbv
              refine loop_i Tryz.mixed okP hS (σ := Nat × Nat × (Nat → Int) × (Nat → Bool)) (fun s => s.1 ≤ nc ∧ L s.2.1 s.2.2.1 = (L s.1 fun k => (k : Int)).foldl onceL (L mm gg) ∧ s.2.1 ≤ mm + s.1 ∧ Flags nc s.2.2.2 (L s.2.1 s.2.2.1)) (fun s => nc - s.1)
                (fun s => ⟨mkTs [(1, .ptr 0 0), (5, .ptr 3 0), (7, .fn 70 [] [.ptr 4 0, .ptr 3 0]), (63, int nc), (64, int s.1)] 72, [.var [csl nc ch, osl no op, isl nr rt], arrI s.2.1 s.2.2.1, arrB nc s.2.2.2, .var [.msl 1 1 none s.2.1 false], .var [.msl 2 1 none nc false]], [1]⟩) (0, mm, gg, uu) ⟨by simp, rfl, by simp, hff⟩ ?_ ?_
              · exact le_mk rfl ⟨Like.refl _, Like.refl _, Like.refl _, lk_v (by subst hS; rfl), lk_l rfl, trivial⟩ (.cons (.refl _) (.cons (.refl _) (.cons (LikeO.arrB rfl fun _ _ => by first | rfl | rw [huu]) (.cons (.refl _) (.cons (.refl _) (.nil _)))))) (by simp; omega) (.inl ⟨rfl, rfl⟩) rfl
              · rintro ⟨k, m1, g1, u1⟩ ⟨hk1, hk2, hk3, hk4⟩ N2 hN2
                simp only at hk1 hk2 hk3 hk4 hN2
                cbv
                split
                · have hkl : k < nc := by subst hS; simp [std] at *; omega
                  cbv
                  refine call_c hS (ACall.frame (use70 (n := m1) (nc := nc) (by omega) (by omega) u1 g1 k hkl hk4) [1, 2, 3, 4] rfl rfl ⟨LikeO.refl _, LikeO.refl _, LikeO.refl _, LikeO.refl _, trivial⟩) ?_
                  rintro pg v H' ⟨pg0, v0, h0, ⟨rfl, n', g', f1, f2, rfl⟩, rfl, rfl, rfl⟩
                  cbv
                  refine req_i hS (by subst hS; exact wrap64 (by simp [std]; omega) (by simp [std]; omega)) ?_
                  refine hN2 (k + 1, n', g', _) _ ⟨by simp; omega, ?_, by simp; omega, by simp only [f1]; exact hk4.use hkl⟩ (by simp; omega) (le_mk rfl ⟨Like.refl _, Like.refl _, Like.refl _, Like.refl _, lk_v (by subst hS; simp [std]), trivial⟩ (.cons (.refl _) (.cons (.refl _) (.cons (LikeO.arrB rfl fun _ _ => rfl) (.cons (.refl _) (.cons (.refl _) (.nil _)))))) (by simp; omega) (.inr rfl) rfl)
                  simp only [L_succ, List.foldl_append, ← hk2]; exact f1
                · have hkn : k = nc := by subst hS; simp [std] at *; omega
                  subst hkn
                  have hmm : m1 = m ∧ ∀ j, j < m1 → g1 j = g j := by
                    have e := hk2.trans (hphase.trans hl.symm)
                    have el : m1 = m := by simpa [L_length] using congrArg List.length e
                    refine ⟨el, fun j hj => ?_⟩
                    have := congrArg (fun l => l[j]?) e
                    simpa [L, hj, show j < m by omega] using this
                  obtain ⟨rfl, hgg⟩ := hmm
                  cbv
                  refine req_i hS (by subst hS; simp [std]) ?_
                  subst hmg
                  exact Likes.tuple (.cons (Like.isl rfl hgg) (.cons (lk_l rfl) .nil))
            · cbv
              refine req_i hS (by subst hS; exact wrap64 (by simp [std]; omega) (by simp [std]; omega)) ?_
              exact hN2 (k + 1, n', g', _) _ ⟨by simp; omega, hstep.symm, by simp; omega, hfl⟩ (by simp; omega) (le_mk rfl ⟨Like.refl _, Like.refl _, Like.refl _, Like.refl _, Like.refl _, Like.refl _, Like.refl _, Like.refl _, lk_v (by subst hS; simp [std]), trivial⟩ (.cons (.refl _) (.cons (.refl _) (.cons (.refl _) (.cons (.refl _) (.cons (.refl _) (.nil _)))))) (by simp; omega) (.inr rfl) rfl)
        · have hkq : k = q := by subst hS; simp [std] at *; omega
          subst hkq
          cbv
          refine req_i hS (by subst hS; exact wrap64 (by simp [std]; omega) (by simp [std]; omega)) ?_
          refine hN (i + 1, m1, g1, u1) _ ⟨by simp; omega, ?_, by simp; omega, hk4⟩ (by simp; omega) (le_mk rfl ⟨Like.refl _, Like.refl _, Like.refl _, Like.refl _, Like.refl _, lk_v (by subst hS; simp [std]), trivial⟩ (.cons (.refl _) (.cons (.refl _) (.cons (.refl _) (.cons (.refl _) (.cons (.refl _) (.nil _)))))) (by simp; omega) (.inr rfl) rfl)
          simp only [uses, ← e2]; exact hk2
    · have hin : i = no := by subst hS; simp [std] at *; omega
      have hphase : (L nc fun k => (k : Int)).foldl onceL (L m0 g0) = (L nc fun k => (k : Int)).foldl onceL (uses op no) := by rw [hi2, hin]
      obtain ⟨mm, hmm⟩ : ∃ mm, mm = m0 := ⟨_, rfl⟩
      obtain ⟨gg, hgg⟩ : ∃ gg, gg = g0 := ⟨_, rfl⟩
      obtain ⟨uu, huu⟩ : ∃ uu, uu = u0 := ⟨_, rfl⟩
      have hff : Flags nc uu (L mm gg) := by rw [hmm, hgg, huu]; exact hi4
      subst hmm hgg huu
      cbv
      refine loop_i Tryz.mixed okP hS (σ := Nat × Nat × (Nat → Int) × (Nat → Bool)) (fun s => s.1 ≤ nc ∧ L s.2.1 s.2.2.1 = (L s.1 fun k => (k : Int)).foldl onceL (L mm gg) ∧ s.2.1 ≤ mm + s.1 ∧ Flags nc s.2.2.2 (L s.2.1 s.2.2.1)) (fun s => nc - s.1)
        (fun s => ⟨mkTs [(1, .ptr 0 0), (5, .ptr 3 0), (7, .fn 70 [] [.ptr 4 0, .ptr 3 0]), (63, int nc), (64, int s.1)] 72, [.var [csl nc ch, osl no op, isl nr rt], arrI s.2.1 s.2.2.1, arrB nc s.2.2.2, .var [.msl 1 1 none s.2.1 false], .var [.msl 2 1 none nc false]], [1]⟩) (0, mm, gg, uu) ⟨by simp, rfl, by simp, hff⟩ ?_ ?_
      · exact le_mk rfl ⟨Like.refl _, Like.refl _, Like.refl _, lk_v (by subst hS; rfl), lk_l rfl, trivial⟩ (.cons (.refl _) (.cons (.refl _) (.cons (LikeO.arrB rfl fun _ _ => by first | rfl | rw [huu]) (.cons (.refl _) (.cons (.refl _) (.nil _)))))) (by simp; omega) (.inl ⟨rfl, rfl⟩) rfl
      · rintro ⟨k, m1, g1, u1⟩ ⟨hk1, hk2, hk3, hk4⟩ N2 hN2
        simp only at hk1 hk2 hk3 hk4 hN2
        cbv
        split
        · have hkl : k < nc := by subst hS; simp [std] at *; omega
          cbv
          refine call_c hS (ACall.frame (use70 (n := m1) (nc := nc) (by omega) (by omega) u1 g1 k hkl hk4) [1, 2, 3, 4] rfl rfl ⟨LikeO.refl _, LikeO.refl _, LikeO.refl _, LikeO.refl _, trivial⟩) ?_
          rintro pg v H' ⟨pg0, v0, h0, ⟨rfl, n', g', f1, f2, rfl⟩, rfl, rfl, rfl⟩
          cbv
          refine req_i hS (by subst hS; exact wrap64 (by simp [std]; omega) (by simp [std]; omega)) ?_
          refine hN2 (k + 1, n', g', _) _ ⟨by simp; omega, ?_, by simp; omega, by simp only [f1]; exact hk4.use hkl⟩ (by simp; omega) (le_mk rfl ⟨Like.refl _, Like.refl _, Like.refl _, Like.refl _, lk_v (by subst hS; simp [std]), trivial⟩ (.cons (.refl _) (.cons (.refl _) (.cons (LikeO.arrB rfl fun _ _ => rfl) (.cons (.refl _) (.cons (.refl _) (.nil _)))))) (by simp; omega) (.inr rfl) rfl)
          simp only [L_succ, List.foldl_append, ← hk2]; exact f1
        · have hkn : k = nc := by subst hS; simp [std] at *; omega
          subst hkn
          have hmm : m1 = m ∧ ∀ j, j < m1 → g1 j = g j := by
            have e := hk2.trans (hphase.trans hl.symm)
            have el : m1 = m := by simpa [L_length] using congrArg List.length e
            refine ⟨el, fun j hj => ?_⟩
            have := congrArg (fun l => l[j]?) e
            simpa [L, hj, show j < m by omega] using this
          obtain ⟨rfl, hgg⟩ := hmm
          cbv
          refine req_i hS (by subst hS; simp [std]) ?_
          subst hmg
          exact Likes.tuple (.cons (Like.isl rfl hgg) (.cons (lk_l rfl) .nil))

end Go.Proofs.Tryz.Run
