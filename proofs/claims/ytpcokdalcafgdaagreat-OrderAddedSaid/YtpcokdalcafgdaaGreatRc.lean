/- OrderAdded answers true. Conditions: none. -/
import Derived.Test.YtpcokdalcafgdaaGreatRb
import Derived.Test.YtpcokdalcafgdaaGreatLi
set_option linter.unusedSimpArgs false
set_option linter.unusedVariables false
namespace Go.Proofs.Tryz.Run
open Go Go.Vf Go.Proofs
open Go.Proofs.YtpcokdalcafgdaaGreat

theorem coErr_zero {c : CoR} (h : coErr c = 0) : limOk c ∧ chsOk c ∧ opsOk c ∧ rtsOk c := by
  unfold coErr at h
  split at h
  · cases h
  · split at h
    · cases h
    · split at h
      · rename_i a b d; exact ⟨Classical.not_not.1 a, Classical.not_not.1 b, d.1, d.2⟩
      · cases h

theorem isOrd_idx {n m : Nat} {h : Nat → Int} (hh : isOrd n m h) : ∀ j, j < m → ∃ x : Nat, x < n ∧ h j = (x : Int) := fun j hj => by
  have h1 := (hh.2 j hj).1
  exact ⟨(h j).toNat, by omega, by omega⟩

/-- Three marks are what an operation uses. -/
theorem marks_law {op : Nat → OpR} {i : Nat} {u : Nat → Bool} {k : Nat} (hc : 1 ≤ (op i).code ∧ (op i).code ≤ 17) (hu : u k = true ↔ (k : Int) ∈ uses op i) {z1 z2 z3 : Bool}
    (h1 : z1 = true ↔ 4 < (op i).code) (h2 : z2 = true ↔ 6 < (op i).code) (h3 : z3 = true ↔ (op i).code = 17) :
    mk1 op z3 (op i).c (mk1 op z2 (op i).b (mk1 op z1 (op i).a u)) k = true ↔ (k : Int) ∈ uses op (i + 1) := by
  rw [uses, step_mem, ← hu]
  simp only [usedBy, opList_mark hc, mk1, Bool.or_eq_true, Bool.and_eq_true, decide_eq_true_eq, h1, h2, h3]
  constructor
  · rintro (((h | ⟨a, b⟩) | ⟨a, b⟩) | ⟨a, b⟩)
    · exact .inl h
    · exact .inr ⟨_, .inl ⟨a, rfl⟩, b⟩
    · exact .inr ⟨_, .inr (.inl ⟨a, rfl⟩), b⟩
    · exact .inr ⟨_, .inr (.inr ⟨a, rfl⟩), b⟩
  · rintro (h | ⟨x, (⟨a, rfl⟩ | ⟨a, rfl⟩ | ⟨a, rfl⟩), b⟩)
    · exact .inl (.inl (.inl h))
    · exact .inl (.inl (.inr ⟨a, b⟩))
    · exact .inl (.inr ⟨a, b⟩)
    · exact .inr ⟨a, b⟩

set_option maxHeartbeats 8000000 in
theorem orderAdded11 (c : CoR) (o : OpR) : PureF Tryz.prog true 11 [c.av, o.av] (bool true) := by
  have haw := awake_true
  have hcp := fun h => copy31 c h
  have hcr := fun h => copy31r c h
  have hbu0 := fun h a b d e => byUse30 c h a b d e
  obtain ⟨e, he⟩ : ∃ e, coErr c = e := ⟨_, rfl⟩
  have hck := check32 c e he
  have h0 : e = 0 → limOk c ∧ chsOk c ∧ opsOk c ∧ rtsOk c := fun h => coErr_zero (he.trans h)
  obtain ⟨c', hc'⟩ : ∃ c', c' = addOp c o := ⟨_, rfl⟩
  have hord := fun h m g hl => byUse_isOrd (c := c) h (m := m) (g := g) hl
  have hsame := fun h m m' g g' h1 h2 i hi hu => added_same (c := c) h o (m := m) (m' := m') (g := g) (g' := g') h1 h2 (i := i) hi hu
  have hmem := fun y => uses_mem (op := c.op) (y := y) (n := c.no)
  obtain ⟨nc, ch, no, op, nr, rt⟩ := c
  obtain ⟨o1, o2, o3, o4, o5⟩ := o
  simp only at hcp hbu0 hcr hord hsame hmem
  refine pure_bool (pureF_of_fn Tryz.mixed okP ok11r _ rfl fun E Sg hb hS => ?_)
  have ett : ∀ z, Sg.toNat z = z.toNat := by subst hS; exact fun _ => rfl
  cbv
  split
  · cbv
    refine callb_i hS _ haw ?_
    cbv
    exact Like.refl _
  cbv
  split
  · cbv
    refine callb_i hS _ haw ?_
    cbv
    exact Like.refl _
  cbv
  split
  · cbv
    refine callb_i hS _ haw ?_
    cbv
    exact Like.refl _
  have hlim : no ≤ 400 ∧ nc ≤ 8 ∧ nr ≤ 400 := by subst hS; simp [std] at *; omega
  have hbig : nc ≤ 1000000 ∧ no ≤ 1000000 ∧ nr ≤ 1000000 := by omega
  cbv
  refine callb_i hS _ hck ?_
  cbv
  split
  · cbv
    refine callb_i hS _ haw ?_
    cbv
    exact Like.refl _
  have hz : e = 0 := by subst hS; simp [std] at *; assumption
  subst hz
  obtain ⟨a1, a2, a3, a4⟩ := h0 rfl
  obtain ⟨m, g, q1, q2⟩ := hbu0 hbig a1 a2 a3 a4
  have hio := hord a3 m g q1
  have hm8 : m ≤ 8 := by have := hio.1; omega
  cbv
  refine callb_i hS _ (hcp hbig) ?_
  cbv
  refine callb_i hS _ q2 ?_
  cbv
  refine req_i hS (by subst hS; simp [std]) (req_i hS (by subst hS; simp [std, big]; omega) ?_)
  split
  · rename_i h; exfalso; subst hS; simp [std] at h
  cbv
  refine req_i hS (by subst hS; simp [std]) ?_
  have hsz : Like (.d (.sl 1 (Sg.toNat (Sg.ofNat nc)) (Sg.rep (Sg.toNat (Sg.ofNat nc)) [.int .i64 (.l (Int.ofNat 0))]))) (isl nc fun _ => 0) := Like.slr (by subst hS; rfl) fun i hi => by subst hS; simp only [std] at hi ⊢; rw [if_pos hi]; exact .one (.int rfl)
  refine callb_i hS (bool true) ((isOrder38 (by omega) (by omega) (fun _ => 0) g true (by simp; exact hio)).like (.cons hsz (.cons (Like.refl _) .nil))) ?_
  cbv
  refine call_c hS (ACall.frame (hcr hbig) [] rfl rfl trivial) ?_
  rintro pg v H' ⟨pg0, v0, h0, ⟨rfl, hcs⟩, rfl, rfl, rfl⟩
  simp only at hcs
  have hbig' : nc ≤ 1000000 ∧ no + 1 ≤ 1000000 ∧ nr ≤ 1000000 := by omega
  obtain ⟨e2, he2⟩ : ∃ e2, coErr c' = e2 := ⟨_, rfl⟩
  have hck' := check32 c' e2 he2
  have hcp' : PureF Tryz.prog false 31 [c'.av] c'.av := copy31 c' (by rw [hc']; exact hbig')
  have hbu' := fun h a b d e => byUse30 c' h a b d e
  have h0' : e2 = 0 → limOk c' ∧ chsOk c' ∧ opsOk c' ∧ rtsOk c' := fun h => coErr_zero (he2.trans h)
  have hord' := fun h m g hl => byUse_isOrd (c := c') h (m := m) (g := g) hl
  rw [← hc'] at hsame
  have hc'nc : c'.nc = nc := by rw [hc']; rfl
  have hav : c'.av = .agg [csl nc ch, osl (no + 1) c'.op, isl nr rt] := by rw [hc']; rfl
  have hgs := isOrd_idx hio
  have hrow : ∀ i, i < Sg.nadd no 1 → RL (Sg.app no (fun i => (op i).row) (Vf.rowAt [[.int .u8 (.v o1), .int .i64 (.v o2), .int .i64 (.v o3), .int .i64 (.v o4), .int .i64 (.v o5)]]) i) (c'.op i).row := by
    intro i hi
    rw [hc']
    subst hS
    simp only [std, addOp] at hi ⊢
    split
    · exact .refl _
    · have : i - no = 0 := by omega
      rw [this]
      exact .refl _
  have hrow0 : no = 0 → ∀ i, i < 1 → RL (Vf.rowAt [[.int .u8 (.v o1), .int .i64 (.v o2), .int .i64 (.v o3), .int .i64 (.v o4), .int .i64 (.v o5)]] i) (c'.op i).row := by
    intro h0 i hi
    have : i = 0 := by omega
    subst this
    rw [hc']
    simp only [addOp, h0, Nat.lt_irrefl, if_false]
    exact .refl _
  rcases hcs with ⟨b1, b2, rfl, rfl⟩ | ⟨b1, b2, rfl, rfl⟩ | ⟨b1, b2, rfl, rfl⟩ | ⟨b1, b2, rfl, rfl⟩
  · cbv
    have hA : Like (.agg [.d .nil, .d (.sl 5 1 (Vf.rowAt [[.int .u8 (.v o1), .int .i64 (.v o2), .int .i64 (.v o3), .int .i64 (.v o4), .int .i64 (.v o5)]])), isl nr rt]) c'.av := by
      rw [hav]
      exact Likes.agg (.cons (by subst b1; exact Like.nil0) (.cons (Like.slr (by omega) fun i hi => hrow0 b2 i hi) (.cons (Like.refl _) .nil)))
    repeat' (with_reducible apply req_i hS)
    all_goals try (subst hS; simp [std, nat, IX.val, big] at * <;> omega)
    refine callb_i hS _ (hck'.like (.cons hA .nil)) ?_
    cbv
    split
    · cbv
      refine callb_i hS _ haw ?_
      cbv
      exact Like.refl _
    have hz : e2 = 0 := by subst hS; simp [std] at *; assumption
    subst hz
    obtain ⟨d1, d2, d3, d4⟩ := h0' rfl
    obtain ⟨m', g', q3, q4⟩ := hbu' (by rw [hc']; exact hbig') d1 d2 d3 d4
    have hio' := hord' d3 m' g' q3
    rw [hc'nc] at hio'
    cbv
    repeat' (with_reducible apply req_i hS)
    all_goals try (subst hS; simp [std, nat, IX.val, big] at * <;> omega)
    refine callb_i hS _ (hcp'.like (.cons hA .nil)) ?_
    cbv
    refine callb_i hS _ q4 ?_
    cbv
    split
    · rename_i h; exfalso; subst hS; simp [std] at h
    cbv
    refine req_i hS (by subst hS; simp [std]) ?_
    refine callb_i hS (bool true) ((isOrder38 (by omega) (by have := hio'.1; omega) (fun _ => 0) g' true (by simp; exact hio')).like (.cons hsz (.cons (Like.refl _) .nil))) ?_
    cbv
    refine req_i hS (by subst hS; simp [std]) (req_i hS (by subst hS; simp [std, big]; omega) ?_)
    refine loop_i Tryz.mixed okP hS (σ := Nat × (Nat → Bool)) (fun s => s.1 ≤ no ∧ ∀ k, k < nc → (s.2 k = true ↔ (k : Int) ∈ uses op s.1)) (fun s => no - s.1)
      (fun s => ⟨mkTs [(2, .ptr 0 0), (5, isl m g), (9, isl m' g'), (11, .msl 7 1 none nc false), (12, int s.1)] 146, [.var [csl nc ch, osl no op, isl nr rt], .var [.any, .any, .any, .any, .any], arrI nc (fun _ => 0), V3, V3, V3, .frz 5 (no + 1) (fun i => (c'.op i).row), arrB nc s.2], [6]⟩) (0, fun _ => false) ⟨by simp, by simp [uses]⟩ ?_ ?_
    · refine le_mk rfl ⟨Like.refl _, Like.refl _, Like.refl _, (by subst hS; exact Like.refl _), lk_l rfl, trivial⟩ (.cons (.refl _) (.cons (LikeO.var (.cons (.any _) (.cons (.any _) (.cons (.any _) (.cons (.any _) (.cons (.any _) .nil)))))) (.cons (LikeO.arrr (by subst hS; rfl) (fun i hi => by subst hS; simp only [std] at hi ⊢; rw [if_pos hi]; exact .one (.int rfl))) (.cons likeV3 (.cons likeV3 (.cons likeV3 (.cons (LikeO.frzr (by omega) (fun i hi => hrow0 b2 i hi)) (.cons (LikeO.arrB (by subst hS; rfl) (fun i hi => by subst hS; simp only [std] at hi ⊢; rw [if_pos hi])) (.nil _))))))))) (by simp; omega) (.inr rfl) rfl
    · rintro ⟨i, u⟩ ⟨hi1, hi2⟩ N hN
      simp only at hi1 hi2 hN
      cbv
      split
      · have hlt : i < no := by subst hS; simp [std] at *; omega
        have hcd := opOk_code (a3 i hlt)
        have hml := fun k z1 z2 z3 hu h1 h2 h3 => marks_law (op := op) (i := i) (u := u) (k := k) hcd hu (z1 := z1) (z2 := z2) (z3 := z3) h1 h2 h3
        have hop := fun x => opList_mark hcd (a := x)
        have hix := op_idx a3 i hlt
        simp only at hcd hix hop hml
        cbv
        refine req_i hS (by subst hS; simp [std]; omega) ?_
        rcases hoa : op i with ⟨cd, oa, ob, oc, on⟩
        rw [hoa] at hcd hop hix hml
        simp only at hcd hop hix hml
        have hz1 : Sg.ilt ((4 : Nat) : Int) cd = true ↔ 4 < cd := by subst hS; simp [std]
        have hz2 : Sg.ilt ((6 : Nat) : Int) cd = true ↔ 6 < cd := by subst hS; simp [std]
        have hz3 : Sg.ieq cd ((17 : Nat) : Int) = true ↔ cd = 17 := by subst hS; simp [std]
        have hin : ∀ a, a ∈ opList ⟨cd, oa, ob, oc, on⟩ → (0 ≤ a ∧ a < no) ∧ ((op a.toNat).code = 3 → 0 ≤ (op a.toNat).n ∧ (op a.toNat).n < nc) := fun a ha => by
          have h1 := hix a ha
          have h2 : (i : Int) < no := Int.ofNat_lt.2 hlt
          exact ⟨⟨h1.1.1, Int.lt_trans h1.1.2 h2⟩, h1.2⟩
        simp only [nat, ett, Int.ofNat_eq_natCast, Int.toNat_natCast, hoa]
        refine call_c hS (ACall.frame (mark39 ⟨nc, ch, no, op, nr, rt⟩ (Sg.ilt ((4 : Nat) : Int) cd) oa u (fun h => (hin oa ((hop oa).2 (.inl ⟨hz1.1 h, rfl⟩))).1) (fun h => (hin oa ((hop oa).2 (.inl ⟨hz1.1 h, rfl⟩))).2) hbig.1) [7] rfl rfl ⟨LikeO.refl _, trivial⟩) ?_
        rintro pg v H' ⟨pg0, v0, h0, ⟨rfl, rfl⟩, rfl, rfl, rfl⟩
        cbv
        refine call_c hS (ACall.frame (mark39 ⟨nc, ch, no, op, nr, rt⟩ (Sg.ilt ((6 : Nat) : Int) cd) ob (mk1 op (Sg.ilt ((4 : Nat) : Int) cd) oa u) (fun h => (hin ob ((hop ob).2 (.inr (.inl ⟨hz2.1 h, rfl⟩)))).1) (fun h => (hin ob ((hop ob).2 (.inr (.inl ⟨hz2.1 h, rfl⟩)))).2) hbig.1) [7] rfl rfl ⟨LikeO.refl _, trivial⟩) ?_
        rintro pg v H' ⟨pg0, v0, h0, ⟨rfl, rfl⟩, rfl, rfl, rfl⟩
        cbv
        refine call_c hS (ACall.frame (mark39 ⟨nc, ch, no, op, nr, rt⟩ (Sg.ieq cd ((17 : Nat) : Int)) oc (mk1 op (Sg.ilt ((6 : Nat) : Int) cd) ob (mk1 op (Sg.ilt ((4 : Nat) : Int) cd) oa u)) (fun h => (hin oc ((hop oc).2 (.inr (.inr ⟨hz3.1 h, rfl⟩)))).1) (fun h => (hin oc ((hop oc).2 (.inr (.inr ⟨hz3.1 h, rfl⟩)))).2) hbig.1) [7] rfl rfl ⟨LikeO.refl _, trivial⟩) ?_
        rintro pg v H' ⟨pg0, v0, h0, ⟨rfl, rfl⟩, rfl, rfl, rfl⟩
        cbv
        refine req_i hS (by subst hS; exact wrap64 (by simp [std]; omega) (by simp [std]; omega)) ?_
        refine hN (i + 1, mk1 op (Sg.ieq cd ((17 : Nat) : Int)) oc (mk1 op (Sg.ilt ((6 : Nat) : Int) cd) ob (mk1 op (Sg.ilt ((4 : Nat) : Int) cd) oa u))) _ ⟨by simp; omega, fun k hk => hml k _ _ _ (hi2 k hk) hz1 hz2 hz3⟩ (by simp; omega) (le_mk rfl ⟨Like.refl _, Like.refl _, Like.refl _, Like.refl _, lk_v (by subst hS; simp [std]), trivial⟩ (.cons (.refl _) (.cons (.refl _) (.cons (.refl _) (.cons (.refl _) (.cons (.refl _) (.cons (.refl _) (.cons (.refl _) (.cons (.refl _) (.nil _))))))))) (by simp; omega) (.inl ⟨rfl, rfl⟩) rfl)
      · have hin : no = i := by subst hS; simp [std] at *; omega
        subst hin
        have hsm := fun i hi hu => hsame a3 m m' g g' q1 q3 i hi hu
        cbv
        refine loop_i Tryz.mixed okP hS (σ := Nat) (fun j => j ≤ m ∧ ∀ k, k < j → g k ∈ uses op no) (fun j => m - j)
          (fun j => ⟨mkTs [(2, .ptr 0 0), (5, isl m g), (9, isl m' g'), (11, .msl 7 1 none nc false), (14, int j)] 146, [.var [csl nc ch, osl no op, isl nr rt], .var [.any, .any, .any, .any, .any], arrI nc (fun _ => 0), V3, V3, V3, .frz 5 (no + 1) (fun i => (c'.op i).row), arrB nc u], [6]⟩) 0 ⟨by simp, by simp⟩ ?_ ?_
        · exact le_mk rfl ⟨Like.refl _, Like.refl _, Like.refl _, Like.refl _, lk_l rfl, trivial⟩ (.cons (.refl _) (.cons (.refl _) (.cons (.refl _) (.cons (.refl _) (.cons (.refl _) (.cons (.refl _) (.cons (.refl _) (.cons (.refl _) (.nil _))))))))) (by simp; omega) (.inr rfl) rfl
        · rintro j ⟨hj1, hj2⟩ N hN
          cbv
          split
          · have hlj : j < m := by subst hS; simp [std] at *; omega
            obtain ⟨x, hx, hgx⟩ := hgs j hlj
            have hxn : (g j).toNat = x := by rw [hgx]; exact Int.toNat_natCast x
            cbv
            refine req_i hS (by subst hS; simp [std]; omega) ?_
            refine req_i hS (by subst hS; show 0 ≤ g j ∧ g j < (nc : Int); rw [hgx]; exact ⟨Int.natCast_nonneg x, Int.ofNat_lt.2 hx⟩) ?_
            simp only [nat, ett, Int.ofNat_eq_natCast, Int.toNat_natCast, hxn]
            refine req_i hS (by subst hS; exact hx) ?_
            have hux := hi2 x hx
            rw [← hgx] at hux
            cases hu : u x
            · cbv
              refine callb_i hS _ haw ?_
              cbv
              exact Like.refl _
            · have hall : ∀ k, k < j + 1 → g k ∈ uses op no := fun k hk => by
                by_cases e : k = j
                · subst e; exact hux.1 hu
                · exact hj2 k (by omega)
              obtain ⟨f1, f2⟩ := hsm j hlj fun k hk => hall k (by omega)
              cbv
              refine req_i hS (by subst hS; simp [std]; omega) ?_
              refine req_i hS (by subst hS; simp [std]; omega) ?_
              simp only [nat, ett, Int.ofNat_eq_natCast, Int.toNat_natCast, f2]
              split
              · rename_i h; exfalso; subst hS; simp [std] at h
              cbv
              refine req_i hS (by subst hS; exact wrap64 (by simp [std]; omega) (by simp [std]; omega)) ?_
              refine hN (j + 1) _ ⟨by omega, hall⟩ (by omega) (le_mk rfl ⟨Like.refl _, Like.refl _, Like.refl _, Like.refl _, lk_v (by subst hS; simp [std]), trivial⟩ (.cons (.refl _) (.cons (.refl _) (.cons (.refl _) (.cons (.refl _) (.cons (.refl _) (.cons (.refl _) (.cons (.refl _) (.cons (.refl _) (.nil _))))))))) (by simp; omega) (.inr rfl) rfl)
          · cbv
            refine callb_i hS _ haw ?_
            cbv
            exact Like.refl _
  · cbv
    have hA : Like (.agg [.d .nil, .d (.sl 5 (Sg.nadd no 1) (Sg.app no (fun i => (op i).row) (Vf.rowAt [[.int .u8 (.v o1), .int .i64 (.v o2), .int .i64 (.v o3), .int .i64 (.v o4), .int .i64 (.v o5)]]))), isl nr rt]) c'.av := by
      rw [hav]
      exact Likes.agg (.cons (by subst b1; exact Like.nil0) (.cons (Like.slr (by subst hS; rfl) fun i hi => hrow i hi) (.cons (Like.refl _) .nil)))
    repeat' (with_reducible apply req_i hS)
    all_goals try (subst hS; simp [std, nat, IX.val, big] at * <;> omega)
    refine callb_i hS _ (hck'.like (.cons hA .nil)) ?_
    cbv
    split
    · cbv
      refine callb_i hS _ haw ?_
      cbv
      exact Like.refl _
    have hz : e2 = 0 := by subst hS; simp [std] at *; assumption
    subst hz
    obtain ⟨d1, d2, d3, d4⟩ := h0' rfl
    obtain ⟨m', g', q3, q4⟩ := hbu' (by rw [hc']; exact hbig') d1 d2 d3 d4
    have hio' := hord' d3 m' g' q3
    rw [hc'nc] at hio'
    cbv
    repeat' (with_reducible apply req_i hS)
    all_goals try (subst hS; simp [std, nat, IX.val, big] at * <;> omega)
    refine callb_i hS _ (hcp'.like (.cons hA .nil)) ?_
    cbv
    refine callb_i hS _ q4 ?_
    cbv
    split
    · rename_i h; exfalso; subst hS; simp [std] at h
    cbv
    refine req_i hS (by subst hS; simp [std]) ?_
    refine callb_i hS (bool true) ((isOrder38 (by omega) (by have := hio'.1; omega) (fun _ => 0) g' true (by simp; exact hio')).like (.cons hsz (.cons (Like.refl _) .nil))) ?_
    cbv
    refine req_i hS (by subst hS; simp [std]) (req_i hS (by subst hS; simp [std, big]; omega) ?_)
    refine loop_i Tryz.mixed okP hS (σ := Nat × (Nat → Bool)) (fun s => s.1 ≤ no ∧ ∀ k, k < nc → (s.2 k = true ↔ (k : Int) ∈ uses op s.1)) (fun s => no - s.1)
      (fun s => ⟨mkTs [(2, .ptr 0 0), (5, isl m g), (9, isl m' g'), (11, .msl 7 1 none nc false), (12, int s.1)] 146, [.var [csl nc ch, osl no op, isl nr rt], .var [.any, .any, .any, .any, .any], arrI nc (fun _ => 0), V3, V3, .frz 5 (no + 1) (fun i => (c'.op i).row), V3, arrB nc s.2], [5]⟩) (0, fun _ => false) ⟨by simp, by simp [uses]⟩ ?_ ?_
    · refine le_mk rfl ⟨Like.refl _, Like.refl _, Like.refl _, (by subst hS; exact Like.refl _), lk_l rfl, trivial⟩ (.cons (.refl _) (.cons (LikeO.var (.cons (.any _) (.cons (.any _) (.cons (.any _) (.cons (.any _) (.cons (.any _) .nil)))))) (.cons (LikeO.arrr (by subst hS; rfl) (fun i hi => by subst hS; simp only [std] at hi ⊢; rw [if_pos hi]; exact .one (.int rfl))) (.cons likeV3 (.cons likeV3 (.cons (LikeO.frzr (by subst hS; rfl) (fun i hi => hrow i hi)) (.cons likeV3 (.cons (LikeO.arrB (by subst hS; rfl) (fun i hi => by subst hS; simp only [std] at hi ⊢; rw [if_pos hi])) (.nil _))))))))) (by simp; omega) (.inr rfl) rfl
    · rintro ⟨i, u⟩ ⟨hi1, hi2⟩ N hN
      simp only at hi1 hi2 hN
      cbv
      split
      · have hlt : i < no := by subst hS; simp [std] at *; omega
        have hcd := opOk_code (a3 i hlt)
        have hml := fun k z1 z2 z3 hu h1 h2 h3 => marks_law (op := op) (i := i) (u := u) (k := k) hcd hu (z1 := z1) (z2 := z2) (z3 := z3) h1 h2 h3
        have hop := fun x => opList_mark hcd (a := x)
        have hix := op_idx a3 i hlt
        simp only at hcd hix hop hml
        cbv
        refine req_i hS (by subst hS; simp [std]; omega) ?_
        rcases hoa : op i with ⟨cd, oa, ob, oc, on⟩
        rw [hoa] at hcd hop hix hml
        simp only at hcd hop hix hml
        have hz1 : Sg.ilt ((4 : Nat) : Int) cd = true ↔ 4 < cd := by subst hS; simp [std]
        have hz2 : Sg.ilt ((6 : Nat) : Int) cd = true ↔ 6 < cd := by subst hS; simp [std]
        have hz3 : Sg.ieq cd ((17 : Nat) : Int) = true ↔ cd = 17 := by subst hS; simp [std]
        have hin : ∀ a, a ∈ opList ⟨cd, oa, ob, oc, on⟩ → (0 ≤ a ∧ a < no) ∧ ((op a.toNat).code = 3 → 0 ≤ (op a.toNat).n ∧ (op a.toNat).n < nc) := fun a ha => by
          have h1 := hix a ha
          have h2 : (i : Int) < no := Int.ofNat_lt.2 hlt
          exact ⟨⟨h1.1.1, Int.lt_trans h1.1.2 h2⟩, h1.2⟩
        simp only [nat, ett, Int.ofNat_eq_natCast, Int.toNat_natCast, hoa]
        refine call_c hS (ACall.frame (mark39 ⟨nc, ch, no, op, nr, rt⟩ (Sg.ilt ((4 : Nat) : Int) cd) oa u (fun h => (hin oa ((hop oa).2 (.inl ⟨hz1.1 h, rfl⟩))).1) (fun h => (hin oa ((hop oa).2 (.inl ⟨hz1.1 h, rfl⟩))).2) hbig.1) [7] rfl rfl ⟨LikeO.refl _, trivial⟩) ?_
        rintro pg v H' ⟨pg0, v0, h0, ⟨rfl, rfl⟩, rfl, rfl, rfl⟩
        cbv
        refine call_c hS (ACall.frame (mark39 ⟨nc, ch, no, op, nr, rt⟩ (Sg.ilt ((6 : Nat) : Int) cd) ob (mk1 op (Sg.ilt ((4 : Nat) : Int) cd) oa u) (fun h => (hin ob ((hop ob).2 (.inr (.inl ⟨hz2.1 h, rfl⟩)))).1) (fun h => (hin ob ((hop ob).2 (.inr (.inl ⟨hz2.1 h, rfl⟩)))).2) hbig.1) [7] rfl rfl ⟨LikeO.refl _, trivial⟩) ?_
        rintro pg v H' ⟨pg0, v0, h0, ⟨rfl, rfl⟩, rfl, rfl, rfl⟩
        cbv
        refine call_c hS (ACall.frame (mark39 ⟨nc, ch, no, op, nr, rt⟩ (Sg.ieq cd ((17 : Nat) : Int)) oc (mk1 op (Sg.ilt ((6 : Nat) : Int) cd) ob (mk1 op (Sg.ilt ((4 : Nat) : Int) cd) oa u)) (fun h => (hin oc ((hop oc).2 (.inr (.inr ⟨hz3.1 h, rfl⟩)))).1) (fun h => (hin oc ((hop oc).2 (.inr (.inr ⟨hz3.1 h, rfl⟩)))).2) hbig.1) [7] rfl rfl ⟨LikeO.refl _, trivial⟩) ?_
        rintro pg v H' ⟨pg0, v0, h0, ⟨rfl, rfl⟩, rfl, rfl, rfl⟩
        cbv
        refine req_i hS (by subst hS; exact wrap64 (by simp [std]; omega) (by simp [std]; omega)) ?_
        refine hN (i + 1, mk1 op (Sg.ieq cd ((17 : Nat) : Int)) oc (mk1 op (Sg.ilt ((6 : Nat) : Int) cd) ob (mk1 op (Sg.ilt ((4 : Nat) : Int) cd) oa u))) _ ⟨by simp; omega, fun k hk => hml k _ _ _ (hi2 k hk) hz1 hz2 hz3⟩ (by simp; omega) (le_mk rfl ⟨Like.refl _, Like.refl _, Like.refl _, Like.refl _, lk_v (by subst hS; simp [std]), trivial⟩ (.cons (.refl _) (.cons (.refl _) (.cons (.refl _) (.cons (.refl _) (.cons (.refl _) (.cons (.refl _) (.cons (.refl _) (.cons (.refl _) (.nil _))))))))) (by simp; omega) (.inl ⟨rfl, rfl⟩) rfl)
      · have hin : no = i := by subst hS; simp [std] at *; omega
        subst hin
        have hsm := fun i hi hu => hsame a3 m m' g g' q1 q3 i hi hu
        cbv
        refine loop_i Tryz.mixed okP hS (σ := Nat) (fun j => j ≤ m ∧ ∀ k, k < j → g k ∈ uses op no) (fun j => m - j)
          (fun j => ⟨mkTs [(2, .ptr 0 0), (5, isl m g), (9, isl m' g'), (11, .msl 7 1 none nc false), (14, int j)] 146, [.var [csl nc ch, osl no op, isl nr rt], .var [.any, .any, .any, .any, .any], arrI nc (fun _ => 0), V3, V3, .frz 5 (no + 1) (fun i => (c'.op i).row), V3, arrB nc u], [5]⟩) 0 ⟨by simp, by simp⟩ ?_ ?_
        · exact le_mk rfl ⟨Like.refl _, Like.refl _, Like.refl _, Like.refl _, lk_l rfl, trivial⟩ (.cons (.refl _) (.cons (.refl _) (.cons (.refl _) (.cons (.refl _) (.cons (.refl _) (.cons (.refl _) (.cons (.refl _) (.cons (.refl _) (.nil _))))))))) (by simp; omega) (.inr rfl) rfl
        · rintro j ⟨hj1, hj2⟩ N hN
          cbv
          split
          · have hlj : j < m := by subst hS; simp [std] at *; omega
            obtain ⟨x, hx, hgx⟩ := hgs j hlj
            have hxn : (g j).toNat = x := by rw [hgx]; exact Int.toNat_natCast x
            cbv
            refine req_i hS (by subst hS; simp [std]; omega) ?_
            refine req_i hS (by subst hS; show 0 ≤ g j ∧ g j < (nc : Int); rw [hgx]; exact ⟨Int.natCast_nonneg x, Int.ofNat_lt.2 hx⟩) ?_
            simp only [nat, ett, Int.ofNat_eq_natCast, Int.toNat_natCast, hxn]
            refine req_i hS (by subst hS; exact hx) ?_
            have hux := hi2 x hx
            rw [← hgx] at hux
            cases hu : u x
            · cbv
              refine callb_i hS _ haw ?_
              cbv
              exact Like.refl _
            · have hall : ∀ k, k < j + 1 → g k ∈ uses op no := fun k hk => by
                by_cases e : k = j
                · subst e; exact hux.1 hu
                · exact hj2 k (by omega)
              obtain ⟨f1, f2⟩ := hsm j hlj fun k hk => hall k (by omega)
              cbv
              refine req_i hS (by subst hS; simp [std]; omega) ?_
              refine req_i hS (by subst hS; simp [std]; omega) ?_
              simp only [nat, ett, Int.ofNat_eq_natCast, Int.toNat_natCast, f2]
              split
              · rename_i h; exfalso; subst hS; simp [std] at h
              cbv
              refine req_i hS (by subst hS; exact wrap64 (by simp [std]; omega) (by simp [std]; omega)) ?_
              refine hN (j + 1) _ ⟨by omega, hall⟩ (by omega) (le_mk rfl ⟨Like.refl _, Like.refl _, Like.refl _, Like.refl _, lk_v (by subst hS; simp [std]), trivial⟩ (.cons (.refl _) (.cons (.refl _) (.cons (.refl _) (.cons (.refl _) (.cons (.refl _) (.cons (.refl _) (.cons (.refl _) (.cons (.refl _) (.nil _))))))))) (by simp; omega) (.inr rfl) rfl)
          · cbv
            refine callb_i hS _ haw ?_
            cbv
            exact Like.refl _
  · cbv
    have hA : Like (.agg [csl nc ch, .d (.sl 5 1 (Vf.rowAt [[.int .u8 (.v o1), .int .i64 (.v o2), .int .i64 (.v o3), .int .i64 (.v o4), .int .i64 (.v o5)]])), isl nr rt]) c'.av := by
      rw [hav]
      exact Likes.agg (.cons (Like.refl _) (.cons (Like.slr (by omega) fun i hi => hrow0 b2 i hi) (.cons (Like.refl _) .nil)))
    repeat' (with_reducible apply req_i hS)
    all_goals try (subst hS; simp [std, nat, IX.val, big] at * <;> omega)
    refine callb_i hS _ (hck'.like (.cons hA .nil)) ?_
    cbv
    split
    · cbv
      refine callb_i hS _ haw ?_
      cbv
      exact Like.refl _
    have hz : e2 = 0 := by subst hS; simp [std] at *; assumption
    subst hz
    obtain ⟨d1, d2, d3, d4⟩ := h0' rfl
    obtain ⟨m', g', q3, q4⟩ := hbu' (by rw [hc']; exact hbig') d1 d2 d3 d4
    have hio' := hord' d3 m' g' q3
    rw [hc'nc] at hio'
    cbv
    repeat' (with_reducible apply req_i hS)
    all_goals try (subst hS; simp [std, nat, IX.val, big] at * <;> omega)
    refine callb_i hS _ (hcp'.like (.cons hA .nil)) ?_
    cbv
    refine callb_i hS _ q4 ?_
    cbv
    split
    · rename_i h; exfalso; subst hS; simp [std] at h
    cbv
    refine req_i hS (by subst hS; simp [std]) ?_
    refine callb_i hS (bool true) ((isOrder38 (by omega) (by have := hio'.1; omega) (fun _ => 0) g' true (by simp; exact hio')).like (.cons hsz (.cons (Like.refl _) .nil))) ?_
    cbv
    refine req_i hS (by subst hS; simp [std]) (req_i hS (by subst hS; simp [std, big]; omega) ?_)
    refine loop_i Tryz.mixed okP hS (σ := Nat × (Nat → Bool)) (fun s => s.1 ≤ no ∧ ∀ k, k < nc → (s.2 k = true ↔ (k : Int) ∈ uses op s.1)) (fun s => no - s.1)
      (fun s => ⟨mkTs [(2, .ptr 0 0), (5, isl m g), (9, isl m' g'), (11, .msl 8 1 none nc false), (12, int s.1)] 146, [.var [csl nc ch, osl no op, isl nr rt], .var [.any, .any, .any, .any, .any], arrI nc (fun _ => 0), V3, V3, .frz 3 nc (fun i => (ch i).row), V3, .frz 5 (no + 1) (fun i => (c'.op i).row), arrB nc s.2], [7]⟩) (0, fun _ => false) ⟨by simp, by simp [uses]⟩ ?_ ?_
    · refine le_mk rfl ⟨Like.refl _, Like.refl _, Like.refl _, (by subst hS; exact Like.refl _), lk_l rfl, trivial⟩ (.cons (.refl _) (.cons (LikeO.var (.cons (.any _) (.cons (.any _) (.cons (.any _) (.cons (.any _) (.cons (.any _) .nil)))))) (.cons (LikeO.arrr (by subst hS; rfl) (fun i hi => by subst hS; simp only [std] at hi ⊢; rw [if_pos hi]; exact .one (.int rfl))) (.cons likeV3 (.cons likeV3 (.cons (.refl _) (.cons likeV3 (.cons (LikeO.frzr (by omega) (fun i hi => hrow0 b2 i hi)) (.cons (LikeO.arrB (by subst hS; rfl) (fun i hi => by subst hS; simp only [std] at hi ⊢; rw [if_pos hi])) (.nil _)))))))))) (by simp; omega) (.inr rfl) rfl
    · rintro ⟨i, u⟩ ⟨hi1, hi2⟩ N hN
      simp only at hi1 hi2 hN
      cbv
      split
      · have hlt : i < no := by subst hS; simp [std] at *; omega
        have hcd := opOk_code (a3 i hlt)
        have hml := fun k z1 z2 z3 hu h1 h2 h3 => marks_law (op := op) (i := i) (u := u) (k := k) hcd hu (z1 := z1) (z2 := z2) (z3 := z3) h1 h2 h3
        have hop := fun x => opList_mark hcd (a := x)
        have hix := op_idx a3 i hlt
        simp only at hcd hix hop hml
        cbv
        refine req_i hS (by subst hS; simp [std]; omega) ?_
        rcases hoa : op i with ⟨cd, oa, ob, oc, on⟩
        rw [hoa] at hcd hop hix hml
        simp only at hcd hop hix hml
        have hz1 : Sg.ilt ((4 : Nat) : Int) cd = true ↔ 4 < cd := by subst hS; simp [std]
        have hz2 : Sg.ilt ((6 : Nat) : Int) cd = true ↔ 6 < cd := by subst hS; simp [std]
        have hz3 : Sg.ieq cd ((17 : Nat) : Int) = true ↔ cd = 17 := by subst hS; simp [std]
        have hin : ∀ a, a ∈ opList ⟨cd, oa, ob, oc, on⟩ → (0 ≤ a ∧ a < no) ∧ ((op a.toNat).code = 3 → 0 ≤ (op a.toNat).n ∧ (op a.toNat).n < nc) := fun a ha => by
          have h1 := hix a ha
          have h2 : (i : Int) < no := Int.ofNat_lt.2 hlt
          exact ⟨⟨h1.1.1, Int.lt_trans h1.1.2 h2⟩, h1.2⟩
        simp only [nat, ett, Int.ofNat_eq_natCast, Int.toNat_natCast, hoa]
        refine call_c hS (ACall.frame (mark39 ⟨nc, ch, no, op, nr, rt⟩ (Sg.ilt ((4 : Nat) : Int) cd) oa u (fun h => (hin oa ((hop oa).2 (.inl ⟨hz1.1 h, rfl⟩))).1) (fun h => (hin oa ((hop oa).2 (.inl ⟨hz1.1 h, rfl⟩))).2) hbig.1) [8] rfl rfl ⟨LikeO.refl _, trivial⟩) ?_
        rintro pg v H' ⟨pg0, v0, h0, ⟨rfl, rfl⟩, rfl, rfl, rfl⟩
        cbv
        refine call_c hS (ACall.frame (mark39 ⟨nc, ch, no, op, nr, rt⟩ (Sg.ilt ((6 : Nat) : Int) cd) ob (mk1 op (Sg.ilt ((4 : Nat) : Int) cd) oa u) (fun h => (hin ob ((hop ob).2 (.inr (.inl ⟨hz2.1 h, rfl⟩)))).1) (fun h => (hin ob ((hop ob).2 (.inr (.inl ⟨hz2.1 h, rfl⟩)))).2) hbig.1) [8] rfl rfl ⟨LikeO.refl _, trivial⟩) ?_
        rintro pg v H' ⟨pg0, v0, h0, ⟨rfl, rfl⟩, rfl, rfl, rfl⟩
        cbv
        refine call_c hS (ACall.frame (mark39 ⟨nc, ch, no, op, nr, rt⟩ (Sg.ieq cd ((17 : Nat) : Int)) oc (mk1 op (Sg.ilt ((6 : Nat) : Int) cd) ob (mk1 op (Sg.ilt ((4 : Nat) : Int) cd) oa u)) (fun h => (hin oc ((hop oc).2 (.inr (.inr ⟨hz3.1 h, rfl⟩)))).1) (fun h => (hin oc ((hop oc).2 (.inr (.inr ⟨hz3.1 h, rfl⟩)))).2) hbig.1) [8] rfl rfl ⟨LikeO.refl _, trivial⟩) ?_
        rintro pg v H' ⟨pg0, v0, h0, ⟨rfl, rfl⟩, rfl, rfl, rfl⟩
        cbv
        refine req_i hS (by subst hS; exact wrap64 (by simp [std]; omega) (by simp [std]; omega)) ?_
        refine hN (i + 1, mk1 op (Sg.ieq cd ((17 : Nat) : Int)) oc (mk1 op (Sg.ilt ((6 : Nat) : Int) cd) ob (mk1 op (Sg.ilt ((4 : Nat) : Int) cd) oa u))) _ ⟨by simp; omega, fun k hk => hml k _ _ _ (hi2 k hk) hz1 hz2 hz3⟩ (by simp; omega) (le_mk rfl ⟨Like.refl _, Like.refl _, Like.refl _, Like.refl _, lk_v (by subst hS; simp [std]), trivial⟩ (.cons (.refl _) (.cons (.refl _) (.cons (.refl _) (.cons (.refl _) (.cons (.refl _) (.cons (.refl _) (.cons (.refl _) (.cons (.refl _) (.cons (.refl _) (.nil _)))))))))) (by simp; omega) (.inl ⟨rfl, rfl⟩) rfl)
      · have hin : no = i := by subst hS; simp [std] at *; omega
        subst hin
        have hsm := fun i hi hu => hsame a3 m m' g g' q1 q3 i hi hu
        cbv
        refine loop_i Tryz.mixed okP hS (σ := Nat) (fun j => j ≤ m ∧ ∀ k, k < j → g k ∈ uses op no) (fun j => m - j)
          (fun j => ⟨mkTs [(2, .ptr 0 0), (5, isl m g), (9, isl m' g'), (11, .msl 8 1 none nc false), (14, int j)] 146, [.var [csl nc ch, osl no op, isl nr rt], .var [.any, .any, .any, .any, .any], arrI nc (fun _ => 0), V3, V3, .frz 3 nc (fun i => (ch i).row), V3, .frz 5 (no + 1) (fun i => (c'.op i).row), arrB nc u], [7]⟩) 0 ⟨by simp, by simp⟩ ?_ ?_
        · exact le_mk rfl ⟨Like.refl _, Like.refl _, Like.refl _, Like.refl _, lk_l rfl, trivial⟩ (.cons (.refl _) (.cons (.refl _) (.cons (.refl _) (.cons (.refl _) (.cons (.refl _) (.cons (.refl _) (.cons (.refl _) (.cons (.refl _) (.cons (.refl _) (.nil _)))))))))) (by simp; omega) (.inr rfl) rfl
        · rintro j ⟨hj1, hj2⟩ N hN
          cbv
          split
          · have hlj : j < m := by subst hS; simp [std] at *; omega
            obtain ⟨x, hx, hgx⟩ := hgs j hlj
            have hxn : (g j).toNat = x := by rw [hgx]; exact Int.toNat_natCast x
            cbv
            refine req_i hS (by subst hS; simp [std]; omega) ?_
            refine req_i hS (by subst hS; show 0 ≤ g j ∧ g j < (nc : Int); rw [hgx]; exact ⟨Int.natCast_nonneg x, Int.ofNat_lt.2 hx⟩) ?_
            simp only [nat, ett, Int.ofNat_eq_natCast, Int.toNat_natCast, hxn]
            refine req_i hS (by subst hS; exact hx) ?_
            have hux := hi2 x hx
            rw [← hgx] at hux
            cases hu : u x
            · cbv
              refine callb_i hS _ haw ?_
              cbv
              exact Like.refl _
            · have hall : ∀ k, k < j + 1 → g k ∈ uses op no := fun k hk => by
                by_cases e : k = j
                · subst e; exact hux.1 hu
                · exact hj2 k (by omega)
              obtain ⟨f1, f2⟩ := hsm j hlj fun k hk => hall k (by omega)
              cbv
              refine req_i hS (by subst hS; simp [std]; omega) ?_
              refine req_i hS (by subst hS; simp [std]; omega) ?_
              simp only [nat, ett, Int.ofNat_eq_natCast, Int.toNat_natCast, f2]
              split
              · rename_i h; exfalso; subst hS; simp [std] at h
              cbv
              refine req_i hS (by subst hS; exact wrap64 (by simp [std]; omega) (by simp [std]; omega)) ?_
              refine hN (j + 1) _ ⟨by omega, hall⟩ (by omega) (le_mk rfl ⟨Like.refl _, Like.refl _, Like.refl _, Like.refl _, lk_v (by subst hS; simp [std]), trivial⟩ (.cons (.refl _) (.cons (.refl _) (.cons (.refl _) (.cons (.refl _) (.cons (.refl _) (.cons (.refl _) (.cons (.refl _) (.cons (.refl _) (.cons (.refl _) (.nil _)))))))))) (by simp; omega) (.inr rfl) rfl)
          · cbv
            refine callb_i hS _ haw ?_
            cbv
            exact Like.refl _
  · cbv
    have hA : Like (.agg [csl nc ch, .d (.sl 5 (Sg.nadd no 1) (Sg.app no (fun i => (op i).row) (Vf.rowAt [[.int .u8 (.v o1), .int .i64 (.v o2), .int .i64 (.v o3), .int .i64 (.v o4), .int .i64 (.v o5)]]))), isl nr rt]) c'.av := by
      rw [hav]
      exact Likes.agg (.cons (Like.refl _) (.cons (Like.slr (by subst hS; rfl) fun i hi => hrow i hi) (.cons (Like.refl _) .nil)))
    repeat' (with_reducible apply req_i hS)
    all_goals try (subst hS; simp [std, nat, IX.val, big] at * <;> omega)
    refine callb_i hS _ (hck'.like (.cons hA .nil)) ?_
    cbv
    split
    · cbv
      refine callb_i hS _ haw ?_
      cbv
      exact Like.refl _
    have hz : e2 = 0 := by subst hS; simp [std] at *; assumption
    subst hz
    obtain ⟨d1, d2, d3, d4⟩ := h0' rfl
    obtain ⟨m', g', q3, q4⟩ := hbu' (by rw [hc']; exact hbig') d1 d2 d3 d4
    have hio' := hord' d3 m' g' q3
    rw [hc'nc] at hio'
    cbv
    repeat' (with_reducible apply req_i hS)
    all_goals try (subst hS; simp [std, nat, IX.val, big] at * <;> omega)
    refine callb_i hS _ (hcp'.like (.cons hA .nil)) ?_
    cbv
    refine callb_i hS _ q4 ?_
    cbv
    split
    · rename_i h; exfalso; subst hS; simp [std] at h
    cbv
    refine req_i hS (by subst hS; simp [std]) ?_
    refine callb_i hS (bool true) ((isOrder38 (by omega) (by have := hio'.1; omega) (fun _ => 0) g' true (by simp; exact hio')).like (.cons hsz (.cons (Like.refl _) .nil))) ?_
    cbv
    refine req_i hS (by subst hS; simp [std]) (req_i hS (by subst hS; simp [std, big]; omega) ?_)
    refine loop_i Tryz.mixed okP hS (σ := Nat × (Nat → Bool)) (fun s => s.1 ≤ no ∧ ∀ k, k < nc → (s.2 k = true ↔ (k : Int) ∈ uses op s.1)) (fun s => no - s.1)
      (fun s => ⟨mkTs [(2, .ptr 0 0), (5, isl m g), (9, isl m' g'), (11, .msl 8 1 none nc false), (12, int s.1)] 146, [.var [csl nc ch, osl no op, isl nr rt], .var [.any, .any, .any, .any, .any], arrI nc (fun _ => 0), V3, V3, .frz 3 nc (fun i => (ch i).row), .frz 5 (no + 1) (fun i => (c'.op i).row), V3, arrB nc s.2], [6]⟩) (0, fun _ => false) ⟨by simp, by simp [uses]⟩ ?_ ?_
    · refine le_mk rfl ⟨Like.refl _, Like.refl _, Like.refl _, (by subst hS; exact Like.refl _), lk_l rfl, trivial⟩ (.cons (.refl _) (.cons (LikeO.var (.cons (.any _) (.cons (.any _) (.cons (.any _) (.cons (.any _) (.cons (.any _) .nil)))))) (.cons (LikeO.arrr (by subst hS; rfl) (fun i hi => by subst hS; simp only [std] at hi ⊢; rw [if_pos hi]; exact .one (.int rfl))) (.cons likeV3 (.cons likeV3 (.cons (.refl _) (.cons (LikeO.frzr (by subst hS; rfl) (fun i hi => hrow i hi)) (.cons likeV3 (.cons (LikeO.arrB (by subst hS; rfl) (fun i hi => by subst hS; simp only [std] at hi ⊢; rw [if_pos hi])) (.nil _)))))))))) (by simp; omega) (.inr rfl) rfl
    · rintro ⟨i, u⟩ ⟨hi1, hi2⟩ N hN
      simp only at hi1 hi2 hN
      cbv
      split
      · have hlt : i < no := by subst hS; simp [std] at *; omega
        have hcd := opOk_code (a3 i hlt)
        have hml := fun k z1 z2 z3 hu h1 h2 h3 => marks_law (op := op) (i := i) (u := u) (k := k) hcd hu (z1 := z1) (z2 := z2) (z3 := z3) h1 h2 h3
        have hop := fun x => opList_mark hcd (a := x)
        have hix := op_idx a3 i hlt
        simp only at hcd hix hop hml
        cbv
        refine req_i hS (by subst hS; simp [std]; omega) ?_
        rcases hoa : op i with ⟨cd, oa, ob, oc, on⟩
        rw [hoa] at hcd hop hix hml
        simp only at hcd hop hix hml
        have hz1 : Sg.ilt ((4 : Nat) : Int) cd = true ↔ 4 < cd := by subst hS; simp [std]
        have hz2 : Sg.ilt ((6 : Nat) : Int) cd = true ↔ 6 < cd := by subst hS; simp [std]
        have hz3 : Sg.ieq cd ((17 : Nat) : Int) = true ↔ cd = 17 := by subst hS; simp [std]
        have hin : ∀ a, a ∈ opList ⟨cd, oa, ob, oc, on⟩ → (0 ≤ a ∧ a < no) ∧ ((op a.toNat).code = 3 → 0 ≤ (op a.toNat).n ∧ (op a.toNat).n < nc) := fun a ha => by
          have h1 := hix a ha
          have h2 : (i : Int) < no := Int.ofNat_lt.2 hlt
          exact ⟨⟨h1.1.1, Int.lt_trans h1.1.2 h2⟩, h1.2⟩
        simp only [nat, ett, Int.ofNat_eq_natCast, Int.toNat_natCast, hoa]
        refine call_c hS (ACall.frame (mark39 ⟨nc, ch, no, op, nr, rt⟩ (Sg.ilt ((4 : Nat) : Int) cd) oa u (fun h => (hin oa ((hop oa).2 (.inl ⟨hz1.1 h, rfl⟩))).1) (fun h => (hin oa ((hop oa).2 (.inl ⟨hz1.1 h, rfl⟩))).2) hbig.1) [8] rfl rfl ⟨LikeO.refl _, trivial⟩) ?_
        rintro pg v H' ⟨pg0, v0, h0, ⟨rfl, rfl⟩, rfl, rfl, rfl⟩
        cbv
        refine call_c hS (ACall.frame (mark39 ⟨nc, ch, no, op, nr, rt⟩ (Sg.ilt ((6 : Nat) : Int) cd) ob (mk1 op (Sg.ilt ((4 : Nat) : Int) cd) oa u) (fun h => (hin ob ((hop ob).2 (.inr (.inl ⟨hz2.1 h, rfl⟩)))).1) (fun h => (hin ob ((hop ob).2 (.inr (.inl ⟨hz2.1 h, rfl⟩)))).2) hbig.1) [8] rfl rfl ⟨LikeO.refl _, trivial⟩) ?_
        rintro pg v H' ⟨pg0, v0, h0, ⟨rfl, rfl⟩, rfl, rfl, rfl⟩
        cbv
        refine call_c hS (ACall.frame (mark39 ⟨nc, ch, no, op, nr, rt⟩ (Sg.ieq cd ((17 : Nat) : Int)) oc (mk1 op (Sg.ilt ((6 : Nat) : Int) cd) ob (mk1 op (Sg.ilt ((4 : Nat) : Int) cd) oa u)) (fun h => (hin oc ((hop oc).2 (.inr (.inr ⟨hz3.1 h, rfl⟩)))).1) (fun h => (hin oc ((hop oc).2 (.inr (.inr ⟨hz3.1 h, rfl⟩)))).2) hbig.1) [8] rfl rfl ⟨LikeO.refl _, trivial⟩) ?_
        rintro pg v H' ⟨pg0, v0, h0, ⟨rfl, rfl⟩, rfl, rfl, rfl⟩
        cbv
        refine req_i hS (by subst hS; exact wrap64 (by simp [std]; omega) (by simp [std]; omega)) ?_
        refine hN (i + 1, mk1 op (Sg.ieq cd ((17 : Nat) : Int)) oc (mk1 op (Sg.ilt ((6 : Nat) : Int) cd) ob (mk1 op (Sg.ilt ((4 : Nat) : Int) cd) oa u))) _ ⟨by simp; omega, fun k hk => hml k _ _ _ (hi2 k hk) hz1 hz2 hz3⟩ (by simp; omega) (le_mk rfl ⟨Like.refl _, Like.refl _, Like.refl _, Like.refl _, lk_v (by subst hS; simp [std]), trivial⟩ (.cons (.refl _) (.cons (.refl _) (.cons (.refl _) (.cons (.refl _) (.cons (.refl _) (.cons (.refl _) (.cons (.refl _) (.cons (.refl _) (.cons (.refl _) (.nil _)))))))))) (by simp; omega) (.inl ⟨rfl, rfl⟩) rfl)
      · have hin : no = i := by subst hS; simp [std] at *; omega
        subst hin
        have hsm := fun i hi hu => hsame a3 m m' g g' q1 q3 i hi hu
        cbv
        refine loop_i Tryz.mixed okP hS (σ := Nat) (fun j => j ≤ m ∧ ∀ k, k < j → g k ∈ uses op no) (fun j => m - j)
          (fun j => ⟨mkTs [(2, .ptr 0 0), (5, isl m g), (9, isl m' g'), (11, .msl 8 1 none nc false), (14, int j)] 146, [.var [csl nc ch, osl no op, isl nr rt], .var [.any, .any, .any, .any, .any], arrI nc (fun _ => 0), V3, V3, .frz 3 nc (fun i => (ch i).row), .frz 5 (no + 1) (fun i => (c'.op i).row), V3, arrB nc u], [6]⟩) 0 ⟨by simp, by simp⟩ ?_ ?_
        · exact le_mk rfl ⟨Like.refl _, Like.refl _, Like.refl _, Like.refl _, lk_l rfl, trivial⟩ (.cons (.refl _) (.cons (.refl _) (.cons (.refl _) (.cons (.refl _) (.cons (.refl _) (.cons (.refl _) (.cons (.refl _) (.cons (.refl _) (.cons (.refl _) (.nil _)))))))))) (by simp; omega) (.inr rfl) rfl
        · rintro j ⟨hj1, hj2⟩ N hN
          cbv
          split
          · have hlj : j < m := by subst hS; simp [std] at *; omega
            obtain ⟨x, hx, hgx⟩ := hgs j hlj
            have hxn : (g j).toNat = x := by rw [hgx]; exact Int.toNat_natCast x
            cbv
            refine req_i hS (by subst hS; simp [std]; omega) ?_
            refine req_i hS (by subst hS; show 0 ≤ g j ∧ g j < (nc : Int); rw [hgx]; exact ⟨Int.natCast_nonneg x, Int.ofNat_lt.2 hx⟩) ?_
            simp only [nat, ett, Int.ofNat_eq_natCast, Int.toNat_natCast, hxn]
            refine req_i hS (by subst hS; exact hx) ?_
            have hux := hi2 x hx
            rw [← hgx] at hux
            cases hu : u x
            · cbv
              refine callb_i hS _ haw ?_
              cbv
              exact Like.refl _
            · have hall : ∀ k, k < j + 1 → g k ∈ uses op no := fun k hk => by
                by_cases e : k = j
                · subst e; exact hux.1 hu
                · exact hj2 k (by omega)
              obtain ⟨f1, f2⟩ := hsm j hlj fun k hk => hall k (by omega)
              cbv
              refine req_i hS (by subst hS; simp [std]; omega) ?_
              refine req_i hS (by subst hS; simp [std]; omega) ?_
              simp only [nat, ett, Int.ofNat_eq_natCast, Int.toNat_natCast, f2]
              split
              · rename_i h; exfalso; subst hS; simp [std] at h
              cbv
              refine req_i hS (by subst hS; exact wrap64 (by simp [std]; omega) (by simp [std]; omega)) ?_
              refine hN (j + 1) _ ⟨by omega, hall⟩ (by omega) (le_mk rfl ⟨Like.refl _, Like.refl _, Like.refl _, Like.refl _, lk_v (by subst hS; simp [std]), trivial⟩ (.cons (.refl _) (.cons (.refl _) (.cons (.refl _) (.cons (.refl _) (.cons (.refl _) (.cons (.refl _) (.cons (.refl _) (.cons (.refl _) (.cons (.refl _) (.nil _)))))))))) (by simp; omega) (.inr rfl) rfl)
          · cbv
            refine callb_i hS _ haw ?_
            cbv
            exact Like.refl _

end Go.Proofs.Tryz.Run
