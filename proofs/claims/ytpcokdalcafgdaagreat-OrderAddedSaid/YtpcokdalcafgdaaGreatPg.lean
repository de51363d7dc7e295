/- The program's Check of a core. Conditions: none. -/
import Derived.Test.YtpcokdalcafgdaaGreatPf
set_option linter.unusedSimpArgs false
set_option linter.unusedVariables false
namespace Go.Proofs.Tryz.Run
open Go Go.Vf Go.Proofs
open Go.Proofs.YtpcokdalcafgdaaGreat

set_option maxHeartbeats 4000000 in
theorem check69 (c : CoR) (r : Int) (hr : coErr c = r) (hbig : c.nc ≤ 1000000 ∧ c.no ≤ 1000000 ∧ c.nr ≤ 1000000) : PureF Tryz.prog true 69 [c.av] (int r) := by
  refine pure_int (pureF_of_fn Tryz.mixed okP ok69 _ rfl fun E Sg hb hS => ?_)
  unfold coErr at hr
  have h5 : ¬ limOk c → 5 = r := fun h => by rw [← hr, if_pos h]
  have h3 : limOk c → ¬ chsOk c → 3 = r := fun h g => by rw [← hr, if_neg (fun k => k h), if_pos g]
  have h4 : limOk c → chsOk c → ¬ (opsOk c ∧ rtsOk c) → 4 = r := fun h g k => by rw [← hr, if_neg (fun k => k h), if_neg (fun k => k g), if_neg k]
  have h0 : limOk c → chsOk c → opsOk c → rtsOk c → 0 = r := fun h g k l => by rw [← hr, if_neg (fun k => k h), if_neg (fun k => k g), if_pos ⟨k, l⟩]
  clear hr
  obtain ⟨zc, hzc⟩ : ∃ z : Bool, z = true ↔ ¬ chsOk c := by classical exact ⟨decide _, decide_eq_true_iff⟩
  obtain ⟨zr, hzr⟩ : ∃ z : Bool, z = true ↔ rtsOk c := by classical exact ⟨decide _, decide_eq_true_iff⟩
  have hcc := contains102 hbig.1 c.ch zc hzc
  have hrr := within104 0 ((c.no : Int) - 1) hbig.2.2 c.rt zr hzr
  have hop := fun (at' : Nat) (hat : at' < c.no) (z : Bool) hz => isOp105 c.nc c.ch c.no c.op c.nr c.rt at' hbig.1 hbig.2.1 hat z hz
  obtain ⟨nc, ch, no, op, nr, rt⟩ := c
  simp only [limOk, chsOk, opsOk, rtsOk] at h5 h3 h4 h0 hbig hcc hrr hop hzc hzr
  cbv
  split
  · cbv
    exact lk_l (h5 (by subst hS; simp [std] at *; omega))
  cbv
  split
  · cbv
    exact lk_l (h5 (by subst hS; simp [std] at *; omega))
  cbv
  split
  · cbv
    exact lk_l (h5 (by subst hS; simp [std] at *; omega))
  have hlim : nc ≤ 6 ∧ no ≤ 3000 ∧ nr ≤ 3000 := by subst hS; simp [std] at *; omega
  cbv
  refine callb_i hS _ hcc ?_
  cases zc
  rotate_left
  · cbv
    exact lk_l (h3 hlim (hzc.1 rfl))
  have hch : ∀ i, i < nc → chOk (ch i) := Classical.byContradiction fun h => Bool.noConfusion (hzc.2 h)
  cbv
  refine req_i hS (by subst hS; exact wrap64 (by simp [std]; omega) (by simp [std]; omega)) ?_
  refine callb_i hS (bool zr) (by subst hS; exact hrr) ?_
  cases zr
  · cbv
    exact lk_l (h4 hlim hch fun h => Bool.noConfusion (hzr.2 h.2))
  have hrt := hzr.1 rfl
  cbv
  refine loop_i Tryz.mixed okP hS (fun i => i ≤ no ∧ ∀ j, j < i → opOk (op j) j nc) (fun i => no - i)
    (fun i => ⟨mkTs [(1, .ptr 0 0), (32, int no), (33, int i)] 41, [.var [csl nc ch, osl no op, isl nr rt]], []⟩) 0 ⟨by omega, by omega⟩ ?_ ?_
  · exact le_mk rfl ⟨Like.refl _, lk_v (by subst hS; rfl), lk_l rfl, trivial⟩ (.cons (.refl _) (.nil _)) (by omega) (.inr rfl) rfl
  · intro i hi N hN
    cbv
    split
    · have hlt : i < no := by subst hS; simp [std] at *; omega
      cbv
      obtain ⟨z, hz⟩ : ∃ z : Bool, z = true ↔ opOk (op i) i nc := by classical exact ⟨decide _, decide_eq_true_iff⟩
      refine callb_i hS _ (hop i hlt z hz) ?_
      cases z
      · cbv
        exact lk_l (h4 hlim hch fun h => Bool.noConfusion (hz.2 (h.1 i hlt)))
      · cbv
        refine req_i hS (by subst hS; exact wrap64 (by simp [std]; omega) (by simp [std]; omega)) ?_
        refine hN (i + 1) _ ⟨by omega, fun j hj => ?_⟩ (by omega) (le_mk rfl ⟨Like.refl _, Like.refl _, lk_v (by subst hS; simp [std]), trivial⟩ (.cons (.refl _) (.nil _)) (by omega) (.inr rfl) rfl)
        by_cases e : j = i
        · subst e; exact hz.1 rfl
        · exact hi.2 j (by omega)
    · cbv
      exact lk_l (h0 hlim hch (by subst hS; simp [std] at *; exact fun j hj => hi.2 j (by omega)) hrt)

end Go.Proofs.Tryz.Run
