/- The runner's twelfth text: regions that draw their order, code. The runner's last text: calls, rounds, fuel: what a run shows. Conditions: none. -/
import Derived.Test.YtbglklaocjifhaaGreatMm
set_option linter.unusedSimpArgs false
set_option linter.unusedVariables false

namespace Go.Vf
open Go

section
variable {P : Program} {X : XS} {base : Nat} {t : TS} {h : CH} {mv : List Nat} {st : St}

theorem xrecheck_ok (x : XOk P X) (r : SR P base t h mv st) {b0 : Nat} {k : Unit → Bool} {F : List DOper} : xrecheck X b0 t h k F = true → k () = true ∧ ∀ S, Sd P S → ∀ p : Prop, p → recheck S b0 st p F := by
  induction F with
  | nil => intro hk; exact ⟨hk, fun S _ p hp => hp⟩
  | cons d F ih =>
    intro hk
    simp only [xrecheck] at hk
    cases e : klEq d.o.op.kl .r with
    | false =>
      rw [e] at hk
      obtain ⟨h1, h2⟩ := ih hk
      exact ⟨h1, fun S hS p hp => by simp only [recheck, if_neg (klEq_no e)]; exact h2 S hS p hp⟩
    | true =>
      rw [e] at hk
      have ek := klEq_ok e
      rcases xguard_ok (st := st) r.ts hk with ⟨hk, hg⟩ | ⟨hk, hg⟩
      · obtain ⟨h1, h2⟩ := ih hk
        exact ⟨h1, fun S hS p hp => by simp only [recheck, if_pos ek]; exact guarded_off hg (h2 S hS p hp)⟩
      · obtain ⟨h1, hk⟩ := xavOk_ok r.ts hk
        obtain ⟨v, h', hl', pg, hk, _, h2⟩ := xstep_ok x r.ts r.h hk
        cases e2 : d.o.dst with
        | none =>
          simp only [e2] at hk
          obtain ⟨h3, h4⟩ := ih hk
          refine ⟨h3, fun S hS p hp => ?_⟩
          simp only [recheck, if_pos ek]
          refine guarded_on hg ?_
          rw [if_pos h1]
          refine h2 S hS _ _ ?_
          simp only [e2]
          exact h4 S hS p hp
        | some j =>
          simp only [e2] at hk
          obtain ⟨u, h5, hk⟩ := r.ts.get hk
          obtain ⟨h6, hk⟩ := reqB_ok hk
          obtain ⟨h3, h4⟩ := ih hk
          refine ⟨h3, ?_⟩
          rintro S ⟨A, ro, E, rfl⟩ p hp
          simp only [recheck, if_pos ek]
          refine guarded_on hg ?_
          rw [if_pos h1]
          refine h2 _ ⟨A, ro, E, rfl⟩ _ _ ?_
          simp only [e2]
          refine And.intro (show v.to = opd st.ts (.t j) from ?_) (h4 _ ⟨A, ro, E, rfl⟩ p hp)
          simp only [opd, h5, caEq_ok v u h6]

end

mutual
theorem xcleanV_eq (pg : List Nat) : (v : CA) → xcleanV pg v = cleanV pg v.to
  | .agg cs => by simp only [xcleanV, CA.to, cleanV, xcleanL_eq pg cs]
  | .tuple cs => by simp only [xcleanV, CA.to, cleanV, xcleanL_eq pg cs]
  | .fn f us cs => by
    simp only [xcleanV, CA.to, cleanV, xcleanL_eq pg us, xcleanL_eq pg cs]
    cases cleanL pg (CA.toL us) <;> rfl
  | .d _ => rfl
  | .any => rfl
  | .und => rfl
  | .ptr .. => rfl
  | .aptr .. => rfl
  | .dptr .. => rfl
  | .dfs .. => rfl
  | .msl .. => rfl
  | .vsl .. => rfl
  | .map _ => rfl
  | .ge _ => rfl
  | .yl _ => rfl
theorem xcleanL_eq (pg : List Nat) : (vs : List CA) → xcleanL pg vs = cleanL pg (CA.toL vs)
  | [] => rfl
  | v :: vs => by
    simp only [xcleanL, CA.toL, cleanL, xcleanV_eq pg v, xcleanL_eq pg vs]
    cases cleanV pg v.to <;> rfl
end

section
variable {P : Program} {X : XS} {base : Nat} {t : TS} {h : CH} {mv : List Nat} {st : St}

theorem xcleanT_ok {ts : List AV} (r : RT t ts) {pg : List Nat} {l : List Nat} {k : Unit → Bool} (hk : xcleanT pg t l k = true) : cleanT pg ts l = true ∧ k () = true := by
  induction l with
  | nil => exact ⟨rfl, hk⟩
  | cons j l ih =>
    simp only [xcleanT] at hk
    obtain ⟨v, h1, hk⟩ := r.get hk
    obtain ⟨h2, hk⟩ := reqB_ok hk
    obtain ⟨h3, hk⟩ := ih hk
    refine ⟨?_, hk⟩
    simp only [cleanT, h1, ← xcleanV_eq, h2, if_true, h3]

theorem xcalmF_ok {ts : List AV} (r : RT t ts) {pg : List Nat} {F : List DOper} {k : Unit → Bool} (hk : xcalmF pg t F k = true) : calmF pg ts F = true ∧ k () = true := by
  induction F with
  | nil => exact ⟨rfl, hk⟩
  | cons d F ih =>
    simp only [xcalmF] at hk
    obtain ⟨h1, hk⟩ := xcleanT_ok r hk
    obtain ⟨h2, hk⟩ := xcleanT_ok r hk
    obtain ⟨h3, hk⟩ := ih hk
    exact ⟨by simp only [calmF, h1, h2, h3, if_true], hk⟩

theorem xD_ok (x : XOk P X) (r : SR P base t h mv st) {b0 : Nat} {F : List DOper} {d : DOper} {k : TS → CH → List Nat → Bool} (hk : xD X base b0 F d t h mv k = true) :
    ∃ t' h' mv' st', k t' h' mv' = true ∧ SR P base t' h' mv' st' ∧ ∀ S, Sd P S → ∀ K : St → Prop, K st' → evD S b0 F d st K := by
  unfold xD at hk
  cases e : d.o.op.kl with
  | a =>
    simp only [e, fN_eq] at hk
    obtain ⟨v, o', ao, hk, hR, h1⟩ := xstepA_ok (P := P) (st := st) r.ts hk
    obtain ⟨h', hk, hr⟩ := r.h.sets hk
    have r1 : SR P base t h' mv (st.setH (lset st.h (b0 + d.slot) ao)) := ⟨r.ts, hr _ hR, r.mv⟩
    obtain ⟨t', r2, hk⟩ := xputS_ok r1 hk
    exact ⟨t', h', mv, _, hk, r2, fun S hS K hK => by simp only [evD, e]; exact h1 S hS _ hK⟩
  | m =>
    simp only [e] at hk
    obtain ⟨h1, hk⟩ := xavOk_ok r.ts hk
    obtain ⟨v, h', hl', pg, hk, rh', h2⟩ := xstep_ok x r.ts r.h hk
    cases pg with
    | nil =>
      simp only at hk
      have r1 : SR P base t h' mv (st.setH hl') := ⟨r.ts, rh', r.mv⟩
      obtain ⟨t', r2, hk⟩ := xputS_ok r1 hk
      obtain ⟨hk, h3⟩ := xrecheck_ok x r2 hk
      refine ⟨t', h', mv, _, hk, r2, fun S hS K hK => ?_⟩
      simp only [evD, e, if_pos h1]
      exact h2 S hS _ _ (h3 S hS _ hK)
    | cons p pg =>
      simp only at hk
      cases e2 : d.alone with
      | true =>
        simp only [e2] at hk
        obtain ⟨t', mv', r1, hk⟩ := xpurgeS_ok r.ts r.mv rh' (k := fun ts mv => xputD d.o.dst v ts fun ts => k ts h' mv) hk
        obtain ⟨t'', r2, hk⟩ := xputS_ok r1 hk
        refine ⟨t'', h', mv', _, hk, r2, fun S hS K hK => ?_⟩
        simp only [evD, e, if_pos h1]
        refine h2 S hS _ _ ?_
        simp only [e2, if_true]
        exact hK
      | false =>
        simp only [e2] at hk
        obtain ⟨h3, hk⟩ := reqB_ok hk
        obtain ⟨h4, hk⟩ := xcalmF_ok r.ts hk
        obtain ⟨t', mv', r1, hk⟩ := xpurgeS_ok r.ts r.mv rh' (k := fun ts mv => xputD d.o.dst v ts fun ts => xrecheck X b0 ts h' (fun _ => k ts h' mv) (apart d F)) hk
        obtain ⟨t'', r2, hk⟩ := xputS_ok r1 hk
        obtain ⟨hk, h5⟩ := xrecheck_ok x r2 hk
        refine ⟨t'', h', mv', _, hk, r2, fun S hS K hK => ?_⟩
        simp only [evD, e, if_pos h1]
        refine h2 S hS _ _ ?_
        simp only [e2, h3, h4, if_true]
        exact h5 S hS _ hK
  | r =>
    simp only [e] at hk
    obtain ⟨h1, hk⟩ := xavOk_ok r.ts hk
    obtain ⟨v, h', hl', pg, hk, _, h2⟩ := xstep_ok x r.ts r.h hk
    obtain ⟨t', r2, hk⟩ := xputS_ok r hk
    exact ⟨t', h, mv, _, hk, r2, fun S hS K hK => by simp only [evD, e, if_pos h1]; exact h2 S hS _ _ hK⟩
  | i =>
    simp only [e] at hk
    obtain ⟨v, h', hl', pg, hk, _, h2⟩ := xstep_ok x r.ts r.h hk
    obtain ⟨t', r2, hk⟩ := xputS_ok r hk
    exact ⟨t', h, mv, _, hk, r2, fun S hS K hK => by simp only [evD, e]; exact h2 S hS _ _ hK⟩
  | p =>
    simp only [e] at hk
    obtain ⟨v, h', hl', pg, hk, _, h2⟩ := xstep_ok x r.ts r.h hk
    obtain ⟨t', r2, hk⟩ := xputS_ok r hk
    exact ⟨t', h, mv, _, hk, r2, fun S hS K hK => by simp only [evD, e]; exact h2 S hS _ _ hK⟩

theorem xR_ok (x : XOk P X) {b0 : Nat} {ds : List DOper} : ∀ {F : List DOper} {t : TS} {h : CH} {mv : List Nat} {st : St} (_ : SR P base t h mv st) {k : TS → CH → List Nat → Bool}, xR X base b0 F ds t h mv k = true →
    ∃ t' h' mv' st', k t' h' mv' = true ∧ SR P base t' h' mv' st' ∧ ∀ S, Sd P S → ∀ K : St → Prop, K st' → evR S b0 F ds st K := by
  induction ds with
  | nil => intro F t h mv st r k hk; simp only [xR] at hk; exact ⟨t, h, mv, st, hk, r, fun S hS K hK => hK⟩
  | cons d ds ih =>
    intro F t h mv st r k hk
    simp only [xR] at hk
    rcases xguard_ok (st := st) r.ts hk with ⟨hk, hg⟩ | ⟨hk, hg⟩
    · obtain ⟨t', r1, hk⟩ := xputS_ok (v := .und) r hk
      obtain ⟨t2, h2, mv2, st2, hk, r2, g2⟩ := ih r1 hk
      exact ⟨t2, h2, mv2, st2, hk, r2, fun S hS K hK => by simp only [evR, evDG]; exact guarded_off hg (g2 S hS K hK)⟩
    · obtain ⟨t1, h1, mv1, st1, hk, r1, g1⟩ := xD_ok x r hk
      obtain ⟨t2, h2, mv2, st2, hk, r2, g2⟩ := ih r1 hk
      exact ⟨t2, h2, mv2, st2, hk, r2, fun S hS K hK => by simp only [evR, evDG]; exact guarded_on hg (g1 S hS _ (g2 S hS K hK))⟩

theorem xroom_ok {n : Nat} : ∀ {h : CH} {hl : List AObj} (_ : RH P h hl) {k : CH → Bool}, xroom n h k = true → ∃ h', k h' = true ∧ RH P h' (lapp hl (lrep (.var []) n)) := by
  induction n with
  | zero => intro h hl r k hk; simp only [xroom] at hk; exact ⟨h, hk, by rw [lapp_eq]; simpa [lrep] using r⟩
  | succ n ih =>
    intro h hl r k hk
    simp only [xroom] at hk
    obtain ⟨h', hk, hr⟩ := r.adds hk
    obtain ⟨h'', hk, r'⟩ := ih (hr (.var []) rfl) hk
    refine ⟨h'', hk, ?_⟩
    rw [lapp_eq, lapp_eq] at r'
    rw [lapp_eq]
    simpa [lrep] using r'

theorem xretV_ok {ts : List AV} {hl : List AObj} (r : RT t ts) (rh : RH P h hl) {irs : List IRes} : ∀ {k : List CA → Bool}, xretV t h irs k = true →
    ∃ vs, k vs = true ∧ ∀ S, Sd P S → ∀ (mv : List Nat) (K : List AV → Prop), K (CA.toL vs) → retV S ⟨ts, hl, mv⟩ irs K := by
  induction irs with
  | nil => intro k hk; simp only [xretV] at hk; exact ⟨[], hk, fun S _ mv K hK => hK⟩
  | cons ir irs ih =>
    intro k hk
    cases ir with
    | t i =>
      simp only [xretV] at hk
      obtain ⟨v, h1, hk⟩ := r.get hk
      obtain ⟨vs, hk, h2⟩ := ih hk
      refine ⟨v :: vs, hk, fun S hS mv K hK => ?_⟩
      simp only [retV, opd, h1]
      exact h2 S hS mv _ hK
    | c i ag =>
      simp only [xretV] at hk
      obtain ⟨v, h1, hk⟩ := r.get hk
      obtain ⟨u, hk, h3⟩ := xreadP_ok rh hk
      obtain ⟨vs, hk, h2⟩ := ih hk
      refine ⟨u :: vs, hk, fun S hS mv K hK => ?_⟩
      simp only [retV, opd, h1]
      exact h3 S hS _ (h2 S hS mv _ hK)

theorem xmkRes_to (vs : List CA) : (xmkRes vs).to = mkRes (CA.toL vs) := by
  match vs with
  | [] => rfl
  | [v] => rfl
  | _ :: _ :: _ => rfl

theorem setc_self {c : IOpd} {b : Bool} (h : opd st.ts c = .d (.bool b)) : st.setc c b = st := by
  cases c with
  | c v => rfl
  | t j =>
    simp only [St.setc]
    refine setb_self ?_
    simp only [opd] at h
    split at h
    · rename_i v e; rw [e, h]
    · cases h

theorem xloopEnd_ok {l : Nat} {hl : List AObj} {ts : List AV} {mvA : List Nat} {pg : List Nat} (r : RT t ts) (rh : RH P h hl) (hm : MV base mvA mv) {k : Lv → TS → CH → List Nat → Bool} (hk : xloopEnd base l t h pg mv k = true) :
    ∃ lv t' h' mv' st', k lv t' h' mv' = true ∧ SR P base t' h' mv' st' ∧ ∀ Q : Lv → St → Prop, Q lv st' → rangeEnd l ts mvA Q pg hl := by
  unfold xloopEnd at hk
  split at hk
  · exact absurd hk Bool.false_ne_true
  · rename_i e
    have hni : l ∉ pg := fun c => by rw [isInB_iff.2 c] at e; cases e
    obtain ⟨o, ao, h1, hR, hk⟩ := rh.gets hk
    cases o with
    | loop s ts0 ps A a b =>
      obtain ⟨tsl, h2, rfl⟩ := hR
      cases s with
      | ready =>
        obtain ⟨h', hk, hr⟩ := rh.sets hk
        obtain ⟨t', mv', r1, hk⟩ := xpurgeS_ok (st := ⟨ts, hl, mvA⟩) r hm (hr _ ⟨tsl, h2, rfl⟩) (k := fun ts mv => k .normal ts h' mv) hk
        exact ⟨_, t', h', mv', _, hk, r1, fun Q hQ => ⟨hni, _, _, _, _, h1, hQ⟩⟩
      | done lv =>
        cases lv with
        | ret =>
          obtain ⟨h', hk, hr⟩ := rh.sets hk
          obtain ⟨t', mv', r1, hk⟩ := xpurgeS_ok (st := ⟨ts, hl, mvA⟩) r hm (hr _ ⟨tsl, h2, rfl⟩) (k := fun ts mv => k .ret ts h' mv) hk
          exact ⟨_, t', h', mv', _, hk, r1, fun Q hQ => ⟨hni, _, _, _, _, h1, hQ⟩⟩
        | exit i =>
          obtain ⟨h', hk, hr⟩ := rh.sets hk
          obtain ⟨t', mv', r1, hk⟩ := xpurgeS_ok (st := ⟨ts, hl, mvA⟩) r hm (hr _ ⟨tsl, h2, rfl⟩) (k := fun ts mv => k (.exit i) ts h' mv) hk
          exact ⟨_, t', h', mv', _, hk, r1, fun Q hQ => ⟨hni, _, _, _, _, h1, hQ⟩⟩
        | normal => exact absurd hk Bool.false_ne_true
      | _ => exact absurd hk Bool.false_ne_true
    | _ => exact absurd hk Bool.false_ne_true

/-- A piece of code does what the runner says. -/
def CodeOk (P : Program) (base : Nat) (top : Bool) (c : ICode) (k : Lv → TS → CH → List Nat → Bool) (st : St) (A : Ann) : Prop :=
  ∃ lv t' h' mv' st', k lv t' h' mv' = true ∧ SR P base t' h' mv' st' ∧ ∀ (ro : Option Nat) (E : Ent) (Q : Lv → St → Prop), (top = true → ro = none) → Q lv st' → ev (std P A ro E) c Q st

theorem xcode_ok (hm : P.follows .mixedOrders = true) (hok : OkP P) (x : XOk P X) {A : Ann} {top : Bool} {c : ICode} : ∀ {k : Lv → TS → CH → List Nat → Bool} {t : TS} {h : CH} {mv : List Nat} {st : St} (_ : SR P base t h mv st),
    xcode X base A top c k t h mv = true → CodeOk P base top c k st A := by
  induction c with
  | skip => intro k t h mv st r hk; exact ⟨_, t, h, mv, st, hk, r, fun ro E Q _ hQ => hQ⟩
  | ops l =>
    intro k t h mv st r hk
    obtain ⟨t', h', mv', st', hk, r', h1⟩ := xops_ok x r (l := l) hk
    exact ⟨_, t', h', mv', st', hk, r', fun ro E Q _ hQ => h1 _ ⟨A, ro, E, rfl⟩ _ hQ⟩
  | draw n l =>
    intro k t h mv st r hk
    have hk := r.h.nums (k := fun n0 => xroom n h fun h' => xR X base n0 [] l t h' mv (k .normal)) hk
    obtain ⟨h1, hk, r1⟩ := xroom_ok r.h hk
    obtain ⟨t', h', mv', st', hk, r', h2⟩ := xR_ok x (st := ⟨st.ts, lapp st.h (lrep (.var []) n), st.mv⟩) ⟨r.ts, r1, r.mv⟩ hk
    exact ⟨_, t', h', mv', st', hk, r', fun ro E Q _ hQ => h2 _ ⟨A, ro, E, rfl⟩ _ hQ⟩
  | seq a b ia ib =>
    intro k t h mv st r hk
    obtain ⟨lv, t1, h1, mv1, st1, hk, r1, g1⟩ := ia r (k := xthenK (xcode X base A top b k) k) hk
    cases lv with
    | normal =>
      obtain ⟨lv, t2, h2, mv2, st2, hk, r2, g2⟩ := ib r1 hk
      exact ⟨lv, t2, h2, mv2, st2, hk, r2, fun ro E Q hr hQ => g1 ro E _ hr (g2 ro E Q hr hQ)⟩
    | exit i => exact ⟨_, t1, h1, mv1, st1, hk, r1, fun ro E Q hr hQ => g1 ro E _ hr hQ⟩
    | ret => exact ⟨_, t1, h1, mv1, st1, hk, r1, fun ro E Q hr hQ => g1 ro E _ hr hQ⟩
  | cond c a b ia ib =>
    intro k t h mv st r hk
    obtain ⟨v, h1, hk⟩ := xopd_ok r.ts (o := c) hk
    obtain ⟨n, rfl, hk⟩ := xbval_ok hk
    cases n with
    | true =>
      obtain ⟨lv, t2, h2, mv2, st2, hk, r2, g2⟩ := ia r hk
      refine ⟨lv, t2, h2, mv2, st2, hk, r2, fun ro E Q hr hQ => ?_⟩
      simp only [ev, h1, CA.to, CD.to]
      rw [setc_self h1]
      exact g2 ro E Q hr hQ
    | false =>
      obtain ⟨lv, t2, h2, mv2, st2, hk, r2, g2⟩ := ib r hk
      refine ⟨lv, t2, h2, mv2, st2, hk, r2, fun ro E Q hr hQ => ?_⟩
      simp only [ev, h1, CA.to, CD.to]
      rw [setc_self h1]
      exact g2 ro E Q hr hQ
  | block id c ic =>
    intro k t h mv st r hk
    obtain ⟨lv, t1, h1, mv1, st1, hk, r1, g1⟩ := ic r (k := xblockK id k) hk
    cases lv with
    | normal => exact ⟨_, t1, h1, mv1, st1, hk, r1, fun ro E Q hr hQ => g1 ro E _ hr hQ⟩
    | ret => exact ⟨_, t1, h1, mv1, st1, hk, r1, fun ro E Q hr hQ => g1 ro E _ hr hQ⟩
    | exit i =>
      simp only [xblockK] at hk
      cases e : Nat.beq i id with
      | true =>
        rw [e] at hk
        exact ⟨_, t1, h1, mv1, st1, hk, r1, fun ro E Q hr hQ => g1 ro E _ hr (by simp only [blockQ, e, if_true]; exact hQ)⟩
      | false =>
        rw [e] at hk
        exact ⟨_, t1, h1, mv1, st1, hk, r1, fun ro E Q hr hQ => g1 ro E _ hr (by simp only [blockQ, e]; exact hQ)⟩
  | loop c _ =>
    intro k t h mv st r hk
    obtain ⟨lv, t', ts', h', hl', mv', mvA', hk, r1, r2, r3, g⟩ := x.loop r.ts r.h r.mv hk
    refine ⟨lv, t', h', mv', ⟨ts', hl', mvA'⟩, hk, ⟨r1, r2, r3⟩, fun ro E Q hr hQ => ?_⟩
    obtain ⟨m, hg⟩ := g ro E Q hr hQ
    exact loop_of_rounds hm hok hg
  | range f ps a b _ _ =>
    intro k t h mv st r hk
    obtain ⟨htop, hk⟩ := reqB_ok hk
    obtain ⟨v, h1, hk⟩ := xopd_ok r.ts hk
    split at hk
    · rename_i g first cap
      obtain ⟨h', hk, hr⟩ := r.h.adds hk
      have hk := appK_ok hk
      have hk := appK_ok hk
      obtain ⟨ws, hk, h5⟩ := xnormL_ok _ hk
      obtain ⟨pg, u, h2, hl2, hk, rh2, h6⟩ := x.call (hr _ ⟨st.ts, r.ts, rfl⟩) hk
      obtain ⟨lv, t3, h3, mv3, st3, hk, r3, g3⟩ := xloopEnd_ok r.ts rh2 r.mv hk
      refine ⟨lv, t3, h3, mv3, st3, hk, r3, fun ro E Q hr hQ => ?_⟩
      have hro := hr htop
      subst hro
      refine range_of_ev (f := f) (ps := ps) (ia := a) (ib := b) h1 ?_
      have e : AV.normL (lapp (CA.toL first) (lapp [.yl (llen st.h)] (CA.toL cap))) = CA.toL ws := by
        rw [h5, lapp_eq, lapp_eq, CA.toL_eq, CA.toL_eq, CA.toL_eq]; simp [CA.to]
      rw [e]
      exact h6 (fun pg _ h2 => rangeEnd (llen st.h) st.ts st.mv Q pg h2) (g3 Q hQ)
    · exact absurd hk Bool.false_ne_true
  | exit id => intro k t h mv st r hk; exact ⟨_, t, h, mv, st, hk, r, fun ro E Q _ hQ => hQ⟩
  | scope c ic =>
    intro k t h mv st r hk
    obtain ⟨htop, hk⟩ := reqB_ok hk
    obtain ⟨lv, t1, h1, mv1, st1, hk, r1, g1⟩ := ic r hk
    exact ⟨lv, t1, h1, mv1, st1, hk, r1, fun ro E Q hr hQ => And.intro (hr htop) (g1 ro E Q hr hQ)⟩
  | label l => intro k t h mv st r hk; exact ⟨_, t, h, mv, st, hk, r, fun ro E Q _ hQ => hQ⟩
  | ret => intro k t h mv st r hk; exact ⟨_, t, h, mv, st, hk, r, fun ro E Q _ hQ => hQ⟩

end
end Go.Vf


namespace Go.Vf
open Go

/-- An entry of the table is what the program's function becomes. -/
def FnOk (P : Program) (f : Nat) (fn : XFn) : Prop :=
  ∃ (func : Func) (c : Code), P.funcs[f]? = some func ∧ func.body = some c ∧ func.name ≠ "runtime.NumGoroutine" ∧ comp P fn.A c = some fn.ic ∧ compRes P func = some fn.irs ∧ func.ntmps = fn.n

def XT.All (p : Nat → XFn → Prop) : XT → Prop
  | .leaf => True
  | .node key fn l r => p key fn ∧ l.All p ∧ r.All p

theorem find_ok {p : Nat → XFn → Prop} {T : XT} {f : Nat} {k : XFn → Bool} (hT : T.All p) (hk : T.find f k = true) : ∃ fn, p f fn ∧ k fn = true := by
  induction T with
  | leaf => exact absurd hk Bool.false_ne_true
  | node key fn l r il ir =>
    simp only [XT.find] at hk
    split at hk
    · rename_i e; exact ⟨fn, Nat.eq_of_beq_eq_true e ▸ hT.1, hk⟩
    · split at hk
      · exact il hT.2.1 hk
      · exact ir hT.2.2 hk

section
variable {P : Program}

theorem fillT_ok {args : List CA} : ∀ {i : Nat} {t : TS} {pre : List AV} {m : Nat} {k : TS → Bool}, pre.length = i → RT t (pre ++ List.replicate m .und) → fillT args i t k = true →
    args.length ≤ m ∧ ∃ t', RT t' (pre ++ CA.toL args ++ List.replicate (m - args.length) .und) ∧ k t' = true := by
  induction args with
  | nil => intro i t pre m k _ r hk; simp only [fillT] at hk; exact ⟨by simp, t, by simpa [CA.toL] using r, hk⟩
  | cons v args ih =>
    intro i t pre m k hi r hk
    simp only [fillT] at hk
    obtain ⟨t', ⟨x, h1⟩, h2, h3⟩ := setT_ok hk
    have h4 := r i x h1
    have hlt := (List.getElem?_eq_some_iff.1 h4).1
    simp at hlt
    cases m with
    | zero => omega
    | succ m =>
      have r' : RT t' ((pre ++ [v.to]) ++ List.replicate m .und) := by
        intro j u hj
        rw [h2] at hj
        split at hj
        · rename_i e; subst e; cases hj; simp [hi]
        · rename_i e
          have := r j u hj
          rw [List.replicate_succ] at this
          by_cases c : j < pre.length
          · rw [List.getElem?_append_left c] at this
            rw [List.append_assoc, List.getElem?_append_left c]; exact this
          · rw [List.getElem?_append_right (by omega)] at this
            rw [List.append_assoc, List.getElem?_append_right (by omega)]
            obtain ⟨q, hq⟩ : ∃ q, j - pre.length = q + 1 := ⟨j - pre.length - 1, by omega⟩
            rw [hq] at this ⊢
            simpa using this
      obtain ⟨h5, t'', h6, h7⟩ := ih (i := i + 1) (by simp [hi]) r' h3
      refine ⟨by simp; omega, t'', ?_, h7⟩
      have e : m + 1 - (v :: args).length = m - args.length := by simp
      rw [e]
      simpa [CA.toL] using h6

theorem xinit_ok {n : Nat} {args : List CA} {k : TS → Bool} (hk : xinit n args k = true) : args.length ≤ n ∧ ∃ t, RT t (initT (CA.toL args) (n - args.length)) ∧ k t = true := by
  obtain ⟨h1, t, h2, h3⟩ := fillT_ok (pre := []) (m := n) rfl (fun i v hv => by
    obtain ⟨h1, h2⟩ := mkT_get hv
    subst h2
    simp [h1, CA.to]) hk
  refine ⟨h1, t, ?_, h3⟩
  rw [initT, lapp_eq, lrep_eq]
  simpa using h2

theorem xset_ok {ps : List Nat} : ∀ {args : List CA} {t : TS} {ts : List AV} {k : TS → Bool}, RT t ts → xset ps args t k = true → ps.length = args.length ∧ ∃ t', RT t' (setTs ps (CA.toL args) ts) ∧ k t' = true := by
  induction ps with
  | nil =>
    intro args t ts k r hk
    cases args with
    | nil => exact ⟨rfl, t, r, hk⟩
    | cons => exact absurd hk Bool.false_ne_true
  | cons p ps ih =>
    intro args t ts k r hk
    cases args with
    | nil => exact absurd hk Bool.false_ne_true
    | cons v args =>
      simp only [xset] at hk
      obtain ⟨t', r', hk⟩ := r.set hk
      obtain ⟨h1, t'', r'', hk⟩ := ih r' hk
      exact ⟨by simp [h1], t'', by simpa [CA.toL, setTs] using r'', hk⟩

def flatD : AV → Prop
  | .d (.int ..) => True
  | .d (.bool _) => True
  | .d (.str _) => True
  | _ => False

theorem flatK_ok {vs : List CA} {k : Unit → Bool} (hk : flatK vs k = true) : (∀ v, v ∈ CA.toL vs → flatD v) ∧ k () = true := by
  induction vs with
  | nil => exact ⟨by simp [CA.toL], hk⟩
  | cons v vs ih =>
    unfold flatK at hk
    split at hk
    · obtain ⟨h1, h2⟩ := ih hk
      exact ⟨by intro u hu; simp only [CA.toL, List.mem_cons] at hu; rcases hu with rfl | hu; exact trivial; exact h1 u hu, h2⟩
    · obtain ⟨h1, h2⟩ := ih hk
      exact ⟨by intro u hu; simp only [CA.toL, List.mem_cons] at hu; rcases hu with rfl | hu; exact trivial; exact h1 u hu, h2⟩
    · obtain ⟨h1, h2⟩ := ih hk
      exact ⟨by intro u hu; simp only [CA.toL, List.mem_cons] at hu; rcases hu with rfl | hu; exact trivial; exact h1 u hu, h2⟩
    · exact absurd hk Bool.false_ne_true

theorem flatD_r {w : World} {S : Nat → Prop} {ρ : Rho} {x : AV} {v : Value} (hf : flatD x) (h : VR w S ρ x v) : VR w (fun _ => False) ρ x v := by
  cases h with
  | d h =>
    cases h with
    | int k n => exact .d (.int k n)
    | bool b => exact .d (.bool b)
    | str l => exact .d (.str l)
    | _ => exact hf.elim
  | _ => exact hf.elim

theorem flat_r {w : World} {S : Nat → Prop} {ρ : Rho} {xs : List AV} {v : Value} (hf : ∀ x, x ∈ xs → flatD x) (h : VR w S ρ (mkRes xs) v) : VR w (fun _ => False) ρ (mkRes xs) v := by
  have key : ∀ {xs : List AV}, (∀ x, x ∈ xs → flatD x) → VR w S ρ (.tuple xs) v → VR w (fun _ => False) ρ (.tuple xs) v := by
    intro xs hf h
    cases h with
    | tuple _ vs hl hv => exact .tuple _ vs hl fun i x v hx hv' => flatD_r (hf x (List.mem_of_getElem? hx)) (hv i x v hx hv')
  match xs, hf, h with
  | [], hf, h => exact key hf h
  | [x], hf, h => exact flatD_r (hf x (by simp)) h
  | _ :: _ :: _, hf, h => exact key hf h

theorem pure_own {f : FuncId} {args : List AV} {xs : List AV} (hf : ∀ x, x ∈ xs → flatD x) (h : PureF P false f args (mkRes xs)) : PureF P true f args (mkRes xs) := by
  refine ⟨h.1, fun w S vs hS hv => Calls.mono (h.2 w S vs hS hv) fun e w' hR => ?_⟩
  obtain ⟨v, S', h1, h2, _, h3⟩ := hR
  exact ⟨v, fun _ => False, h1, flat_r hf h2, fun b hb => hb.elim, h3⟩

theorem RH.nil : RH P ⟨.zero, .leaf⟩ [] := ⟨rfl, fun i o h => by simp [BT.get?] at h⟩

variable {X : XS} {T : XT}

theorem xpcall_ok (hm : P.follows .mixedOrders = true) (hok : OkP P) (hT : T.All (FnOk P)) (x : XOk P X) {own : Bool} {f : FuncId} {args : List CA} {k : CA → Bool} (hk : xpcall T X own f args k = true) :
    ∃ r, k r = true ∧ PureF P own f (CA.toL args) r.to := by
  obtain ⟨fn, ⟨func, c, hf, hb, hname, hc, hres, hn⟩, hk⟩ := find_ok hT hk
  obtain ⟨hlen, t, r, hk⟩ := xinit_ok hk
  obtain ⟨lv, t', h', mv', st', hk, r', g⟩ := xcode_ok hm hok x (base := 0) (st := ⟨initT (CA.toL args) (fn.n - args.length), [], []⟩) ⟨r, .nil, fun m hm _ => absurd hm (Nat.not_lt_zero m)⟩ hk
  have key : ∀ {lv : Lv}, (∀ i, lv ≠ .exit i) → (xretV t' h' fn.irs fun vs => xfreezeL h' vs fun vs _ => freesK vs (fun _ => xownK own k vs)) = true →
      (∀ (E : Ent) (Q : Lv → St → Prop), Q lv st' → ev (std P fn.A none E) fn.ic Q ⟨initT (CA.toL args) (fn.n - args.length), [], []⟩) → ∃ r, k r = true ∧ PureF P own f (CA.toL args) r.to := by
    intro lv hlv hk g
    obtain ⟨vs, hk, h1⟩ := xretV_ok r'.ts r'.h hk
    obtain ⟨ws, h2, hl2, hk, _, h3⟩ := xfreezeL_ok r'.h hk
    obtain ⟨h4, hk⟩ := freesK_ok hk
    have hp : PureF P false f (CA.toL args) (mkRes (CA.toL ws)) := by
      refine pureF_of_ev (n := fn.n - args.length) hm hok hf hb hname fn.A hc hres (by rw [CA.toL_len, hn]; omega) ?_
      rintro E Sg - rfl
      refine g E _ ?_
      have hq : retV (std P fn.A none E) st' fn.irs fun vs => freezeL (std P fn.A none E) st'.h vs fun vs' _ => frees vs' = true ∧ Like (mkRes vs') (mkRes (CA.toL ws)) :=
        h1 _ ⟨fn.A, none, E, rfl⟩ st'.mv _ (h3 _ ⟨fn.A, none, E, rfl⟩ _ ⟨h4, Like.refl _⟩)
      cases lv with
      | exit i => exact absurd rfl (hlv i)
      | normal => exact hq
      | ret => exact hq
    cases own with
    | true =>
      obtain ⟨h5, hk⟩ := flatK_ok hk
      exact ⟨_, hk, by rw [xmkRes_to]; exact pure_own h5 hp⟩
    | false => exact ⟨_, hk, by rw [xmkRes_to]; exact hp⟩
  cases lv with
  | exit i => exact absurd hk Bool.false_ne_true
  | normal => exact key (fun i e => by cases e) hk (fun E Q hQ => g none E Q (fun _ => rfl) hQ)
  | ret => exact key (fun i e => by cases e) hk (fun E Q hQ => g none E Q (fun _ => rfl) hQ)

theorem xrcall_ok (hm : P.follows .mixedOrders = true) (hok : OkP P) (hT : T.All (FnOk P)) (x : XOk P X) {f : FuncId} {args : List CA} {h : CH} {hl : List AObj} {k : List Nat → CA → CH → Bool} (rh : RH P h hl) (hk : xrcall T X f args h k = true) :
    ∃ pg v h' hl', k pg v h' = true ∧ RH P h' hl' ∧ ∀ K : List Nat → AV → List AObj → Prop, K pg v.to hl' → ACall P f (CA.toL args) hl K := by
  obtain ⟨fn, ⟨func, c, hf, hb, hname, hc, hres, hn⟩, hk⟩ := find_ok hT hk
  obtain ⟨hlen, t, r, hk⟩ := xinit_ok hk
  have hk := rh.nums (k := fun n0 => xcode X n0 fn.A true fn.ic (xcallEnd fn.irs k) t h []) hk
  obtain ⟨lv, t', h', mv', st', hk, r', g⟩ := xcode_ok hm hok x (base := llen hl) (st := ⟨initT (CA.toL args) (fn.n - args.length), hl, []⟩) ⟨r, rh, fun m _ hm => by simp at hm⟩ hk
  have key : ∀ {lv : Lv}, (∀ i, lv ≠ .exit i) → (xretV t' h' fn.irs fun vs => k mv' (xmkRes vs) h') = true →
      (∀ (E : Ent) (Q : Lv → St → Prop), Q lv st' → ev (std P fn.A none E) fn.ic Q ⟨initT (CA.toL args) (fn.n - args.length), hl, []⟩) →
      ∃ pg v h' hl', k pg v h' = true ∧ RH P h' hl' ∧ ∀ K : List Nat → AV → List AObj → Prop, K pg v.to hl' → ACall P f (CA.toL args) hl K := by
    intro lv hlv hk g
    obtain ⟨vs, hk, h1⟩ := xretV_ok r'.ts r'.h hk
    refine ⟨mv', _, h', st'.h, hk, r'.h, fun K hK => ?_⟩
    refine acall_of_ev (n := fn.n - args.length) hm hok hf hb hname fn.A hc hres (by rw [CA.toL_len, hn]; omega) ?_
    rintro E Sg - rfl
    refine g E _ ?_
    have hq : retV (std P fn.A none E) st' fn.irs fun vs => ∃ pg, (∀ l, l < hl.length → l ∈ st'.mv → l ∈ pg) ∧ K pg (mkRes vs) st'.h :=
      h1 _ ⟨fn.A, none, E, rfl⟩ st'.mv _ ⟨mv', fun l hlt hin => r'.mv l (by rw [llen_eq]; exact hlt) hin, by rw [xmkRes_to] at hK; exact hK⟩
    cases lv with
    | exit i => exact absurd rfl (hlv i)
    | normal => exact hq
    | ret => exact hq
  cases lv with
  | exit i => exact absurd hk Bool.false_ne_true
  | normal => exact key (fun i e => by cases e) hk (fun E Q hQ => g none E Q (fun _ => rfl) hQ)
  | ret => exact key (fun i e => by cases e) hk (fun E Q hQ => g none E Q (fun _ => rfl) hQ)

theorem xroundEnd_ok {l base : Nat} {t : TS} {h : CH} {mv : List Nat} {st : St} {k : List Nat → CA → CH → Bool} {lv : Lv} (hl : l < base) (r : SR P base t h mv st) (hk : xroundEnd l k lv t h mv = true) :
    ∃ pg v h' hl', k pg v h' = true ∧ RH P h' hl' ∧ ∀ K : List Nat → AV → List AObj → Prop, K pg v.to hl' → roundEnd l base K lv st := by
  unfold xroundEnd at hk
  split at hk
  · exact absurd hk Bool.false_ne_true
  · rename_i e
    have hni : l ∉ st.mv := fun c => by rw [isInB_iff.2 (r.mv l hl c)] at e; cases e
    obtain ⟨o, ao, h1, hR, hk⟩ := r.h.gets hk
    cases o with
    | loop s ts0 ps A a b =>
      obtain ⟨tsl, h2, rfl⟩ := hR
      cases s with
      | busy =>
        cases lv with
        | normal =>
          obtain ⟨h', hk, hr⟩ := r.h.sets hk
          exact ⟨mv, _, h', _, hk, hr _ ⟨tsl, h2, rfl⟩, fun K hK => ⟨hni, _, _, _, h1, mv, fun m hm hin => r.mv m hm hin, hK⟩⟩
        | ret =>
          obtain ⟨h', hk, hr⟩ := r.h.sets hk
          exact ⟨mv, _, h', _, hk, hr _ ⟨tsl, h2, rfl⟩, fun K hK => ⟨hni, _, _, _, h1, mv, fun m hm hin => r.mv m hm hin, hK⟩⟩
        | exit i =>
          obtain ⟨h', hk, hr⟩ := r.h.sets hk
          exact ⟨mv, _, h', _, hk, hr _ ⟨tsl, h2, rfl⟩, fun K hK => ⟨hni, _, _, _, h1, mv, fun m hm hin => r.mv m hm hin, hK⟩⟩
      | _ => exact absurd hk Bool.false_ne_true
    | _ => exact absurd hk Bool.false_ne_true

theorem xyld_ok (hm : P.follows .mixedOrders = true) (hok : OkP P) (x : XOk P X) {l : Nat} {args : List CA} {h : CH} {hl : List AObj} {k : List Nat → CA → CH → Bool} (rh : RH P h hl) (hk : xyld X l args h k = true) :
    ∃ pg v h' hl', k pg v h' = true ∧ RH P h' hl' ∧ ∀ K : List Nat → AV → List AObj → Prop, K pg v.to hl' → YCall P l (CA.toL args) hl K := by
  obtain ⟨o, ao, h1, hR, hk⟩ := rh.gets hk
  have hlt : l < hl.length := by rw [lget_eq] at h1; exact (List.getElem?_eq_some_iff.1 h1).1
  cases o with
  | loop s ts0 ps A a b =>
    obtain ⟨tsl, h2, rfl⟩ := hR
    cases s with
    | ready =>
      obtain ⟨hps, t, r, hk⟩ := xset_ok h2 hk
      have hk := rh.nums (k := fun n0 => xcode X n0 A false a (xassignEnd X n0 l A b k) t h []) hk
      obtain ⟨lv, t1, h1', mv1, st1, hk, r1, g1⟩ := xcode_ok hm hok x (base := llen hl) (st := ⟨setTs ps (CA.toL args) tsl, hl, []⟩) ⟨r, rh, fun m _ hm => by simp at hm⟩ hk
      cases lv with
      | normal =>
        simp only [xassignEnd] at hk
        split at hk
        · exact absurd hk Bool.false_ne_true
        · rename_i e
          have hni : l ∉ st1.mv := fun c => by rw [isInB_iff.2 (r1.mv l (by rw [llen_eq]; exact hlt) c)] at e; cases e
          obtain ⟨o, ao, h3, hR, hk⟩ := r1.h.gets hk
          cases o with
          | loop s' ts1 ps1 A1 a1 b1 =>
            obtain ⟨tsl1, h4, rfl⟩ := hR
            cases s' with
            | ready =>
              obtain ⟨h5, hk, hr⟩ := r1.h.sets hk
              obtain ⟨lv2, t2, h2', mv2, st2, hk, r2, g2⟩ := xcode_ok hm hok x (base := llen hl) (st := ⟨st1.ts, lset st1.h l (.loop .busy tsl1 ps1 _), st1.mv⟩) ⟨r1.ts, hr _ ⟨tsl1, h4, rfl⟩, r1.mv⟩ hk
              obtain ⟨pg, v, h', hl', hk, rh', g3⟩ := xroundEnd_ok (by rw [llen_eq]; exact hlt) r2 hk
              refine ⟨pg, v, h', hl', hk, rh', fun K hK => ?_⟩
              refine ycall_of_ev (A := A) hm hok h1 (fun ca cb h => h) (by rw [CA.toL_len]; exact hps) ?_
              rintro ro E Sg rfl
              refine g1 ro E _ (fun h => by cases h) ⟨rfl, hni, _, _, _, h3, ?_⟩
              refine g2 ro E _ (fun h => by cases h) ?_
              have := g3 K hK
              rw [llen_eq] at this
              exact this
            | _ => exact absurd hk Bool.false_ne_true
          | _ => exact absurd hk Bool.false_ne_true
      | _ => exact absurd hk Bool.false_ne_true
    | _ => exact absurd hk Bool.false_ne_true
  | _ => exact absurd hk Bool.false_ne_true

theorem XS0_ok : XOk P XS0 where
  pcall h := absurd h Bool.false_ne_true
  call _ h := absurd h Bool.false_ne_true
  yld _ h := absurd h Bool.false_ne_true
  loop _ _ _ h := absurd h Bool.false_ne_true

theorem XSs_ok (hm : P.follows .mixedOrders = true) (hok : OkP P) (hT : T.All (FnOk P)) (x : XOk P X) : XOk P (XSs T X) where
  pcall h := xpcall_ok hm hok hT x h
  call rh h := xrcall_ok hm hok hT x rh h
  yld rh h := xyld_ok hm hok x rh h
  loop := by
    intro A base top c k t ts h hl mv mvA r rh hmv hk
    obtain ⟨lv, t1, h1, mv1, st1, hk, r1, g1⟩ := xcode_ok hm hok x (st := ⟨ts, hl, mvA⟩) (k := xloopK X A base top c k) ⟨r, rh, hmv⟩ hk
    cases lv with
    | normal =>
      obtain ⟨lv, t', ts', h', hl', mv', mvA', hk, q1, q2, q3, g⟩ := x.loop r1.ts r1.h r1.mv hk
      refine ⟨lv, t', ts', h', hl', mv', mvA', hk, q1, q2, q3, fun ro E Q hr hQ => ?_⟩
      obtain ⟨m, hg⟩ := g ro E Q hr hQ
      exact ⟨m + 1, g1 ro E _ hr hg⟩
    | exit i => exact ⟨_, t1, st1.ts, h1, st1.h, mv1, st1.mv, hk, r1.ts, r1.h, r1.mv, fun ro E Q hr hQ => ⟨1, g1 ro E _ hr hQ⟩⟩
    | ret => exact ⟨_, t1, st1.ts, h1, st1.h, mv1, st1.mv, hk, r1.ts, r1.h, r1.mv, fun ro E Q hr hQ => ⟨1, g1 ro E _ hr hQ⟩⟩

theorem XSn_ok (hm : P.follows .mixedOrders = true) (hok : OkP P) (hT : T.All (FnOk P)) (n : Nat) : XOk P (XSn T n) := by
  induction n with
  | zero => exact XS0_ok
  | succ n ih => exact XSs_ok hm hok hT ih

/-- WHAT A RUN SHOWS. -/
theorem pure_of_run (hm : P.follows .mixedOrders = true) (hok : OkP P) (hT : T.All (FnOk P)) (n : Nat) {own : Bool} {f : FuncId} {args : List CA} {k : CA → Bool} (hk : (XSn T n).pcall own f args k = true) :
    ∃ r, k r = true ∧ PureF P own f (CA.toL args) r.to := (XSn_ok hm hok hT n).pcall hk

end
end Go.Vf
