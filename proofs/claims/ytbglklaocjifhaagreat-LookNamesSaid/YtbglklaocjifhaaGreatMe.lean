/- The executor's text on operations that may change places: what each looks at, what it leaves. The executor's text on operations that may change places: more is yielded of more. The executor's text on operations that may change places: what each class yields. The executor's text on operations that may change places: one operation yields more of more; stores beside new objects. The executor's text on operations that may change places: two that nothing orders. The executor's text on operations that may change places: one that changes an object; any that is ready comes first. Conditions: none. -/
import Derived.Test.YtbglklaocjifhaaGreatMd
set_option linter.unusedSimpArgs false
set_option linter.unusedVariables false

namespace Go.Vf
open Go

section
variable {P : Program} {A : Ann} {ro : Option Nat} {E : Ent}

theorem opdL_congr {ts ts2 : List AV} : ∀ {l : List IOpd}, (∀ x, x ∈ l → opd ts x = opd ts2 x) → opdL ts l = opdL ts2 l := by
  intro l
  induction l with
  | nil => intro _; rfl
  | cons x l ih => intro h; simp only [opdL]; rw [h x (by simp), ih fun y hy => h y (by simp [hy])]

theorem fillP_congr {ts ts2 : List AV} : ∀ {l : List (Nat × Nat × IOpd)} {cs : List AV}, (∀ x, x ∈ l.map (·.2.2) → opd ts x = opd ts2 x) → fillP ts cs l = fillP ts2 cs l := by
  intro l
  induction l with
  | nil => intro cs _; rfl
  | cons x l ih =>
    intro cs h
    obtain ⟨off, sz, x⟩ := x
    simp only [fillP]
    rw [h x (by simp)]
    congr 1
    split
    · exact ih fun y hy => h y (by simp only [List.map_cons, List.mem_cons]; exact .inr hy)
    · rfl

theorem fillR_congr {ts ts2 : List AV} {sz : Nat} : ∀ {l : List (Nat × IOpd)} {cs : List (List AV)}, (∀ x, x ∈ l.map (·.2) → opd ts x = opd ts2 x) → fillR ts sz cs l = fillR ts2 sz cs l := by
  intro l
  induction l with
  | nil => intro cs _; rfl
  | cons x l ih =>
    intro cs h
    obtain ⟨off, x⟩ := x
    simp only [fillR]
    rw [h x (by simp)]
    congr 1
    split
    · exact ih fun y hy => h y (by simp only [List.map_cons, List.mem_cons]; exact .inr hy)
    · rfl

theorem bndI_congr {ts ts2 : List AV} {x : Option IOpd} {d : IX} {K : IX → Prop} (h : ∀ y, y ∈ optL x → opd ts y = opd ts2 y) : bndI ts x d K = bndI ts2 x d K := by
  cases x with
  | none => rfl
  | some o => simp only [bndI]; rw [h o (by simp [optL])]

theorem stepOp_congr {S : Sig} {o : IOp} {ts ts2 : List AV} {h : List AObj} {mv mv2 : List Nat} {K : AV → List AObj → List Nat → Prop} (ha : ∀ x, x ∈ o.opds → opd ts x = opd ts2 x) :
    stepOp S o ⟨ts, h, mv⟩ K = stepOp S o ⟨ts2, h, mv2⟩ K := by
  cases o with
  | newnil | alloc | mkmap | mkmapv | bnew | bad | bslice0 => rfl
  | build zs ps => simp only [stepOp]; rw [fillP_congr ha]
  | bslice sz n zs ps mu => simp only [stepOp]; rw [fillR_congr ha]
  | bsliceP sz n zs ps => simp only [stepOp]; rw [fillR_congr ha]
  | mkfn f l m =>
    simp only [stepOp]
    rw [opdL_congr fun x hx => ha x (by simp [IOp.opds, hx]), opdL_congr (l := m) fun x hx => ha x (by simp [IOp.opds, hx])]
  | call f as m =>
    simp only [stepOp]
    rw [opdL_congr fun x hx => ha x (by simp [IOp.opds, hx]), ha f (by simp [IOp.opds])]
  | slice sz x lo hi mx =>
    simp only [stepOp]
    rw [ha x (by simp [IOp.opds])]
    have h1 : ∀ y, y ∈ optL lo → opd ts y = opd ts2 y := fun y hy => ha y (by simp [IOp.opds, hy])
    have h2 : ∀ y, y ∈ optL hi → opd ts y = opd ts2 y := fun y hy => ha y (by simp [IOp.opds, hy])
    have h3 : ∀ y, y ∈ optL mx → opd ts y = opd ts2 y := fun y hy => ha y (by simp [IOp.opds, hy])
    unfold stepSlice
    split
    · congr 1
      rw [bndI_congr h1]
      congr 1; funext lo'
      rw [bndI_congr h2]
      congr 1; funext hi'
      congr 1; congr 1; congr 1
      cases mx with
      | none => rfl
      | some m => simp only []; rw [h3 m (by simp [optL])]
    · congr 1
      rw [bndI_congr h1]
      congr 1; funext lo'
      rw [bndI_congr h2]
      congr 1; funext hi'
      congr 1; congr 1; congr 1
      cases mx with
      | none => rfl
      | some m => simp only []; rw [h3 m (by simp [optL])]
    · rw [bndI_congr h1]
      congr 1; funext lo'
      rw [bndI_congr h2]
      congr 1; funext hi'
      congr 1; congr 1
      cases mx with
      | none => rfl
      | some m => simp only []; rw [h3 m (by simp [optL])]
    · rfl
  | slicex sz x lo hi =>
    simp only [stepOp]
    rw [ha x (by simp [IOp.opds])]
    have h1 : ∀ y, y ∈ optL lo → opd ts y = opd ts2 y := fun y hy => ha y (by simp [IOp.opds, hy])
    have h2 : ∀ y, y ∈ optL hi → opd ts y = opd ts2 y := fun y hy => ha y (by simp [IOp.opds, hy])
    simp only [bndI_congr h1, bndI_congr h2]
  | slarr n x lo hi =>
    simp only [stepOp]
    rw [ha x (by simp [IOp.opds])]
    have h1 : ∀ y, y ∈ optL lo → opd ts y = opd ts2 y := fun y hy => ha y (by simp [IOp.opds, hy])
    have h2 : ∀ y, y ∈ optL hi → opd ts y = opd ts2 y := fun y hy => ha y (by simp [IOp.opds, hy])
    simp only [bndI_congr h1, bndI_congr h2]
  | slchk sz x lo hi mx =>
    simp only [stepOp]
    rw [ha x (by simp [IOp.opds])]
    have h1 : ∀ y, y ∈ optL lo → opd ts y = opd ts2 y := fun y hy => ha y (by simp [IOp.opds, hy])
    have h2 : ∀ y, y ∈ optL hi → opd ts y = opd ts2 y := fun y hy => ha y (by simp [IOp.opds, hy])
    have h3 : ∀ y, y ∈ optL mx → opd ts y = opd ts2 y := fun y hy => ha y (by simp [IOp.opds, hy])
    simp only [stepChk, bndI_congr h1, bndI_congr h2, bndI_congr h3]
  | pick c a b => simp only [stepOp]; rw [ha c (by simp [IOp.opds]), ha a (by simp [IOp.opds]), ha b (by simp [IOp.opds])]
  | store sz a b => simp only [stepOp]; rw [ha a (by simp [IOp.opds]), ha b (by simp [IOp.opds])]
  | bin op a b => simp only [stepOp]; rw [ha a (by simp [IOp.opds]), ha b (by simp [IOp.opds])]
  | binb op a b => simp only [stepOp]; rw [ha a (by simp [IOp.opds]), ha b (by simp [IOp.opds])]
  | aeq n ks a b => simp only [stepOp]; rw [ha a (by simp [IOp.opds]), ha b (by simp [IOp.opds])]
  | aeqw n ks a b => simp only [stepOp]; rw [ha a (by simp [IOp.opds]), ha b (by simp [IOp.opds])]
  | iaddr sz a b => simp only [stepOp]; rw [ha a (by simp [IOp.opds]), ha b (by simp [IOp.opds])]
  | iaddrA n sz a b => simp only [stepOp]; rw [ha a (by simp [IOp.opds]), ha b (by simp [IOp.opds])]
  | lookup wd ks ok a b => simp only [stepOp]; rw [ha a (by simp [IOp.opds]), ha b (by simp [IOp.opds])]
  | lookupv wd ks ok z a b => simp only [stepOp]; rw [ha a (by simp [IOp.opds]), ha b (by simp [IOp.opds])]
  | mapent wd ks z a b => simp only [stepOp]; rw [ha a (by simp [IOp.opds]), ha b (by simp [IOp.opds])]
  | appendP sz by' a b => simp only [stepOp]; rw [ha a (by simp [IOp.opds]), ha b (by simp [IOp.opds])]
  | entst a b c => simp only [stepOp]; rw [ha a (by simp [IOp.opds]), ha b (by simp [IOp.opds]), ha c (by simp [IOp.opds])]
  | extractF x i => simp only [stepOp]; rw [ha x (by simp [IOp.opds])]
  | mapupdv wd ks a b c => simp only [stepOp]; rw [ha a (by simp [IOp.opds]), ha b (by simp [IOp.opds]), ha c (by simp [IOp.opds])]
  | mapupd wd ks a b c => simp only [stepOp]; rw [ha a (by simp [IOp.opds]), ha b (by simp [IOp.opds]), ha c (by simp [IOp.opds])]
  | min a b => simp only [stepOp]; rw [ha a (by simp [IOp.opds]), ha b (by simp [IOp.opds])]
  | bw op a b => simp only [stepOp]; rw [ha a (by simp [IOp.opds]), ha b (by simp [IOp.opds])]
  | max a b => simp only [stepOp]; rw [ha a (by simp [IOp.opds]), ha b (by simp [IOp.opds])]
  | append sz by' a b mu => simp only [stepOp]; rw [ha a (by simp [IOp.opds]), ha b (by simp [IOp.opds])]
  | copy sz a b => simp only [stepOp]; rw [ha a (by simp [IOp.opds]), ha b (by simp [IOp.opds])]
  | appendIn sz a b => simp only [stepOp]; rw [ha a (by simp [IOp.opds]), ha b (by simp [IOp.opds])]
  | appendN sz by' a b mu => simp only [stepOp]; rw [ha a (by simp [IOp.opds]), ha b (by simp [IOp.opds])]
  | ovl a b => simp only [stepOp]; rw [ha a (by simp [IOp.opds]), ha b (by simp [IOp.opds])]
  | clear sz zs x => simp only [stepOp]; rw [ha x (by simp [IOp.opds])]
  | isnil n x => simp only [stepOp]; rw [ha x (by simp [IOp.opds])]
  | idxs l x => simp only [stepOp]; rw [ha x (by simp [IOp.opds])]
  | mv x => simp only [stepOp]; rw [ha x (by simp [IOp.opds])]
  | box x => simp only [stepOp]; rw [ha x (by simp [IOp.opds])]
  | load g x => simp only [stepOp]; rw [ha x (by simp [IOp.opds])]
  | nilchk x => simp only [stepOp]; rw [ha x (by simp [IOp.opds])]
  | un op x => simp only [stepOp]; rw [ha x (by simp [IOp.opds])]
  | conv k x => simp only [stepOp]; rw [ha x (by simp [IOp.opds])]
  | mkslice sz zs b x => simp only [stepOp]; rw [ha x (by simp [IOp.opds])]
  | faddr off x => simp only [stepOp]; rw [ha x (by simp [IOp.opds])]
  | field off g x => simp only [stepOp]; rw [ha x (by simp [IOp.opds])]
  | extract x i => simp only [stepOp]; rw [ha x (by simp [IOp.opds])]
  | len x => simp only [stepOp]; rw [ha x (by simp [IOp.opds])]
  | lenm x => simp only [stepOp]; rw [ha x (by simp [IOp.opds])]
  | cap x => simp only [stepOp]; rw [ha x (by simp [IOp.opds])]

end
end Go.Vf


namespace Go.Vf
open Go

section
variable {P : Program} {A : Ann} {ro : Option Nat} {E : Ent}

theorem req_mono {p : Prop} {q r : Prop} (h : q → r) (k : ((std P A ro E)).req p q) : ((std P A ro E)).req p r := ⟨k.1, h k.2⟩

theorem view_mono {h : List AObj} {v : AV} {K K' : Nat → Nat → (Nat → List DV) → Prop} (hK : ∀ a b c, K a b c → K' a b c) (hk : view (std P A ro E) h v K) : view (std P A ro E) h v K' := by
  unfold view at hk ⊢
  split
  · exact hK _ _ _ hk
  · exact hK _ _ _ hk
  · simp only at hk
    split
    · rename_i e1
      rw [e1] at hk
      simp only at hk
      split at hk
      · rename_i hc; rw [if_pos hc]; exact req_mono (hK _ _ _) hk
      · exact hk.elim
    · rename_i e1
      rw [e1] at hk
      simp only at hk
      split at hk
      · rename_i hc; rw [if_pos hc]; exact req_mono (hK _ _ _) hk
      · exact hk.elim
    · rename_i e1 e2
      split at hk
      · rename_i h3; exact absurd h3 (e1 _ _ _)
      · rename_i h3; exact absurd h3 (e2 _ _ _)
      · exact hk
  · rename_i e1 e2 e3
    split at hk
    · exact absurd rfl (e1 _ _ _)
    · exact absurd rfl (e2 _ _ _)
    · exact absurd rfl (e3 _ _ _ _ _)
    · exact hk

theorem viewN_mono {sz : Nat} {h : List AObj} {v : AV} {K K' : Nat → Nat → (Nat → List DV) → Prop} (hK : ∀ a b c, K a b c → K' a b c) (hk : viewN (std P A ro E) sz h v K) : viewN (std P A ro E) sz h v K' := by
  unfold viewN at hk ⊢
  split
  · exact hK _ _ _ hk
  · exact hK _ _ _ hk
  · rename_i e1 e2
    split at hk
    · exact absurd rfl e1
    · exact absurd rfl (e2 _ _)
    · exact view_mono hK hk

theorem peek_mono {h : List AObj} {v : AV} {K K' : AV → Prop} (hK : ∀ v, K v → K' v) (hk : peek (std P A ro E) h v K) : peek (std P A ro E) h v K' := by
  cases v with
  | vsl l off n =>
    simp only [peek] at hk ⊢
    split at hk
    · split at hk
      · split at hk
        · exact hK _ hk
        · exact hk.elim
      · exact hk.elim
    · exact hk.elim
  | msl l sz s n f =>
    simp only [peek] at hk ⊢
    exact view_mono (fun _ _ _ => hK _) hk
  | dfs sz n e => exact hK _ hk
  | _ => exact hK _ hk

theorem peekC_mono {h : List AObj} {vs : List AV} : ∀ {K K' : List AV → Prop}, (∀ v, K v → K' v) → peekC (std P A ro E) h vs K → peekC (std P A ro E) h vs K' := by
  induction vs with
  | nil => intro K K' hK hk; exact hK _ hk
  | cons v r ih => intro K K' hK hk; exact peek_mono (fun _ => ih fun _ => hK _) hk

theorem peekL_mono {h : List AObj} {vs : List AV} : ∀ {K K' : List AV → Prop}, (∀ v, K v → K' v) → peekL (std P A ro E) h vs K → peekL (std P A ro E) h vs K' := by
  induction vs with
  | nil => intro K K' hK hk; exact hK _ hk
  | cons v r ih =>
    intro K K' hK hk
    cases v
    case agg cs => exact peekC_mono (fun _ => ih fun _ => hK _) hk
    all_goals exact peek_mono (fun _ => ih fun _ => hK _) hk

theorem freeze_mono {h : List AObj} {v : AV} {K K' : AV → List AObj → Prop} (hK : ∀ v h, K v h → K' v h) (hk : freeze (std P A ro E) h v K) : freeze (std P A ro E) h v K' := by
  unfold freeze at hk ⊢
  split
  · simp only at hk
    refine view_mono (fun a b c hk => ?_) hk
    split
    · rename_i e1; rw [e1] at hk; exact hK _ _ hk
    · rename_i e1
      split at hk
      · rename_i h3; exact absurd h3 (e1 _ _ _)
      · exact hK _ _ hk
  · exact hK _ _ hk
  · rename_i e1 e2
    split at hk
    · exact absurd rfl (e1 _ _ _ _ _)
    · exact absurd rfl (e2 _ _ _)
    · exact hK _ _ hk

theorem freezeC_mono {vs : List AV} : ∀ {h : List AObj} {K K' : List AV → List AObj → Prop}, (∀ v h, K v h → K' v h) → freezeC (std P A ro E) h vs K → freezeC (std P A ro E) h vs K' := by
  induction vs with
  | nil => intro h K K' hK hk; exact hK _ _ hk
  | cons v r ih => intro h K K' hK hk; exact freeze_mono (fun _ _ => ih fun _ _ => hK _ _) hk

theorem freezePtr_mono {h : List AObj} {l : Nat} {K K' : AV → List AObj → Prop} (hK : ∀ v h, K v h → K' v h) (hk : freezePtr (std P A ro E) h l K) : freezePtr (std P A ro E) h l K' := by
  unfold freezePtr at hk ⊢
  split at hk
  · refine freezeC_mono (fun cs h' hk => ?_) hk
    split at hk
    · exact hK _ _ hk
    · exact hk.elim
  · exact hk.elim

theorem freezeL_mono {vs : List AV} : ∀ {h : List AObj} {K K' : List AV → List AObj → Prop}, (∀ v h, K v h → K' v h) → freezeL (std P A ro E) h vs K → freezeL (std P A ro E) h vs K' := by
  induction vs with
  | nil => intro h K K' hK hk; exact hK _ _ hk
  | cons v r ih =>
    intro h K K' hK hk
    cases v
    case agg cs => exact freezeC_mono (fun _ _ => ih fun _ _ => hK _ _) hk
    case ptr l off =>
      cases off with
      | zero => exact freezePtr_mono (fun _ _ => ih fun _ _ => hK _ _) hk
      | succ off => exact freeze_mono (fun _ _ => ih fun _ _ => hK _ _) hk
    all_goals exact freeze_mono (fun _ _ => ih fun _ _ => hK _ _) hk

theorem dcells_mono {v : AV} {h : List AObj} {K K' : List DV → List AObj → Prop} (hK : ∀ v h, K v h → K' v h) (hk : dcells (std P A ro E) h v K) : dcells (std P A ro E) h v K' := by
  unfold dcells at hk ⊢
  refine freezeC_mono (fun cs h' hk => ?_) hk
  split
  · rename_i e1; rw [e1] at hk; exact hK _ _ hk
  · rename_i e1; rw [e1] at hk; exact hk

theorem freezeR_mono {rs : List (List AV)} : ∀ {h : List AObj} {K K' : List (List DV) → List AObj → Prop}, (∀ v h, K v h → K' v h) → freezeR (std P A ro E) h rs K → freezeR (std P A ro E) h rs K' := by
  induction rs with
  | nil => intro h K K' hK hk; exact hK _ _ hk
  | cons v r ih =>
    intro h K K' hK hk
    simp only [freezeR] at hk ⊢
    refine freezeC_mono (fun cs h' hk => ?_) hk
    split
    · rename_i e1; rw [e1] at hk; exact ih (fun _ _ => hK _ _) hk
    · rename_i e1; rw [e1] at hk; exact hk

theorem kcells_mono {ks : List IntKind} : ∀ {cs : List AV} {K K' : List KC → Prop}, (∀ v, K v → K' v) → kcells (std P A ro E) ks cs K → kcells (std P A ro E) ks cs K' := by
  induction ks with
  | nil =>
    intro cs K K' hK hk
    cases cs with
    | nil => exact hK _ hk
    | cons c cs => exact hk.elim
  | cons k ks ih =>
    intro cs K K' hK hk
    cases cs with
    | nil => exact hk.elim
    | cons c cs =>
      cases c with
      | d x =>
        cases x with
        | int k' x =>
          simp only [kcells] at hk ⊢
          split
          · rename_i hc; rw [if_pos hc] at hk; exact req_mono (ih fun _ => hK _) hk
          · rename_i hc; rw [if_neg hc] at hk; exact hk
        | _ => exact hk.elim
      | _ => exact hk.elim

theorem kshape_mono {wide : Bool} {ks : List IntKind} {v : AV} {K K' : List KC → Prop} (hK : ∀ v, K v → K' v) (hk : kshape (std P A ro E) wide ks v K) : kshape (std P A ro E) wide ks v K' := by
  cases v
  case agg cs =>
    simp only [kshape] at hk ⊢
    split
    · rename_i hc; rw [if_pos hc] at hk; exact kcells_mono hK hk
    · rename_i hc; rw [if_neg hc] at hk; exact hk
  all_goals
    simp only [kshape] at hk ⊢
    split
    · rename_i hc; rw [if_pos hc] at hk; exact hk
    · rename_i hc; rw [if_neg hc] at hk; exact kcells_mono hK hk

theorem ival_mono {v : AV} {K K' : IX → Prop} (hK : ∀ n, K n → K' n) (hk : ival v K) : ival v K' := by
  unfold ival at hk ⊢
  split
  · exact hK _ hk
  · rename_i e1
    split at hk
    · exact absurd rfl (e1 _)
    · exact hk

theorem bval_mono {v : AV} {K K' : Bool → Prop} (hK : ∀ n, K n → K' n) (hk : bval v K) : bval v K' := by
  unfold bval at hk ⊢
  split
  · exact hK _ hk
  · rename_i e1
    split at hk
    · exact absurd rfl (e1 _)
    · exact hk

theorem pickD_mono {row : List DV} {off : Nat} {g : Option Nat} {K K' : AV → Prop} (hK : ∀ n, K n → K' n) (hk : pickD row off g K) : pickD row off g K' := by
  cases g with
  | none =>
    simp only [pickD] at hk ⊢
    split
    · rename_i e1; rw [e1] at hk; exact hK _ hk
    · rename_i e1; rw [e1] at hk; exact hk
  | some m =>
    simp only [pickD] at hk ⊢
    split
    · rename_i e1; rw [e1] at hk; exact hK _ hk
    · rename_i e1; rw [e1] at hk; exact hk

end
end Go.Vf


namespace Go.Vf
open Go

section
variable {P : Program} {A : Ann} {ro : Option Nat} {E : Ent}

theorem binI_det {op : BinOp} {k : IntKind} {x y : IX} {K : DV → Prop} (hk : binI (std P A ro E) op k x y K) : ∃ v, K v ∧ ∀ {K2 : DV → Prop}, K2 v → binI (std P A ro E) op k x y K2 := by
  cases op <;> cases x <;> cases y <;> first
    | exact hk.elim
    | exact ⟨_, hk, fun h => h⟩
    | exact ⟨_, hk.2, fun h => ⟨hk.1, h⟩⟩
    | exact ⟨_, hk.2.2, fun h => ⟨hk.1, hk.2.1, h⟩⟩

theorem ival_det {v : AV} {K : IX → Prop} (hk : ival v K) : ∃ n, K n ∧ ∀ {K2 : IX → Prop}, K2 n → ival v K2 := by
  unfold ival at hk
  split at hk
  · exact ⟨_, hk, fun h => h⟩
  · exact hk.elim

theorem pickD_det {row : List DV} {off : Nat} {g : Option Nat} {K : AV → Prop} (hk : pickD row off g K) : ∃ v, K v ∧ ∀ {K2 : AV → Prop}, K2 v → pickD row off g K2 := by
  cases g with
  | none =>
    simp only [pickD] at hk ⊢
    split at hk
    · rename_i e1; exact ⟨_, hk, fun h => by first | exact h | (rw [e1]; exact h)⟩
    · exact hk.elim
  | some m =>
    simp only [pickD] at hk ⊢
    split at hk
    · rename_i e1; exact ⟨_, hk, fun h => by first | exact h | (rw [e1]; exact h)⟩
    · exact hk.elim

theorem bndI_det {ts : List AV} {x : Option IOpd} {d : IX} {K : IX → Prop} (hk : bndI ts x d K) : ∃ n, K n ∧ ∀ {K2 : IX → Prop}, K2 n → bndI ts x d K2 := by
  cases x with
  | none => exact ⟨_, hk, fun h => h⟩
  | some o => exact ival_det hk

theorem stepSlice_det {ts : List AV} {sz : Nat} {x : AV} {lo hi mx : Option IOpd} {K : AV → Prop} (hk : stepSlice (std P A ro E) ts sz x lo hi mx K) : ∃ v, K v ∧ ∀ {K2 : AV → Prop}, K2 v → stepSlice (std P A ro E) ts sz x lo hi mx K2 := by
  cases x with
  | msl l sz' s n f =>
    simp only [stepSlice] at hk ⊢
    split at hk
    · rename_i hc
      simp only [if_pos hc]
      obtain ⟨a, hk, ha⟩ := bndI_det hk
      obtain ⟨b, hk, hb⟩ := bndI_det hk
      obtain ⟨h1, h2, h3, hk⟩ := hk
      cases mx with
      | none =>
        cases f with
        | true => exact ⟨_, hk.2, fun h => ha (hb ⟨h1, h2, h3, hk.1, h⟩)⟩
        | false => exact ⟨_, hk, fun h => ha (hb ⟨h1, h2, h3, h⟩)⟩
      | some m =>
        obtain ⟨c, hk, hc'⟩ := ival_det hk
        exact ⟨_, hk.2, fun h => ha (hb ⟨h1, h2, h3, hc' ⟨hk.1, h⟩⟩)⟩
    · exact hk.elim
  | d y =>
    cases y with
    | sl sz' n e =>
      simp only [stepSlice] at hk ⊢
      split at hk
      · rename_i hc
        simp only [if_pos hc]
        obtain ⟨a, hk, ha⟩ := bndI_det hk
        obtain ⟨b, hk, hb⟩ := bndI_det hk
        obtain ⟨h1, h2, h3, hk⟩ := hk
        cases mx with
        | none => exact ⟨_, hk, fun h => ha (hb ⟨h1, h2, h3, h⟩)⟩
        | some m =>
          obtain ⟨c, hk, hc'⟩ := ival_det hk
          exact ⟨_, hk.2, fun h => ha (hb ⟨h1, h2, h3, hc' ⟨hk.1, h⟩⟩)⟩
      · exact hk.elim
    | nil =>
      simp only [stepSlice] at hk ⊢
      obtain ⟨a, hk, ha⟩ := bndI_det hk
      obtain ⟨b, hk, hb⟩ := bndI_det hk
      obtain ⟨h1, h2, hk⟩ := hk
      cases mx with
      | none => exact ⟨_, hk, fun h => ha (hb ⟨h1, h2, h⟩)⟩
      | some m =>
        obtain ⟨c, hk, hc'⟩ := ival_det hk
        exact ⟨_, hk.2, fun h => ha (hb ⟨h1, h2, hc' ⟨hk.1, h⟩⟩)⟩
    | _ => exact hk.elim
  | _ => exact hk.elim

theorem stepChk_det {ts : List AV} {sz sz' n : Nat} {lo hi mx : Option IOpd} {K : Prop} (hk : stepChk (std P A ro E) ts sz sz' n lo hi mx K) : K ∧ ∀ {K2 : Prop}, K2 → stepChk (std P A ro E) ts sz sz' n lo hi mx K2 := by
  unfold stepChk at hk ⊢
  split at hk
  · rename_i hc
    simp only [if_pos hc]
    obtain ⟨a, hk, ha⟩ := bndI_det hk
    obtain ⟨b, hk, hb⟩ := bndI_det hk
    obtain ⟨c, hk, hc⟩ := bndI_det hk
    obtain ⟨h1, h2, h3, h4, hk⟩ := hk
    exact ⟨hk, fun h => ha (hb (hc ⟨h1, h2, h3, h4, h⟩))⟩
  · exact hk.elim

theorem stepIaddr_det {sz : Nat} {x : AV} {i : IX} {K : AV → Prop} (hk : stepIaddr (std P A ro E) sz x i K) : ∃ v, K v ∧ ∀ {K2 : AV → Prop}, K2 v → stepIaddr (std P A ro E) sz x i K2 := by
  unfold stepIaddr at hk ⊢
  split at hk
  · split at hk
    · rename_i hc; exact ⟨_, hk.2, fun h => by simp only [if_pos hc]; exact ⟨hk.1, h⟩⟩
    · exact hk.elim
  · split at hk
    · rename_i hc; exact ⟨_, hk.2, fun h => by simp only [if_pos hc]; exact ⟨hk.1, h⟩⟩
    · exact hk.elim
  · split at hk
    · rename_i hc; exact ⟨_, hk.2, fun h => by simp only [if_pos hc]; exact ⟨hk.1, h⟩⟩
    · exact hk.elim
  · exact hk.elim

/-- What does not meet the objects yields the same whatever they are. -/
theorem step_i {o : IOp} (hkl : o.kl = .i ∨ o.kl = .p) {ts : List AV} {h : List AObj} {mv : List Nat} {K : AV → List AObj → List Nat → Prop} (hk : stepOp (std P A ro E) o ⟨ts, h, mv⟩ K) :
    ∃ v, K v h [] ∧ ∀ {h2 : List AObj} {mv2 : List Nat} {K2 : AV → List AObj → List Nat → Prop}, K2 v h2 [] → stepOp (std P A ro E) o ⟨ts, h2, mv2⟩ K2 := by
  cases o with
  | mv x => exact ⟨_, hk, fun h => h⟩
  | bslice0 sz => exact ⟨_, hk, fun h => h⟩
  | pick c a b =>
    simp only [stepOp] at hk ⊢
    unfold bval at hk
    split at hk
    · rename_i b' e1
      simp only [e1, bval]
      cases b' with
      | true => exact ⟨_, hk, fun h => h⟩
      | false => exact ⟨_, hk, fun h => h⟩
    · exact hk.elim
  | appendP sz by' x y =>
    simp only [stepOp] at hk ⊢
    split at hk
    · rename_i e1 e2; exact ⟨_, hk, fun h => by first | exact h | (rw [e1, e2]; exact h)⟩
    · rename_i e1 e2
      split at hk
      · rename_i e3; exact ⟨_, hk.2, fun h => by simp only [if_pos e3]; exact ⟨hk.1, h⟩⟩
      · exact hk.elim
    · exact hk.elim
  | bsliceP sz n zs ps =>
    simp only [stepOp] at hk ⊢
    split at hk
    · rename_i e1
      split at hk
      · rename_i e2; exact ⟨_, hk, fun h => by first | exact h | (rw [e1]; simp only [e2]; exact h)⟩
      · exact hk.elim
    · exact hk.elim
  | build zs ps =>
    simp only [stepOp] at hk ⊢
    split at hk
    · rename_i e1; exact ⟨_, hk, fun h => by first | exact h | (rw [e1]; exact h)⟩
    · exact hk.elim
  | nilchk x =>
    simp only [stepOp] at hk ⊢
    split at hk
    · rename_i e1; exact ⟨_, hk, fun h => by rw [if_pos e1]; exact h⟩
    · exact hk.elim
  | bw op x y =>
    simp only [stepOp] at hk ⊢
    split at hk
    · unfold bwI at hk ⊢
      split at hk
      · exact ⟨_, hk.2, fun h => ⟨hk.1, h⟩⟩
      · split at hk
        · rename_i e3; exact ⟨_, hk, fun h => by rw [if_pos e3]; exact h⟩
        · exact hk.elim
      · exact hk.elim
    · exact hk.elim
  | bin op x y =>
    simp only [stepOp] at hk ⊢
    split at hk
    · rename_i e1 e2
      split at hk
      · rename_i e3
        obtain ⟨v, hv, hd⟩ := binI_det hk
        refine ⟨_, hv, fun h => ?_⟩
        simp only [if_pos e3]
        exact hd h
      · exact hk.elim
    · cases op <;> first | exact hk.elim | exact ⟨_, hk.2, fun h => ⟨hk.1, h⟩⟩
    · exact hk.elim
  | binb op x y =>
    simp only [stepOp] at hk ⊢
    split at hk
    · rename_i e1 e2
      split at hk
      · exact ⟨_, hk, fun h => by first | exact h | (rw [e1, e2]; exact h)⟩
      · exact ⟨_, hk, fun h => by first | exact h | (rw [e1, e2]; exact h)⟩
      · exact hk.elim
    · exact hk.elim
  | aeq n ks x y =>
    simp only [stepOp] at hk ⊢
    split at hk
    · split at hk
      · rename_i e1; exact ⟨_, hk, fun h => by first | exact h | (rw [e1]; exact h)⟩
      · exact hk.elim
    · exact hk.elim
  | aeqw n ks x y =>
    simp only [stepOp] at hk ⊢
    split at hk
    · split at hk
      · rename_i e1; exact ⟨_, hk, fun h => by first | exact h | (rw [e1]; exact h)⟩
      · exact hk.elim
    · exact hk.elim
  | un op x =>
    simp only [stepOp] at hk ⊢
    split at hk
    · rename_i e1; exact ⟨_, hk, fun h => by first | exact h | (rw [e1]; exact h)⟩
    · rename_i e1; exact ⟨_, hk, fun h => by first | exact h | (rw [e1]; exact h)⟩
    · rename_i e1; exact ⟨_, hk.2, fun h => by first | exact ⟨hk.1, h⟩ | (rw [e1]; exact ⟨hk.1, h⟩)⟩
    · exact hk.elim
  | conv k x =>
    simp only [stepOp] at hk ⊢
    split at hk
    · rename_i e1; exact ⟨_, hk, fun h => by first | exact h | (rw [e1]; exact h)⟩
    · exact hk.elim
  | mkfn f l m => exact ⟨_, hk, fun h => h⟩
  | slice sz x lo hi mx =>
    simp only [stepOp] at hk ⊢
    obtain ⟨v, hk, hv⟩ := stepSlice_det hk
    exact ⟨v, hk, fun h => hv h⟩
  | slarr n x lo hi =>
    simp only [stepOp] at hk ⊢
    split at hk
    · obtain ⟨a, hk, ha⟩ := bndI_det hk
      obtain ⟨b, hk, hb⟩ := bndI_det hk
      obtain ⟨h1, h2, h3, hk⟩ := hk
      split at hk
      · rename_i e1; exact ⟨_, hk, fun h => ha (hb ⟨h1, h2, h3, by first | exact h | (rw [e1]; exact h)⟩)⟩
      · rename_i e1; exact ⟨_, hk, fun h => ha (hb ⟨h1, h2, h3, by first | exact h | (rw [e1]; exact h)⟩)⟩
    · exact hk.elim
  | isnil neg x =>
    simp only [stepOp] at hk ⊢
    split at hk
    · rename_i e1; exact ⟨_, hk, fun h => by first | exact h | (rw [e1]; exact h)⟩
    · rename_i e1; exact ⟨_, hk.2, fun h => by first | exact ⟨hk.1, h⟩ | (rw [e1]; exact ⟨hk.1, h⟩)⟩
    · rename_i e1; exact ⟨_, hk.2, fun h => by first | exact ⟨hk.1, h⟩ | (rw [e1]; exact ⟨hk.1, h⟩)⟩
    · rename_i e1; exact ⟨_, hk.2, fun h => by first | exact ⟨hk.1, h⟩ | (rw [e1]; exact ⟨hk.1, h⟩)⟩
    · rename_i e1; exact ⟨_, hk, fun h => by first | exact h | (rw [e1]; exact h)⟩
    · rename_i e1; exact ⟨_, hk, fun h => by first | exact h | (rw [e1]; exact h)⟩
    · exact hk.elim
  | idxs l x =>
    simp only [stepOp] at hk ⊢
    split at hk
    · rename_i e1; exact ⟨_, hk.2, fun h => by first | exact ⟨hk.1, h⟩ | (rw [e1]; exact ⟨hk.1, h⟩)⟩
    · exact hk.elim
  | slchk sz x lo hi mx =>
    simp only [stepOp] at hk ⊢
    split at hk
    · obtain ⟨hk, hd⟩ := stepChk_det hk
      exact ⟨_, hk, fun h => hd h⟩
    · obtain ⟨hk, hd⟩ := stepChk_det hk
      exact ⟨_, hk, fun h => hd h⟩
    · exact hk.elim
  | faddr off x =>
    simp only [stepOp] at hk ⊢
    split at hk
    · rename_i e1; exact ⟨_, hk, fun h => by first | exact h | (rw [e1]; exact h)⟩
    · rename_i e1; exact ⟨_, hk, fun h => by first | exact h | (rw [e1]; exact h)⟩
    · rename_i e1; exact ⟨_, hk, fun h => by first | exact h | (rw [e1]; exact h)⟩
    · exact hk.elim
  | field off g x =>
    simp only [stepOp] at hk ⊢
    split at hk
    · cases g with
      | none =>
        simp only at hk ⊢
        split at hk
        · rename_i e2; exact ⟨_, hk, fun h => by first | exact h | (rw [e2]; exact h)⟩
        · exact hk.elim
      | some m =>
        simp only at hk ⊢
        split at hk
        · rename_i e2; exact ⟨_, hk, fun h => by first | exact h | (rw [e2]; exact h)⟩
        · exact hk.elim
    · exact hk.elim
  | iaddr sz x i =>
    obtain ⟨n, hk, hn⟩ := ival_det hk
    obtain ⟨v, hk, hv⟩ := stepIaddr_det hk
    exact ⟨v, hk, fun h => hn (hv h)⟩
  | iaddrA n sz x i =>
    obtain ⟨m, hk, hn⟩ := ival_det hk
    simp only at hk
    split at hk
    · rename_i e1
      split at hk
      · split at hk
        · rename_i e2
          refine ⟨_, hk, fun h => ?_⟩
          refine hn ?_
          simp only [e1, if_pos e2]
          exact h
        · exact hk.elim
      · refine ⟨_, hk.2, fun h => ?_⟩
        refine hn ?_
        simp only [e1]
        exact ⟨hk.1, h⟩
    · exact hk.elim
  | extract x i =>
    simp only [stepOp] at hk ⊢
    split at hk
    · split at hk
      · rename_i e2; exact ⟨_, hk, fun h => by first | exact h | (rw [e2]; exact h)⟩
      · exact hk.elim
    · exact hk.elim
  | len x =>
    simp only [stepOp] at hk ⊢
    split at hk
    · rename_i e1; exact ⟨_, hk, fun h => by first | exact h | (rw [e1]; exact h)⟩
    · rename_i e1; exact ⟨_, hk, fun h => by first | exact h | (rw [e1]; exact h)⟩
    · rename_i e1; exact ⟨_, hk, fun h => by first | exact h | (rw [e1]; exact h)⟩
    · rename_i e1; exact ⟨_, hk, fun h => by first | exact h | (rw [e1]; exact h)⟩
    · rename_i e1; exact ⟨_, hk, fun h => by first | exact h | (rw [e1]; exact h)⟩
    · exact hk.elim
  | min x y =>
    simp only [stepOp] at hk ⊢
    split at hk
    · rename_i e1 e2
      split at hk
      · rename_i e3; exact ⟨_, hk, fun h => by simp only [if_pos e3]; exact h⟩
      · exact hk.elim
    · exact hk.elim
  | max x y =>
    simp only [stepOp] at hk ⊢
    split at hk
    · rename_i e1 e2
      split at hk
      · rename_i e3; exact ⟨_, hk, fun h => by simp only [if_pos e3]; exact h⟩
      · exact hk.elim
    · exact hk.elim
  | call f as m =>
    cases m with
    | data =>
      simp only [stepOp] at hk ⊢
      split at hk
      · split at hk
        · rename_i e2
          obtain ⟨r, hp, hk⟩ := hk
          exact ⟨r, hk, fun h => by rw [if_pos e2]; exact ⟨r, hp, h⟩⟩
        · exact hk.elim
      · simp at hk
      · exact hk.elim
    | _ => simp [IOp.kl] at hkl
  | _ => simp [IOp.kl] at hkl

theorem readP_det {h : List AObj} {p : AV} {g : Option Nat} {K : AV → Prop} (hk : readP (std P A ro E) h p g K) :
    ∃ v, K v ∧ ∀ {h2 : List AObj} {K2 : AV → Prop}, (∀ l, tgt p = some l → lget h2 l = lget h l) → K2 v → readP (std P A ro E) h2 p g K2 := by
  cases p with
  | ptr l off =>
    simp only [readP] at hk ⊢
    split at hk
    · rename_i e0
      cases g with
      | none =>
        simp only at hk ⊢
        split at hk
        · rename_i e1; exact ⟨_, hk, fun hh h => by rw [hh l rfl, e0]; simp only; first | exact h | (rw [e1]; exact h)⟩
        · exact hk.elim
      | some n =>
        simp only at hk ⊢
        split at hk
        · rename_i e1; exact ⟨_, hk, fun hh h => by rw [hh l rfl, e0]; simp only; first | exact h | (rw [e1]; exact h)⟩
        · exact hk.elim
    · exact hk.elim
  | aptr l sz i off =>
    simp only [readP] at hk ⊢
    split at hk
    · rename_i e0
      split at hk
      · rename_i hc
        obtain ⟨v, hv, hd⟩ := pickD_det hk.2
        exact ⟨v, hv, fun hh h => by rw [hh l rfl, e0]; simp only [if_pos hc]; exact ⟨hk.1, hd h⟩⟩
      · exact hk.elim
    · rename_i e0
      split at hk
      · rename_i hc
        obtain ⟨v, hv, hd⟩ := pickD_det hk.2
        exact ⟨v, hv, fun hh h => by rw [hh l rfl, e0]; simp only [if_pos hc]; exact ⟨hk.1, hd h⟩⟩
      · exact hk.elim
    · exact hk.elim
  | dptr row off =>
    obtain ⟨v, hv, hd⟩ := pickD_det hk
    exact ⟨v, hv, fun _ h => hd h⟩
  | _ => exact hk.elim

theorem kcells_det {ks : List IntKind} : ∀ {cs : List AV} {K : List KC → Prop}, kcells (std P A ro E) ks cs K → ∃ v, K v ∧ ∀ {K2 : List KC → Prop}, K2 v → kcells (std P A ro E) ks cs K2 := by
  induction ks with
  | nil =>
    intro cs K hk
    cases cs with
    | nil => exact ⟨_, hk, fun h => h⟩
    | cons c cs => exact hk.elim
  | cons k ks ih =>
    intro cs K hk
    cases cs with
    | nil => exact hk.elim
    | cons c cs =>
      cases c with
      | d x =>
        cases x with
        | int k' x =>
          simp only [kcells] at hk ⊢
          split at hk
          · rename_i hc
            simp only [if_pos hc]
            obtain ⟨v, hv, hd⟩ := ih hk.2
            exact ⟨_, hv, fun h => ⟨hk.1, hd h⟩⟩
          · exact hk.elim
        | _ => exact hk.elim
      | _ => exact hk.elim

theorem kshape_det {wide : Bool} {ks : List IntKind} {v : AV} {K : List KC → Prop} (hk : kshape (std P A ro E) wide ks v K) : ∃ x, K x ∧ ∀ {K2 : List KC → Prop}, K2 x → kshape (std P A ro E) wide ks v K2 := by
  cases v
  case agg cs =>
    simp only [kshape] at hk ⊢
    split at hk
    · rename_i hc; simp only [if_pos hc]; exact kcells_det hk
    · exact hk.elim
  all_goals
    simp only [kshape] at hk ⊢
    split at hk
    · exact hk.elim
    · rename_i hc; simp only [if_neg hc]; exact kcells_det hk

/-- What reads an object yields the same while that object stands. -/
theorem step_r {o : IOp} (hkl : o.kl = .r) {ts : List AV} {h : List AObj} {mv : List Nat} {K : AV → List AObj → List Nat → Prop} (hk : stepOp (std P A ro E) o ⟨ts, h, mv⟩ K) :
    ∃ v, K v h [] ∧ ∀ {h2 : List AObj} {mv2 : List Nat} {K2 : AV → List AObj → List Nat → Prop}, (∀ x l, o.at = some x → tgt (opd ts x) = some l → lget h2 l = lget h l) → K2 v h2 [] → stepOp (std P A ro E) o ⟨ts, h2, mv2⟩ K2 := by
  cases o with
  | load g x =>
    obtain ⟨v, hv, hd⟩ := readP_det hk
    exact ⟨v, hv, fun hh h => hd (fun l => hh x l rfl) h⟩
  | lookup wide ks ok m k =>
    simp only [stepOp] at hk ⊢
    split at hk
    · rename_i e1
      split at hk
      · rename_i e0
        split at hk
        · rename_i hc
          obtain ⟨v, hv, hd⟩ := kshape_det hk
          cases ok with
          | true => exact ⟨_, hv, fun hh h => by simp only [hh m _ rfl (by rw [e1]; rfl), e0, if_pos hc]; exact hd h⟩
          | false => exact ⟨_, hv, fun hh h => by simp only [hh m _ rfl (by rw [e1]; rfl), e0, if_pos hc]; exact hd h⟩
        · exact hk.elim
      · exact hk.elim
    · exact hk.elim
  | lookupv wide ks ok z m k =>
    simp only [stepOp] at hk ⊢
    split at hk
    · rename_i e1
      split at hk
      · rename_i e0
        split at hk
        · rename_i hc
          obtain ⟨kc, hv, hd⟩ := kshape_det hk
          split at hv
          · rename_i e2
            cases ok with
            | true => exact ⟨_, hv, fun hh h => by simp only [hh m _ rfl (by rw [e1]; rfl), e0, if_pos hc]; exact hd (by simp only [e2]; exact h)⟩
            | false => exact ⟨_, hv, fun hh h => by simp only [hh m _ rfl (by rw [e1]; rfl), e0, if_pos hc]; exact hd (by simp only [e2]; exact h)⟩
          · rename_i e2
            cases ok with
            | true => exact ⟨_, hv, fun hh h => by simp only [hh m _ rfl (by rw [e1]; rfl), e0, if_pos hc]; exact hd (by simp only [e2]; exact h)⟩
            | false => exact ⟨_, hv, fun hh h => by simp only [hh m _ rfl (by rw [e1]; rfl), e0, if_pos hc]; exact hd (by simp only [e2]; exact h)⟩
        · exact hk.elim
      · exact hk.elim
    · exact hk.elim
  | lenm x =>
    simp only [stepOp] at hk ⊢
    split at hk
    · rename_i e1
      split at hk
      · rename_i e0
        exact ⟨_, hk, fun hh h => by simp only [hh x _ rfl (by rw [e1]; rfl), e0]; exact h⟩
      · exact hk.elim
    · exact hk.elim
  | call f as m => cases m <;> simp [IOp.kl] at hkl
  | _ => simp [IOp.kl] at hkl

/-- What makes an object makes the same whatever the others are. -/
theorem stepA_det {l : Nat} {o : IOp} {ts : List AV} {h : List AObj} {mv : List Nat} {K : AV → AObj → Prop} (hk : stepA (std P A ro E) l o ⟨ts, h, mv⟩ K) :
    ∃ v ob, K v ob ∧ ∀ {ts2 : List AV} {h2 : List AObj} {mv2 : List Nat} {K2 : AV → AObj → Prop}, (∀ x, x ∈ o.opds → opd ts2 x = opd ts x) → K2 v ob → stepA (std P A ro E) l o ⟨ts2, h2, mv2⟩ K2 := by
  cases o with
  | alloc zs => exact ⟨_, _, hk, fun _ h => h⟩
  | bnew sz => exact ⟨_, _, hk, fun _ h => h⟩
  | mkmap wide ks => exact ⟨_, _, hk, fun _ h => h⟩
  | mkmapv wide ks => exact ⟨_, _, hk, fun _ h => h⟩
  | box x =>
    simp only [stepA] at hk ⊢
    split at hk
    · rename_i hc
      refine ⟨_, _, hk, fun ha h => ?_⟩
      rw [ha x (by simp [IOp.opds]), if_pos hc]
      exact h
    · exact hk.elim
  | mkslice sz zs b n =>
    obtain ⟨m, hk, hm⟩ := ival_det hk
    refine ⟨_, _, hk.2.2, fun ha h => ?_⟩
    simp only [stepA]
    rw [ha n (by simp [IOp.opds])]
    exact hm ⟨hk.1, hk.2.1, h⟩
  | _ => exact hk.elim

end
end Go.Vf


namespace Go.Vf
open Go

section
variable {P : Program} {A : Ann} {ro : Option Nat} {E : Ent}

theorem PureF.callb_mono {own : Bool} {f : FuncId} {args : List AV} {K K' : AV → Prop} (hK : ∀ v, K v → K' v) (hk : ((std P A ro E)).callb own f args K) : ((std P A ro E)).callb own f args K' := by
  obtain ⟨r, h1, h2⟩ := hk
  exact ⟨r, h1, hK _ h2⟩

theorem NewF.mono {f : FuncId} {args : List AV} {K K' : AV → List AObj → Prop} (hK : ∀ v h, K v h → K' v h) (hk : NewF P f args K) : NewF P f args K' := by
  refine ⟨hk.1, fun w S vs hS hv => (hk.2 w S vs hS hv).mono fun e w' h => ?_⟩
  obtain ⟨v, x, os, S', ρ', h1, h2, h3⟩ := h
  exact ⟨v, x, os, S', ρ', h1, hK _ _ h2, h3⟩

theorem ACall.mono {f : FuncId} {args : List AV} {h : List AObj} {K K' : List Nat → AV → List AObj → Prop} (hK : ∀ p v h, K p v h → K' p v h) (hk : ACall P f args h K) : ACall P f args h K' := by
  refine ⟨hk.1, fun w S ρ vs hs hv => (hk.2 w S ρ vs hs hv).mono fun e w' h => ?_⟩
  obtain ⟨v, x, pg, h', S', ρ', h1, h2, h3⟩ := h
  exact ⟨v, x, pg, h', S', ρ', h1, hK _ _ _ h2, h3⟩

theorem YieldAt.mono' {l : Nat} {args : Array Value} {w : World} {R R' : Ending → World → Prop} (h : YieldAt Fence.wide 0 P l args w R) (hR : ∀ e w', R e w' → R' e w') : YieldAt Fence.wide 0 P l args w R' := by
  obtain ⟨fn, tmps, assign, body, h1, h2⟩ := h
  exact ⟨fn, tmps, assign, body, h1, h2.mono hR⟩

theorem YCall.mono {l : Nat} {args : List AV} {h : List AObj} {K K' : List Nat → AV → List AObj → Prop} (hK : ∀ p v h, K p v h → K' p v h) (hk : YCall P l args h K) : YCall P l args h K' := by
  intro w S ρ vs b C hs hv hρ
  refine YieldAt.mono' (hk w S ρ vs b C hs hv hρ) fun e w' h => ?_
  obtain ⟨v, x, pg, h', S', ρ', h1, h2, h3⟩ := h
  exact ⟨v, x, pg, h', S', ρ', h1, hK _ _ _ h2, h3⟩

theorem stepCopy_mono {h : List AObj} {sz : Nat} {x y : AV} {K K' : AV → List AObj → Prop} (hK : ∀ v h, K v h → K' v h) (hk : stepCopy (std P A ro E) h sz x y K) : stepCopy (std P A ro E) h sz x y K' := by
  unfold stepCopy at hk ⊢
  refine viewN_mono (fun sz2 m e2 hk => ?_) hk
  split at hk
  · rename_i hc
    rw [if_pos hc]
    split at hk
    · split at hk
      · rename_i hc2
        simp only [if_pos hc2]
        split at hk
        · split at hk
          · rename_i hc3
            simp only [if_pos hc3]
            exact ⟨hk.1, hK _ _ hk.2⟩
          · exact hk.elim
        · exact hk
      · exact hk.elim
    · split at hk
      · rename_i hc2
        simp only [if_pos hc2]
        split at hk
        · split at hk
          · split at hk
            · exact hK _ _ hk
            · exact hk
          · exact hk
        · exact hk
      · exact hk.elim
    · exact hk
  · exact hk.elim

theorem stepAppIn_mono {h : List AObj} {sz : Nat} {x y : AV} {K K' : AV → List AObj → Prop} (hK : ∀ v h, K v h → K' v h) (hk : stepAppIn (std P A ro E) h sz x y K) : stepAppIn (std P A ro E) h sz x y K' := by
  unfold stepAppIn at hk ⊢
  refine viewN_mono (fun sz2 m e2 hk => ?_) hk
  split at hk
  · rename_i hc
    rw [if_pos hc]
    split at hk
    · split at hk
      · rename_i hc2
        simp only [if_pos hc2]
        split at hk
        · split at hk
          · rename_i hc3
            simp only [if_pos hc3]
            exact ⟨hk.1, hK _ _ hk.2⟩
          · exact hk.elim
        · exact hk
      · exact hk.elim
    · exact hk
  · exact hk.elim

theorem bndI_mono {ts : List AV} {x : Option IOpd} {d : IX} {K K' : IX → Prop} (hK : ∀ n, K n → K' n) (hk : bndI ts x d K) : bndI ts x d K' := by
  cases x with
  | none => exact hK _ hk
  | some o => exact ival_mono hK hk

theorem writeP_mono {h : List AObj} {p v : AV} {sz : Nat} {K K' : List AObj → Prop} (hK : ∀ h, K h → K' h) (hk : writeP (std P A ro E) h p v sz K) : writeP (std P A ro E) h p v sz K' := by
  cases p with
  | ptr l off =>
    simp only [writeP] at hk ⊢
    split at hk
    · rename_i hc
      rw [if_pos hc]
      split at hk
      · split at hk
        · exact hK _ hk
        · exact hk
      · exact hk
    · exact hk.elim
  | aptr l sz' i off =>
    simp only [writeP] at hk ⊢
    split at hk
    · rename_i hc
      rw [if_pos hc]
      refine dcells_mono (fun new h' hk => ?_) hk
      split at hk
      · split at hk
        · rename_i hc'
          simp only [if_pos hc']
          refine ⟨hk.1, ?_⟩
          have hk := hk.2
          split at hk
          · exact hK _ hk
          · exact hk
        · exact hk.elim
      · exact hk
    · exact hk.elim
  | _ => exact hk.elim

theorem stepAppend_mono {h : List AObj} {sz : Nat} {x y : AV} {mu : Bool} {K K' : AV → List AObj → List Nat → Prop} (hK : ∀ v h p, K v h p → K' v h p) (hk : stepAppend (std P A ro E) h sz x y mu K) : stepAppend (std P A ro E) h sz x y mu K' := by
  unfold stepAppend at hk ⊢
  refine viewN_mono (fun sz2 m e2 hk => ?_) hk
  split at hk
  · rename_i hc
    rw [if_pos hc]
    split at hk
    · refine ⟨hk.1, ?_⟩
      have hk := hk.2
      cases mu <;> exact hK _ _ _ hk
    · split at hk
      · rename_i hc2
        simp only [if_pos hc2]
        refine ⟨hk.1, hk.2.1, ?_⟩
        have hk := hk.2.2
        cases mu <;> exact hK _ _ _ hk
      · exact hk.elim
    · split at hk
      · rename_i hc2
        simp only [if_pos hc2]
        split at hk
        · split at hk
          · rename_i hc3
            simp only [if_pos hc3]
            exact ⟨hk.1, hk.2.1, hK _ _ _ hk.2.2⟩
          · exact hk.elim
        · exact hk
      · exact hk.elim
    · split at hk
      · rename_i hc2
        simp only [if_pos hc2]
        refine view_mono (fun _ n e hk => ?_) hk
        refine ⟨hk.1, hk.2.1, ?_⟩
        have hk := hk.2.2
        cases mu <;> exact hK _ _ _ hk
      · exact hk.elim
    · exact hk
  · exact hk.elim

/-- Of more, more. -/
theorem step_mono {o : IOp} {st : St} {K K' : AV → List AObj → List Nat → Prop} (hK : ∀ v h p, K v h p → K' v h p) (hk : stepOp (std P A ro E) o st K) : stepOp (std P A ro E) o st K' := by
  by_cases h1 : o.kl = .i ∨ o.kl = .p
  · obtain ⟨v, hv, hd⟩ := step_i h1 hk
    exact hd (hK _ _ _ hv)
  by_cases h2 : o.kl = .r
  · obtain ⟨v, hv, hd⟩ := step_r h2 hk
    exact hd (fun _ _ _ _ => rfl) (hK _ _ _ hv)
  cases o with
  | newnil sz => exact hK _ _ _ hk
  | alloc zs => exact hK _ _ _ hk
  | mkmap wide ks => exact hK _ _ _ hk
  | mkmapv wide ks => exact hK _ _ _ hk
  | mapupdv wide ks m k x =>
    simp only [stepOp] at hk ⊢
    split at hk
    · split at hk
      · split at hk
        · rename_i hc
          rw [if_pos hc]
          refine kshape_mono (fun kc hk => ?_) hk
          split at hk
          · exact hK _ _ _ hk
          · exact hK _ _ _ hk
        · exact hk.elim
      · exact hk
    · exact hk
  | box x =>
    simp only [stepOp] at hk ⊢
    split at hk
    · rename_i hc; rw [if_pos hc]; exact hK _ _ _ hk
    · exact hk.elim
  | mkslice sz zs b n => exact ival_mono (fun n hk => ⟨hk.1, hk.2.1, hK _ _ _ hk.2.2⟩) hk
  | bslice sz n zs ps mu =>
    simp only [stepOp] at hk ⊢
    split at hk
    · refine freezeR_mono (fun _ _ hk => ?_) hk
      cases mu <;> exact hK _ _ _ hk
    · exact hk
  | store sz a x =>
    simp only [stepOp] at hk ⊢
    exact writeP_mono (K := fun h' => K .und h' []) (fun _ => hK _ _ _) hk
  | mapupd wide ks m k x =>
    simp only [stepOp] at hk ⊢
    split at hk
    · split at hk
      · split at hk
        · rename_i hc
          rw [if_pos hc]
          exact kshape_mono (fun _ => ival_mono fun _ => hK _ _ _) hk
        · exact hk.elim
      · exact hk
    · exact hk
  | call f as m =>
    simp only [stepOp] at hk ⊢
    split at hk
    · cases m with
      | data => simp [IOp.kl] at h1
      | borrow =>
        refine peekL_mono (fun vs hk => ?_) hk
        split at hk
        · rename_i hc; rw [if_pos hc]; exact PureF.callb_mono (fun _ => hK _ _ _) hk
        · exact hk.elim
      | share =>
        refine freezeL_mono (fun vs h hk => ?_) hk
        split at hk
        · rename_i hc; rw [if_pos hc]; exact PureF.callb_mono (fun _ => hK _ _ _) hk
        · exact hk.elim
      | fresh =>
        refine freezeL_mono (fun vs h hk => ?_) hk
        split at hk
        · rename_i hc; rw [if_pos hc]; exact NewF.mono (fun _ _ => hK _ _ _) hk
        · exact hk.elim
      | raw => exact ACall.mono (fun _ _ _ => hK _ _ _) hk
    · split at hk
      · rename_i hc; rw [if_pos hc]; exact YCall.mono (fun _ _ _ => hK _ _ _) hk
      · exact hk.elim
    · exact hk
  | cap x =>
    simp only [stepOp] at hk ⊢
    split at hk
    · split at hk
      · split at hk
        · rename_i hc
          rw [if_pos hc]
          split at hk
          · rename_i hc; rw [if_pos hc]; exact hK _ _ _ hk
          · rename_i hc; rw [if_neg hc]; exact hK _ _ _ hk
        · exact hk.elim
      · exact hk
    · exact hk
  | append sz b x y mu => exact stepAppend_mono hK hk
  | copy sz x y =>
    simp only [stepOp] at hk ⊢
    exact stepCopy_mono (fun _ _ => hK _ _ _) hk
  | appendIn sz x y =>
    simp only [stepOp] at hk ⊢
    exact stepAppIn_mono (fun _ _ => hK _ _ _) hk
  | appendN sz b x y mu =>
    simp only [stepOp] at hk ⊢
    split at hk
    · exact hK _ _ _ hk
    · exact hK _ _ _ hk
    · exact stepAppend_mono hK hk
  | bnew sz => exact hK _ _ _ hk
  | extractF x i =>
    simp only [stepOp] at hk ⊢
    split at hk
    · split at hk
      · exact freezeC_mono (fun _ _ hk => hK _ _ _ hk) hk
      · exact freezePtr_mono (fun _ _ hk => hK _ _ _ hk) hk
      · exact freeze_mono (fun _ _ hk => hK _ _ _ hk) hk
      · exact hk.elim
    · exact hk.elim
  | mapent wide ks z m k =>
    simp only [stepOp] at hk ⊢
    split at hk
    · split at hk
      · split at hk
        · rename_i hc
          rw [if_pos hc]
          refine kshape_mono (fun kc hk => ?_) hk
          split at hk
          · split at hk
            · exact hK _ _ _ hk
            · exact hk.elim
          · exact hK _ _ _ hk
        · exact hk.elim
      · exact hk
    · exact hk
  | entst m s x =>
    simp only [stepOp] at hk ⊢
    split at hk
    · split at hk
      · exact ival_mono (fun n hk => ⟨hk.1, hK _ _ _ hk.2⟩) hk
      · exact hk
    · exact hk
  | bad => exact hk.elim
  | clear sz zs x =>
    simp only [stepOp] at hk ⊢
    split at hk
    · split at hk
      · rename_i hc
        simp only [if_pos hc]
        split at hk
        · split at hk
          · rename_i hc2
            simp only [if_pos hc2]
            exact ⟨hk.1, hK _ _ _ hk.2⟩
          · exact hk.elim
        · exact hk
      · exact hk.elim
    · exact hk
  | slicex sz x lo hi =>
    simp only [stepOp] at hk ⊢
    split at hk
    · split at hk
      · rename_i hc
        simp only [if_pos hc]
        split at hk
        · split at hk
          · rename_i hc2
            simp only [if_pos hc2]
            exact bndI_mono (fun _ => bndI_mono fun _ hk => ⟨hk.1, hk.2.1, hk.2.2.1, hK _ _ _ hk.2.2.2⟩) hk
          · exact hk.elim
        · exact hk
      · exact hk.elim
    · exact hk
  | ovl x y =>
    simp only [stepOp] at hk ⊢
    split at hk
    · split at hk
      · exact hk.elim
      · rename_i hc
        rw [if_neg hc]
        refine ⟨hk.1, hk.2.1, ?_⟩
        have hk := hk.2.2
        split at hk
        · exact ⟨hk.1, hK _ _ _ hk.2⟩
        · exact hk
    · exact hk
  | load | lookup | lookupv | lenm => simp [IOp.kl] at h2
  | _ => simp [IOp.kl] at h1

/-- A store to a variable, beside an object that is not it. -/
theorem store_beside {sz : Nat} {a x : IOpd} {ts : List AV} {h : List AObj} {mv mv2 : List Nat} {K : AV → List AObj → List Nat → Prop} {l l' off : Nat} {ob : AObj} (ha : opd ts a = .ptr l' off) (hne : l' ≠ l)
    (hk : stepOp (std P A ro E) (.store sz a x) ⟨ts, lset h l ob, mv⟩ K) : ∃ h', h'.length = h.length ∧ K .und (lset h' l ob) [] ∧ ∀ {K2 : AV → List AObj → List Nat → Prop}, K2 .und h' [] → stepOp (std P A ro E) (.store sz a x) ⟨ts, h, mv2⟩ K2 := by
  simp only [stepOp, ha, writeP] at hk ⊢
  split at hk
  · rename_i hc
    simp only [if_pos hc]
    have e : lget (lset h l ob) l' = lget h l' := by rw [lget_eq, lset_eq, lget_eq, List.getElem?_set_ne (Ne.symm hne)]
    rw [e] at hk
    split at hk
    · split at hk
      · rename_i cs' e2
        refine ⟨lset h l' (.var cs'), by simp [lset_eq], ?_, fun h => h⟩
        rw [show lset (lset h l' (.var cs')) l ob = lset (lset h l ob) l' (.var cs') by simp only [lset_eq]; exact (List.set_comm _ _ hne)]
        exact hk
      · exact hk.elim
    · exact hk.elim
  · exact hk.elim

end
end Go.Vf


namespace Go.Vf
open Go

theorem isIn_mem {i : Nat} : ∀ {l : List Nat}, isIn i l = true ↔ i ∈ l := by
  intro l
  induction l with
  | nil => simp [isIn]
  | cons j l ih =>
    simp only [isIn]
    split
    · rename_i h; have := Nat.eq_of_beq_eq_true h; simp [this]
    · rename_i h
      have : i ≠ j := fun e => h (by subst e; simp)
      simp [ih, this]

theorem avoids_spec {base l : Nat} : ∀ {av : List Nat}, avoids base l av = true → ∀ s, s ∈ av → l ≠ base + s := by
  intro av
  induction av with
  | nil => simp
  | cons s r ih =>
    intro h
    simp only [avoids] at h
    split at h
    · cases h
    · rename_i hc
      intro s' hs'
      rcases List.mem_cons.1 hs' with rfl | hs'
      · intro e; subst e; simp at hc
      · exact ih h s' hs'

/-- Two states agree on what an operation looks at. -/
def AgU (o : IOper) (ts ts2 : List AV) : Prop := ∀ t, t ∈ o.uses → lget ts t = lget ts2 t

theorem AgU.symm {o : IOper} {ts ts2 : List AV} (h : AgU o ts ts2) : AgU o ts2 ts := fun t ht => (h t ht).symm
theorem AgU.trans {o : IOper} {ts ts2 ts3 : List AV} (h : AgU o ts ts2) (k : AgU o ts2 ts3) : AgU o ts ts3 := fun t ht => (h t ht).trans (k t ht)

theorem tmpsOf_mem {x : Nat} : ∀ {l : List IOpd}, IOpd.t x ∈ l → x ∈ tmpsOf l := by
  intro l
  induction l with
  | nil => simp
  | cons y l ih =>
    intro h
    cases y with
    | t i =>
      simp only [tmpsOf, List.mem_cons]
      rcases List.mem_cons.1 h with h | h
      · cases h; exact .inl rfl
      · exact .inr (ih h)
    | c v =>
      simp only [tmpsOf]
      rcases List.mem_cons.1 h with h | h
      · cases h
      · exact ih h

theorem AgU.opds {o : IOper} {ts ts2 : List AV} (h : AgU o ts ts2) : ∀ x, x ∈ o.op.opds → opd ts x = opd ts2 x := by
  intro x hx
  cases x with
  | c v => rfl
  | t i =>
    simp only [opd]
    rw [h i]
    unfold IOper.uses
    split
    · exact tmpsOf_mem hx
    · exact List.mem_cons_of_mem _ (tmpsOf_mem hx)

theorem AgU.put {o : IOper} {st : St} {dst : Option Nat} {v : AV} (h : ∀ t, dst = some t → t ∉ o.uses) : AgU o st.ts (st.put dst v).ts := by
  intro t ht
  cases dst with
  | none => rfl
  | some d =>
    simp only [St.put, lget_eq, lset_eq]
    rw [List.getElem?_set_ne]
    intro e; subst e; exact h _ rfl ht

/-- How an operation's guard stands. -/
def gst (o : IOper) (ts : List AV) : Option Bool :=
  match o.guard with
  | none => some true
  | some (j, want) => match lget ts j with
    | some (.d (.bool b)) => some (b == want)
    | some .und => some false
    | _ => none

theorem setb_id {st : St} {j : Nat} {b : Bool} (h : lget st.ts j = some (.d (.bool b))) : st.setb j b = st := by
  obtain ⟨ts, hh, mv⟩ := st
  simp only [St.setb, St.put, St.mk.injEq, and_true]
  rw [lget_eq] at h
  rw [lset_eq]
  obtain ⟨h1, h2⟩ := List.getElem?_eq_some_iff.1 h
  rw [← h2]
  exact List.set_getElem_self h1

theorem guarded_eq {o : IOper} {st : St} {off on : St → Prop} : guarded o st off on = (match gst o st.ts with | some true => on st | some false => off st | none => False) := by
  cases hg : o.guard with
  | none => simp only [guarded, gst, hg]
  | some p =>
    obtain ⟨j, want⟩ := p
    simp only [guarded, gst, hg]
    cases hb : lget st.ts j with
    | none => rfl
    | some v =>
      cases v with
      | d x =>
        cases x with
        | bool b => cases b <;> cases want <;> simp [setb_id hb]
        | _ => rfl
      | _ => rfl

theorem gst_congr {o : IOper} {ts ts2 : List AV} (h : AgU o ts ts2) : gst o ts = gst o ts2 := by
  unfold gst
  split
  · rfl
  · rename_i j want hg
    rw [h j (by simp [IOper.uses, hg])]

theorem avOk_congr {base : Nat} {d : DOper} {ts ts2 : List AV} (h : AgU d.o ts ts2) : avOk base d ts = avOk base d ts2 := by
  unfold avOk
  split
  · rfl
  · split
    · rename_i x hx
      have : x ∈ d.o.op.opds := by
        cases ho : d.o.op <;> rw [ho] at hx <;> simp [IOp.at] at hx <;> subst hx <;> simp [IOp.opds]
      rw [h.opds x this]
    · rfl

theorem avOk_spec {base : Nat} {d : DOper} {ts : List AV} (h : avOk base d ts = true) {x : IOpd} {l : Nat} (hx : d.o.op.at = some x) (hl : tgt (opd ts x) = some l) : ∀ s, s ∈ d.av → l ≠ base + s := by
  unfold avOk at h
  split at h
  · rename_i e; rw [e]; simp
  · rw [hx] at h
    simp only at h
    split at h
    · rename_i e; rw [e] at hl; cases hl; exact avoids_spec h
    · rename_i e; rw [e] at hl; cases hl
      split at h
      · exact avoids_spec h
      · cases h
    · rename_i e; rw [e] at hl; cases hl
      split at h
      · exact avoids_spec h
      · cases h
    · rename_i e; rw [e] at hl; cases hl
    · cases h

/-- A state with a new object, a new value. -/
def eff (st : St) (δ : Option (Nat × AObj)) (dst : Option Nat) (v : AV) : St :=
  match δ with
  | none => st.put dst v
  | some (l, ob) => (st.setH (lset st.h l ob)).put dst v

theorem put_h {st : St} {dst : Option Nat} {v : AV} : (st.put dst v).h = st.h := by cases dst <;> rfl
theorem put_mv {st : St} {dst : Option Nat} {v : AV} : (st.put dst v).mv = st.mv := by cases dst <;> rfl
theorem setH_put {st : St} {dst : Option Nat} {v : AV} {h : List AObj} : (st.put dst v).setH h = (st.setH h).put dst v := by cases dst <;> rfl

theorem put_comm {st : St} {d d' : Option Nat} {v v' : AV} (h : ∀ t, d = some t → d' ≠ some t) : (st.put d v).put d' v' = (st.put d' v').put d v := by
  cases d with
  | none => cases d' <;> rfl
  | some t =>
    cases d' with
    | none => rfl
    | some t' =>
      simp only [St.put, lset_eq, St.mk.injEq, and_true]
      exact List.set_comm _ _ fun e => h t rfl (by rw [e])

theorem put_put {st : St} {d : Option Nat} {v v' : AV} : (st.put d v).put d v' = st.put d v' := by
  cases d with
  | none => rfl
  | some t => simp [St.put, lset_eq]

section
variable {P : Program} {A : Ann} {ro : Option Nat} {E : Ent} {base : Nat}

theorem evDG_eq {F : List DOper} {d : DOper} {st : St} {K : St → Prop} : evDG (std P A ro E) base F d st K = (match gst d.o st.ts with | some true => evD (std P A ro E) base F d st K | some false => K (st.put d.o.dst .und) | none => False) := by
  unfold evDG
  rw [guarded_eq]

theorem step_at {o : IOp} {st : St} {K : AV → List AObj → List Nat → Prop} : stepOp (std P A ro E) o st K = stepOp (std P A ro E) o ⟨st.ts, st.h, st.mv⟩ K := rfl

/-- What changes nothing but for a new object. -/
theorem det {F : List DOper} {d : DOper} {st : St} {K : St → Prop} (hkl : d.o.op.kl ≠ .m) (hk : evDG (std P A ro E) base F d st K) :
    ∃ v δ, (δ = none ∨ (d.o.op.kl = .a ∧ ∃ ob, δ = some (base + d.slot, ob))) ∧ (gst d.o st.ts = some false → v = .und) ∧ K (eff st δ d.o.dst v) ∧
      ∀ {st2 : St} {F2 : List DOper} {K2 : St → Prop}, AgU d.o st.ts st2.ts → (d.o.op.kl = .r → ∀ l, (∀ s, s ∈ d.av → l ≠ base + s) → lget st2.h l = lget st.h l) → K2 (eff st2 δ d.o.dst v) → evDG (std P A ro E) base F2 d st2 K2 := by
  rw [evDG_eq] at hk
  split at hk
  · rename_i hg
    unfold evD at hk
    split at hk
    · rename_i ha
      obtain ⟨v, ob, hk, hd⟩ := stepA_det hk
      refine ⟨v, some (base + d.slot, ob), .inr ⟨ha, ob, rfl⟩, (fun h => by rw [hg] at h; cases h), hk, fun hag _ h2 => ?_⟩
      rw [evDG_eq, ← gst_congr hag, hg]
      simp only [evD, ha]
      exact hd (fun x hx => (hag.opds x hx).symm) h2
    · rename_i ha; exact absurd ha hkl
    · rename_i ha
      split at hk
      · rename_i hav
        obtain ⟨v, hv, hd⟩ := step_r ha hk
        refine ⟨v, none, .inl rfl, (fun h => by rw [hg] at h; cases h), hv, fun {st2} F2 K2 hag hh h2 => ?_⟩
        rw [evDG_eq, ← gst_congr hag, hg]
        simp only [evD, ha]
        rw [← avOk_congr hag, if_pos hav, step_at, ← stepOp_congr (mv := st.mv) hag.opds]
        exact hd (fun x l hx hl => hh ha l (avOk_spec hav hx hl)) h2
      · exact hk.elim
    · rename_i h1 h2 h3
      have hip : d.o.op.kl = .i ∨ d.o.op.kl = .p := by
        cases hx : d.o.op.kl
        · exact .inl rfl
        · exact absurd hx h3
        · exact absurd hx h1
        · exact .inr rfl
        · exact absurd hx h2
      obtain ⟨v, hv, hd⟩ := step_i hip hk
      refine ⟨v, none, .inl rfl, (fun h => by rw [hg] at h; cases h), hv, fun {st2} F2 K2 hag _ h2' => ?_⟩
      rw [evDG_eq, ← gst_congr hag, hg]
      have : evD (std P A ro E) base F2 d st2 K2 = stepOp (std P A ro E) d.o.op st2 fun v _ _ => K2 (st2.put d.o.dst v) := by
        unfold evD
        rcases hip with e | e <;> rw [e]
      simp only []
      rw [this, step_at, ← stepOp_congr (mv := st.mv) hag.opds]
      exact hd h2'
  · rename_i hg
    refine ⟨.und, none, .inl rfl, fun _ => rfl, hk, fun hag _ h2 => ?_⟩
    rw [evDG_eq, ← gst_congr hag, hg]
    exact h2
  · exact hk.elim

/-- a ahead of b, nothing orders them: they may change places. -/
structure May (a b : DOper) : Prop where
  d1 : ∀ t, b.o.dst = some t → t ∉ a.o.uses
  d2 : ∀ t, a.o.dst = some t → t ∉ b.o.uses
  d3 : ∀ t, a.o.dst = some t → b.o.dst ≠ some t
  self : ∀ t, a.o.dst = some t → t ∉ a.o.uses
  al : b.alone = false
  am : a.o.op.kl ≠ .m
  ra : a.o.op.kl = .r → b.o.op.kl = .a → b.slot ∈ a.av
  rm : b.o.op.kl = .m → isIn a.i b.bef = false
  wt : b.o.op.kl = .m → a.watch = true
  ar : a.o.op.kl = .a → b.o.op.kl = .r → a.slot ∈ b.av
  amm : a.o.op.kl = .a → b.o.op.kl = .m → a.slot ∈ b.av
  aa : a.o.op.kl = .a → b.o.op.kl = .a → a.slot ≠ b.slot

/-- r is done ahead of p. -/
structure Past (r p : DOper) : Prop where
  d1 : ∀ t, p.o.dst = some t → t ∉ r.o.uses
  d2 : ∀ t, p.o.dst = some t → r.o.dst ≠ some t
  av : r.o.op.kl = .r → p.o.op.kl = .a → p.slot ∈ r.av

theorem eff_ts {st : St} {δ : Option (Nat × AObj)} {dst : Option Nat} {v : AV} : (eff st δ dst v).ts = (st.put dst v).ts := by
  cases δ with
  | none => rfl
  | some p => cases dst <;> rfl

theorem AgU.eff {o : IOper} {st : St} {δ : Option (Nat × AObj)} {dst : Option Nat} {v : AV} (h : ∀ t, dst = some t → t ∉ o.uses) : AgU o st.ts (Vf.eff st δ dst v).ts := by
  rw [eff_ts]; exact AgU.put h

theorem eff_h {st : St} {δ : Option (Nat × AObj)} {dst : Option Nat} {v : AV} : (eff st δ dst v).h = match δ with | none => st.h | some (l, ob) => lset st.h l ob := by
  cases δ with
  | none => exact put_h
  | some p => cases dst <;> rfl

theorem eff_comm {st : St} {δ δ' : Option (Nat × AObj)} {d d' : Option Nat} {v v' : AV} (h : ∀ t, d = some t → d' ≠ some t) (hδ : ∀ l ob l' ob', δ = some (l, ob) → δ' = some (l', ob') → l ≠ l') :
    eff (eff st δ d v) δ' d' v' = eff (eff st δ' d' v') δ d v := by
  cases δ with
  | none =>
    cases δ' with
    | none => exact put_comm h
    | some p' =>
      obtain ⟨l', ob'⟩ := p'
      simp only [eff, put_h, setH_put]
      exact put_comm h
  | some p =>
    obtain ⟨l, ob⟩ := p
    cases δ' with
    | none =>
      simp only [eff, put_h, setH_put]
      exact put_comm h
    | some p' =>
      obtain ⟨l', ob'⟩ := p'
      have hne := hδ l ob l' ob' rfl rfl
      simp only [eff, put_h, setH_put]
      rw [put_comm h]
      congr 1
      congr 1
      simp only [St.setH, St.mk.injEq, true_and, and_true, lset_eq]
      exact List.set_comm _ _ hne

/-- What nothing orders, and changes nothing but for a new object, changes places. -/
theorem swap_det {F F' : List DOper} {p j : DOper} {st : St} {K : St → Prop} (hm : May p j) (hj : j.o.op.kl ≠ .m) (hk : evDG (std P A ro E) base F p st fun st1 => evDG (std P A ro E) base F' j st1 K) :
    evDG (std P A ro E) base F j st fun st1 => evDG (std P A ro E) base F p st1 K := by
  obtain ⟨v, δ, hδ, _, hk, hd⟩ := det hm.am hk
  obtain ⟨v', δ', hδ', _, hk, hd'⟩ := det hj hk
  refine hd' (AgU.eff hm.d2).symm (fun hr l hl => ?_) (hd (AgU.eff hm.d1) (fun hr l hl => ?_) ?_)
  · rw [eff_h]
    rcases hδ with rfl | ⟨ha, ob, rfl⟩
    · rfl
    · simp only [lget_eq, lset_eq]
      rw [List.getElem?_set_ne]
      exact fun e => hl p.slot (hm.ar ha hr) e.symm
  · rw [eff_h]
    rcases hδ' with rfl | ⟨ha, ob, rfl⟩
    · rfl
    · simp only [lget_eq, lset_eq]
      rw [List.getElem?_set_ne]
      exact fun e => hl j.slot (hm.ra hr ha) e.symm
  · rw [eff_comm (δ := δ') (δ' := δ)]
    · exact hk
    · intro t ht e
      exact hm.d3 t e ht
    · rintro l ob l' ob' rfl rfl
      rcases hδ with h | ⟨ha, ob, h⟩
      · cases h
      · rcases hδ' with h' | ⟨ha', ob', h'⟩
        · cases h'
        · cases h; cases h'
          have := hm.aa ha ha'
          omega

end
end Go.Vf


namespace Go.Vf
open Go

section
variable {P : Program} {A : Ann} {ro : Option Nat} {E : Ent} {base : Nat}

theorem recheck_cons {st : St} {k : Prop} {r : DOper} {rs : List DOper} : recheck (std P A ro E) base st k (r :: rs) = (if r.o.op.kl = .r then (match gst r.o st.ts with
    | some true => if avOk base r st.ts then stepOp (std P A ro E) r.o.op st fun v _ _ => match r.o.dst with
        | some d => v = opd st.ts (.t d) ∧ recheck (std P A ro E) base st k rs
        | none => recheck (std P A ro E) base st k rs
      else False
    | some false => recheck (std P A ro E) base st k rs
    | none => False) else recheck (std P A ro E) base st k rs) := by
  conv => lhs; unfold recheck
  rw [guarded_eq]
  rfl

theorem recheck_move {st st2 : St} {k k2 : Prop} (hkk : k → k2) : ∀ {rs : List DOper}, recheck (std P A ro E) base st k rs →
    (∀ r, r ∈ rs → r.o.op.kl = .r → AgU r.o st.ts st2.ts ∧ (∀ t, r.o.dst = some t → lget st.ts t = lget st2.ts t) ∧ ∀ l, (∀ s, s ∈ r.av → l ≠ base + s) → lget st2.h l = lget st.h l) → recheck (std P A ro E) base st2 k2 rs := by
  intro rs
  induction rs with
  | nil => intro hk _; exact hkk hk
  | cons r rs ih =>
    intro hk h
    have ih := fun hk => ih hk fun r hr => h r (by simp [hr])
    rw [recheck_cons] at hk ⊢
    by_cases hkl : r.o.op.kl = .r
    · obtain ⟨hag, hdst, hh⟩ := h r (by simp) hkl
      rw [if_pos hkl] at hk ⊢
      rw [← gst_congr hag]
      split at hk
      · split at hk
        · rename_i hav
          rw [← avOk_congr hag, if_pos hav, step_at, ← stepOp_congr (mv := st.mv) hag.opds]
          obtain ⟨v, hv, hd⟩ := step_r hkl hk
          refine hd (fun x l hx hl => hh l (avOk_spec hav hx hl)) ?_
          cases hr : r.o.dst with
          | none => rw [hr] at hv; exact ih hv
          | some d =>
            rw [hr] at hv
            refine ⟨hv.1.trans ?_, ih hv.2⟩
            simp only [opd, hdst d hr]
        · exact hk.elim
      · exact ih hk
      · exact hk
    · rw [if_neg hkl] at hk ⊢; exact ih hk

/-- What is looked at again, is done again. -/
theorem recheck_again {F : List DOper} {st : St} {k : Prop} {r : DOper} {rs : List DOper} (hkl : r.o.op.kl = .r) (hk : recheck (std P A ro E) base st k (r :: rs))
    (hg : gst r.o st.ts = some false → st.put r.o.dst .und = st) : evDG (std P A ro E) base F r st fun st1 => st1 = st ∧ recheck (std P A ro E) base st k rs := by
  rw [recheck_cons, if_pos hkl] at hk
  rw [evDG_eq]
  split at hk
  · rename_i h
    try rw [h]
    split at hk
    · rename_i hav
      simp only [evD, hkl, if_pos hav]
      refine step_mono (fun v _ _ hk => ?_) hk
      cases hr : r.o.dst with
      | none => rw [hr] at hk; exact ⟨rfl, hk⟩
      | some d =>
        rw [hr] at hk
        refine ⟨?_, hk.2⟩
        rw [hk.1]
        obtain ⟨ts, hh, mv⟩ := st
        simp only [St.put, opd, St.mk.injEq, and_true]
        rw [lset_eq, lget_eq]
        cases hd : ts[d]? with
        | none =>
          simp only []
          exact List.set_eq_of_length_le (by rw [List.getElem?_eq_none_iff] at hd; exact hd)
        | some v =>
          simp only []
          obtain ⟨h1, h2⟩ := List.getElem?_eq_some_iff.1 hd
          rw [← h2]
          exact List.set_getElem_self h1
    · exact hk.elim
  · rename_i h; try rw [h]
    exact ⟨hg h, hk⟩
  · exact hk.elim

theorem cleanN_forget {m : Nat} : ∀ {pg : List Nat}, cleanN m pg = true → ∀ l, l ∈ pg → Nat.beq l m = false := by
  intro pg
  induction pg with
  | nil => simp
  | cons l pg ih =>
    intro h
    simp only [cleanN] at h
    split at h
    · cases h
    · rename_i hb
      intro l' hl'
      rcases List.mem_cons.1 hl' with rfl | hl'
      · exact Bool.eq_false_iff.2 hb
      · exact ih h l' hl'

mutual
theorem clean_forget {l : Nat} {pg : List Nat} (hl : l ∈ pg) : ∀ (v : AV), cleanV pg v = true → v.forget l false = v
  | .agg cs, h => by simp only [cleanV] at h; simp only [AV.forget]; rw [clean_forgetL hl cs h]
  | .tuple cs, h => by simp only [cleanV] at h; simp only [AV.forget]; rw [clean_forgetL hl cs h]
  | .fn f us cs, h => by
    simp only [cleanV] at h
    split at h
    · rename_i h1; simp only [AV.forget]; rw [clean_forgetL hl us h1, clean_forgetL hl cs h]
    · cases h
  | .ptr m _, h => by simp only [cleanV] at h; simp [AV.forget, cleanN_forget h l hl]
  | .aptr m _ _ _, h => by simp only [cleanV] at h; simp [AV.forget, cleanN_forget h l hl]
  | .msl m _ _ _ _, h => by simp only [cleanV] at h; simp [AV.forget, cleanN_forget h l hl]
  | .vsl m _ _, h => by simp only [cleanV] at h; simp [AV.forget, cleanN_forget h l hl]
  | .map m, h => by simp only [cleanV] at h; simp [AV.forget, cleanN_forget h l hl]
  | .yl m, h => by simp only [cleanV] at h; simp [AV.forget, cleanN_forget h l hl]
  | .d _, _ => rfl
  | .any, _ => rfl
  | .und, _ => rfl
  | .dptr _ _, _ => rfl
  | .dfs _ _ _, _ => rfl
  | .ge _, _ => rfl
theorem clean_forgetL {l : Nat} {pg : List Nat} (hl : l ∈ pg) : ∀ (vs : List AV), cleanL pg vs = true → AV.forgetL l false vs = vs
  | [], _ => rfl
  | v :: r, h => by
    simp only [cleanL] at h
    split at h
    · rename_i h1; simp only [AV.forgetL]; rw [clean_forget hl v h1, clean_forgetL hl r h]
    · cases h
end

theorem clean_forgets {v : AV} : ∀ {pg pg' : List Nat}, (∀ l, l ∈ pg' → l ∈ pg) → cleanV pg v = true → forgetsV pg' v = v := by
  intro pg pg'
  induction pg' with
  | nil => intro _ _; rfl
  | cons l pg' ih =>
    intro hs h
    simp only [forgetsV]
    rw [clean_forget (hs l (by simp)) v h]
    exact ih (fun m hm => hs m (by simp [hm])) h

theorem cleanT_get {pg : List Nat} {ts : List AV} : ∀ {l : List Nat}, cleanT pg ts l = true → ∀ t, t ∈ l → ∀ v, lget ts t = some v → cleanV pg v = true := by
  intro l
  induction l with
  | nil => simp
  | cons t l ih =>
    intro h
    simp only [cleanT] at h
    intro t' ht' v hv
    cases hv0 : lget ts t with
    | none =>
      simp only [hv0, if_true] at h
      rcases List.mem_cons.1 ht' with rfl | ht'
      · rw [hv0] at hv; cases hv
      · exact ih h t' ht' v hv
    | some u =>
      simp only [hv0] at h
      split at h
      · rename_i h1
        rcases List.mem_cons.1 ht' with rfl | ht'
        · rw [hv0] at hv; cases hv; exact h1
        · exact ih h t' ht' v hv
      · cases h

theorem cleanT_congr {pg : List Nat} {ts ts2 : List AV} : ∀ {l : List Nat}, (∀ t, t ∈ l → lget ts t = lget ts2 t) → cleanT pg ts l = cleanT pg ts2 l := by
  intro l
  induction l with
  | nil => intro _; rfl
  | cons t l ih =>
    intro h
    simp only [cleanT]
    rw [h t (by simp), ih fun t ht => h t (by simp [ht])]

theorem purge_get {st : St} {pg : List Nat} {t : Nat} : lget (st.purge pg).ts t = (lget st.ts t).map (forgetsV pg) := by
  rw [lget_eq, lget_eq, (forgetsL_eq pg st).1, List.getElem?_map]

theorem purge_put {pg : List Nat} {st : St} {dst : Option Nat} {v : AV} (hv : cleanV pg v = true) : (st.put dst v).purge pg = (st.purge pg).put dst v := by
  have h1 := forgetsL_eq pg (st.put dst v)
  have h2 := forgetsL_eq pg st
  have hm : ∀ (pg : List Nat) (st1 st2 : St), st1.mv = st2.mv → (st1.purge pg).mv = (st2.purge pg).mv := by
    intro pg
    induction pg with
    | nil => intro st1 st2 h; exact h
    | cons l pg ih => intro st1 st2 h; exact ih _ _ (by simp [h])
  have h3 := hm pg (st.put dst v) st put_mv
  cases hst : (st.put dst v).purge pg with
  | mk ts h mv =>
    rw [hst] at h1 h3
    cases hst2 : st.purge pg with
    | mk ts2 hh2 mv2 =>
      rw [hst2] at h2 h3
      simp only at h1 h2 h3
      cases dst with
      | none => simp only [St.put] at h1 ⊢; rw [h1.1, h1.2, h2.1, h2.2, h3]
      | some d =>
        simp only [St.put, lset_eq] at h1 ⊢
        rw [h1.1, h1.2, h2.1, h2.2, h3, List.map_set, clean_forgets (fun _ h => h) hv]

theorem apart_mem {d r : DOper} {F : List DOper} (h : r ∈ apart d F) : r ∈ F := by
  induction F with
  | nil => simp [apart] at h
  | cons x F ih =>
    simp only [apart] at h
    split at h
    · exact List.mem_cons_of_mem _ (ih h)
    · rcases List.mem_cons.1 h with rfl | h
      · exact List.mem_cons_self
      · exact List.mem_cons_of_mem _ (ih h)

theorem kl_at {o : IOp} (h : o.kl = .m) {x : IOpd} (hx : o.at = some x) : ∃ sz y, o = .store sz x y := by
  cases o with
  | store sz a y => simp [IOp.at] at hx; subst hx; exact ⟨sz, y, rfl⟩
  | load | lookup | lookupv | lenm => simp [IOp.kl] at h
  | _ => simp [IOp.at] at hx

theorem lget_put {st : St} {dst : Option Nat} {v : AV} {t : Nat} (h : dst ≠ some t) : lget (st.put dst v).ts t = lget st.ts t := by
  cases dst with
  | none => rfl
  | some d =>
    simp only [St.put, lget_eq, lset_eq]
    rw [List.getElem?_set_ne]
    intro e; subst e; exact h rfl

theorem calmF_get {pg : List Nat} {ts : List AV} : ∀ {F : List DOper}, calmF pg ts F = true → ∀ r, r ∈ F → cleanT pg ts r.o.uses = true ∧ cleanT pg ts (dstL r.o) = true := by
  intro F
  induction F with
  | nil => simp
  | cons x F ih =>
    intro h
    simp only [calmF] at h
    split at h
    · rename_i h1
      split at h
      · rename_i h2
        intro r hr
        rcases List.mem_cons.1 hr with rfl | hr
        · exact ⟨h1, h2⟩
        · exact ih h r hr
      · cases h
    · cases h

theorem calmF_congr {pg : List Nat} {ts ts2 : List AV} : ∀ {F : List DOper}, (∀ r, r ∈ F → AgU r.o ts ts2 ∧ ∀ t, r.o.dst = some t → lget ts t = lget ts2 t) → calmF pg ts F = calmF pg ts2 F := by
  intro F
  induction F with
  | nil => intro _; rfl
  | cons x F ih =>
    intro h
    obtain ⟨h1, h2⟩ := h x (by simp)
    simp only [calmF]
    rw [cleanT_congr h1, ih fun r hr => h r (by simp [hr])]
    congr 2
    unfold dstL
    cases hd : x.o.dst with
    | none => rfl
    | some d =>
      have : cleanT pg ts [d] = cleanT pg ts2 [d] := cleanT_congr fun t ht => by simp at ht; subst ht; exact h2 t hd
      simp only [this]

theorem lget_put_self {st : St} {d : Nat} {v u : AV} (h : lget (st.put (some d) v).ts d = some u) : u = v := by
  simp only [St.put, lget_eq, lset_eq, List.getElem?_set] at h
  split at h
  · split at h
    · simpa using h.symm
    · cases h
  · rename_i h1; exact absurd trivial h1

/-- The same where the later one changes an object. -/
theorem swap_m {F : List DOper} {p j : DOper} {st : St} {K : St → Prop} (hm : May p j) (hj : j.o.op.kl = .m) (hF : ∀ r, r ∈ F → Past r p)
    (hk : evDG (std P A ro E) base F p st fun st1 => evDG (std P A ro E) base (loads p F) j st1 K) : evDG (std P A ro E) base F j st fun st1 => evDG (std P A ro E) base F p st1 K := by
  obtain ⟨v, δ, hδ, hund, hk, hd⟩ := det hm.am hk
  have hag : AgU j.o st.ts (eff st δ p.o.dst v).ts := AgU.eff hm.d2
  have eF : loads p F = p :: F := by unfold loads; rw [if_pos (hm.wt hj)]
  have eA : apart j (loads p F) = p :: apart j F := by rw [eF, apart, if_neg (by rw [hm.rm hj]; simp)]
  rw [evDG_eq] at hk ⊢
  rw [← gst_congr hag] at hk
  split at hk
  · rename_i hg
    simp only [evD, hj] at hk ⊢
    rw [← avOk_congr hag] at hk
    rw [eA] at hk
    split at hk
    · rename_i hav
      rw [if_pos hav]
      rcases hδ with rfl | ⟨ha, ob, rfl⟩
      · -- no new object
        rw [step_at, ← stepOp_congr (mv := st.mv) hag.opds, eff_h] at hk
        refine step_mono (fun vj h' pg hk => ?_) hk
        -- behind j: st2 without p, st2' with it
        have fin : ∀ (st2 : St), AgU p.o st.ts st2.ts → recheck (std P A ro E) base (st2.put p.o.dst v) (K (st2.put p.o.dst v)) (p :: apart j F) →
            recheck (std P A ro E) base st2 (evDG (std P A ro E) base F p st2 K) (apart j F) := by
          intro st2 ag2 hk
          have tr : ∀ r, r ∈ F → r.o.op.kl = .r → AgU r.o (st2.put p.o.dst v).ts st2.ts ∧ (∀ t, r.o.dst = some t → lget (st2.put p.o.dst v).ts t = lget st2.ts t) ∧
              ∀ l, (∀ s, s ∈ r.av → l ≠ base + s) → lget st2.h l = lget (st2.put p.o.dst v).h l :=
            fun r hr _ => ⟨(AgU.put (hF r hr).d1).symm, fun t ht => lget_put fun e => (hF r hr).d2 t e ht, fun l _ => by rw [put_h]⟩
          by_cases hp : p.o.op.kl = .r
          · have hgp : gst p.o (st2.put p.o.dst v).ts = gst p.o st.ts := by
              rw [← gst_congr (AgU.put (st := st2) (v := v) hm.self), gst_congr ag2]
            have hk := recheck_again (F := F) hp hk (fun hg' => by
              rw [hgp] at hg'
              rw [hund hg', put_put])
            obtain ⟨v2, δ2, hδ2, _, ⟨h1, h2⟩, hd2⟩ := det hm.am hk
            rcases hδ2 with rfl | ⟨ha, _⟩
            · refine recheck_move (fun hk => ?_) h2 fun r hr => tr r (apart_mem hr)
              refine hd2 (AgU.put hm.self).symm (fun _ l _ => by rw [put_h]) ?_
              have : eff st2 none p.o.dst v2 = st2.put p.o.dst v := by
                rw [← h1]
                simp only [eff, put_put]
              rw [this]
              exact hk
            · rw [hp] at ha; cases ha
          · rw [recheck_cons, if_neg hp] at hk
            refine recheck_move (fun hk => ?_) hk fun r hr => tr r (apart_mem hr)
            exact hd ag2 (fun h => absurd h hp) hk
        cases pg with
        | cons x pg =>
          simp only at hk ⊢
          rw [hm.al] at hk ⊢
          simp only [Bool.false_eq_true, if_false] at hk ⊢
          split at hk
          · rename_i hlt
            rw [if_pos hlt]
            split at hk
            · rename_i hcalm
              obtain ⟨hc1, hc2⟩ := calmF_get hcalm p (by simp)
              have hcr : calmF (x :: pg) st.ts (apart j F) = true := by
                rw [calmF_congr (ts2 := (eff st none p.o.dst v).ts) fun r hr => ?_]
                · have h9 := hcalm
                  simp only [calmF, hc1, hc2, if_true] at h9
                  exact h9
                · have hr := hF r (apart_mem hr)
                  rw [eff_ts]
                  exact ⟨AgU.put hr.d1, fun t ht => (lget_put fun e => hr.d2 t e ht).symm⟩
              rw [if_pos hcr]
              have hag2 : AgU p.o st.ts (((st.setH h').purge (x :: pg)).put j.o.dst vj).ts := by
                intro t ht
                rw [lget_put (fun e => hm.d1 t e ht), purge_get]
                show lget st.ts t = (lget st.ts t).map _
                cases hv : lget st.ts t with
                | none => rfl
                | some u =>
                  have hcl : cleanV (x :: pg) u = true := by
                    refine cleanT_get hc1 t ht u ?_
                    rw [eff_ts, lget_put fun e => hm.self t e ht]; exact hv
                  simp only [Option.map_some]
                  rw [clean_forgets (fun _ h => h) hcl]
              have hst : ((((eff st none p.o.dst v).setH h').purge (x :: pg)).put j.o.dst vj) = (((st.setH h').purge (x :: pg)).put j.o.dst vj).put p.o.dst v := by
                simp only [eff, setH_put]
                cases hpd : p.o.dst with
                | none => rfl
                | some d =>
                  by_cases hin : ∃ u, lget (st.put (some d) v).ts d = some u
                  · obtain ⟨u, hu⟩ := hin
                    have hcv : cleanV (x :: pg) v = true := by
                      have := lget_put_self hu
                      subst this
                      refine cleanT_get hc2 d (by simp [dstL, hpd]) u ?_
                      rw [eff_ts, hpd]; exact hu
                    rw [purge_put hcv]
                    exact put_comm fun t ht => hm.d3 t (by rw [hpd]; exact ht)
                  · have hnone : st.ts.length ≤ d := by
                      refine Nat.le_of_not_lt fun hlt => hin ⟨v, ?_⟩
                      simp [St.put, lget_eq, lset_eq, hlt]
                    have e1 : ∀ (s2 : St), s2.ts.length ≤ d → s2.put (some d) v = s2 := by
                      intro s2 h
                      cases s2
                      simp only [St.put, lset_eq, St.mk.injEq, and_true]
                      exact List.set_eq_of_length_le h
                    rw [e1 (st.setH h') hnone, e1]
                    have hl : ((st.setH h').purge (x :: pg)).ts.length = st.ts.length := by rw [(forgetsL_eq _ _).1]; simp [St.setH]
                    cases j.o.dst with
                    | none => show ((st.setH h').purge (x :: pg)).ts.length ≤ d; omega
                    | some dj => simp only [St.put, lset_eq, List.length_set]; omega
              rw [hst] at hk
              exact fin _ hag2 hk
            · exact hk.elim
          · exact hk.elim
        | nil =>
          simp only at hk ⊢
          have e1 : ((eff st none p.o.dst v).setH h').put j.o.dst vj = ((st.setH h').put j.o.dst vj).put p.o.dst v := by
            simp only [eff, setH_put]
            exact put_comm hm.d3
          rw [e1] at hk
          exact fin _ (AgU.put hm.d1 : AgU p.o (st.setH h').ts _) hk
      · -- a new object
        have hnr : p.o.op.kl ≠ .r := by rw [ha]; simp
        have hslot := hm.amm ha hj
        have hx : ∃ sz x y l' off, j.o.op = .store sz x y ∧ opd st.ts x = .ptr l' off ∧ l' ≠ base + p.slot := by
          have hav' := hav
          unfold avOk at hav'
          split at hav'
          · rename_i e; rw [e] at hslot; simp at hslot
          · split at hav'
            · rename_i x hx
              obtain ⟨sz, y, hst⟩ := kl_at hj hx
              split at hav'
              · rename_i l' off e3
                exact ⟨sz, x, y, l', off, hst, e3, avoids_spec hav' _ hslot⟩
              · rw [hj] at hav'; simp at hav'
              · rw [hj] at hav'; simp at hav'
              · rw [hj] at hav'; simp at hav'
              · cases hav'
            · cases hav'
        obtain ⟨sz, x, y, l', off, hst, hx, hne⟩ := hx
        rw [step_at, ← stepOp_congr (mv := st.mv) hag.opds, eff_h, hst] at hk
        obtain ⟨h', hlen, hk, hd3⟩ := store_beside hx hne hk
        rw [hst]
        refine hd3 ?_
        simp only at hk ⊢
        rw [recheck_cons, if_neg hnr] at hk
        have e1 : ((eff st (some (base + p.slot, ob)) p.o.dst v).setH (lset h' (base + p.slot) ob)).put j.o.dst .und = eff ((st.setH h').put j.o.dst .und) (some (base + p.slot, ob)) p.o.dst v := by
          simp only [eff, setH_put, put_h]
          exact put_comm hm.d3
        rw [e1] at hk
        generalize hst2 : (st.setH h').put j.o.dst .und = st2 at hk ⊢
        have ag2 : AgU p.o st.ts st2.ts := by subst hst2; exact (AgU.put hm.d1 : AgU p.o (st.setH h').ts _)
        refine recheck_move (fun hk => hd ag2 (fun h => absurd h hnr) hk) hk fun r hr hrk => ?_
        have hr := hF r (apart_mem hr)
        refine ⟨(AgU.eff hr.d1).symm, fun t ht => ?_, fun l hl => ?_⟩
        · rw [eff_ts]; exact lget_put fun e => hr.d2 t e ht
        · rw [eff_h]
          simp only [lget_eq, lset_eq]
          rw [List.getElem?_set_ne]
          exact fun e => hl p.slot (hr.av hrk ha) e.symm
    · exact hk.elim
  · rename_i hg
    refine hd (AgU.put hm.d1) (fun _ l _ => by rw [put_h]) ?_
    have : eff (st.put j.o.dst .und) δ p.o.dst v = (eff st δ p.o.dst v).put j.o.dst .und := by
      have := eff_comm (st := st) (δ := none) (δ' := δ) (d := j.o.dst) (d' := p.o.dst) (v := .und) (v' := v) (fun t ht e => hm.d3 t e ht) (by rintro l ob l' ob' h _; cases h)
      exact this
    rw [this]
    exact hk
  · exact hk

end
end Go.Vf
