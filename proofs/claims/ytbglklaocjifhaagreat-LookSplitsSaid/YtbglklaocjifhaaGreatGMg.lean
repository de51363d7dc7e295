/- The executor's twentieth text. Conditions: none. -/
import Derived.Test.YtbglklaocjifhaaGreatGMd
import Derived.Scope
import Derived.LoopNIn
open Go.Vf.qr renaming VL->AA,kl->At
open Option renaming bind_eq_some_iff->AB,some->AC,bind_eq_bind->AG,pure_def->AO,none->AP,map_some->Ax,getD_some->BL
open Option.some renaming injEq->AD
open List renaming mem_cons->AE,getElem?_eq_some_iff->AF,pairwise_cons->AJ,getElem?_set_ne->AK,mem_cons_of_mem->AN,mem_append_left->AT,all_eq_true->AU,mem_append->AZ,getElem?_cons_succ->Am,set_getElem_self->Ao,mem_range->As,mem_filter->Az,mapM_cons->A2,getElem?_append_left->A6,set_eq_of_length_le->A9,set_comm->BA,getElem?_cons_zero->BB,mem_map->BC,mem_append_right->BF,pairwise_append->BJ,length_append->BM,getElem?_set->BR,any_eq_true->BV,map_cons->BZ
open Go.Region renaming wanted->AH,ready->A8
open Array renaming getElem?_eq_some_iff->AI,getElem?_push->AX,getElem?_toList->Ad,getD_eq_getD_getElem?->Ag,getElem?_setIfInBounds->Ay,getElem?_eq_getElem->A3,getElem?_replicate->A7,range->BG,all_eq_true'->BK,replicate->BW,ext'->Be
open Bool renaming true->AL,false->AR,and_eq_true->AW,or_eq_true->Aa,not_eq_true'->Ac,not_true->Ba,false_or->Bb
open Go.Vf renaming ms->AM,i7->Ak,Rel->Aw,lw->Bl,v4->Bn,WO->Bo
open Nat renaming le_refl->AQ,le_of_ble_eq_true->Ar,eq_of_beq_eq_true->BI,blt_eq->Bg
open List.Sublist renaming refl->AS
open Go renaming World->AY,Value->Ae,undef->Ai,wpIn_mono->Ap,yielded->Au,IntKind->Av,Oper->A4,TypeId->BD,LeavesInM->BN,execOp->BO,callsIn_wide->BP,FuncId->BS,callsIn_of_wp_marks->BX,Code->Bd,newRow->Bf,Deferred->Bh,Act->Bi,wpOpsIn->Bk,Operand->Bm,asAddr->Bq,Func->Br,Ending->Bs
open Go.Result renaming andThen_ok->Ab,andThen->BU
open Go.Vf.AV renaming forget->Af,ip->Bj,rg->Bp
open Go.Fence renaming wide->Ah
open Go.World renaming putObj_heap_other->Aj,size_alloc->BQ,putObj->BY
open Go.Vf.St renaming put->Al,ld->BH,mk->Bc
open Go.Sem renaming run_bind->An,run_pure->BE
open Go.Vf.St.mk renaming injEq->Aq
open Ne renaming symm->A5
set_option linter.unusedSimpArgs false
set_option linter.unusedVariables false
namespace Go.Vf
open Go
section
variable {P:Program} {A:t7} {ro:Option Nat} {E:x4}
theorem a8l {ts ts2:List AV}: ∀{l:List ah},(∀x,x∈l->Ak ts x=Ak ts2 x)->tg ts l=tg ts2 l:=by
 intro l
 induction l with
 |nil=>intro _;rfl
 |cons x l ih=>intro h;simp only[tg];rw[h x (by simp),ih fun y hy=>h y (by simp[hy])]
theorem b8y {ts ts2:List AV}: ∀{l:List (Nat×Nat×ah)} {cs:List AV},(∀x,x∈l.map (·.2.2)->Ak ts x=Ak ts2 x)->Ic ts cs l=Ic ts2 cs l:=by
 intro l
 induction l with
 |nil=>intro cs _;rfl
 |cons x l ih=>
  intro cs h;obtain⟨off,sz,x⟩:=x;simp only[Ic];rw[h x (by simp)];congr 1;split
  ·exact ih fun y hy=>h y (by simp only[BZ,AE];exact .inr hy)
  ·rfl
theorem b1s {ts ts2:List AV}{sz:Nat}: ∀{l:List (Nat×ah)} {cs:List (List AV)},(∀x,x∈l.map (·.2)->Ak ts x=Ak ts2 x)->zz ts sz cs l=zz ts2 sz cs l:=by
 intro l
 induction l with
 |nil=>intro cs _;rfl
 |cons x l ih=>
  intro cs h;obtain⟨off,x⟩:=x;simp only[zz];rw[h x (by simp)];congr 1;split
  ·exact ih fun y hy=>h y (by simp only[BZ,AE];exact .inr hy)
  ·rfl
theorem zr {ts ts2:List AV}{x:Option ah}{d:IX}{K:IX->Prop}(h: ∀y,y∈qx x->Ak ts y=Ak ts2 y):rz ts x d K=rz ts2 x d K:=by
 cases x with
 |none=>rfl
 |some o=>simp only[rz];rw[h o (by simp[qx])]
theorem Rh {S:We}{o:qr}{ts ts2:List AV}{h:List ae}{mv qd:List Nat}{K:AV->List ae->List Nat->Prop}(ha: ∀x,x∈o.VL->Ak ts x=Ak ts2 x):
 af S o ⟨ts,h,mv⟩ K=af S o ⟨ts2,h,qd⟩ K:=by
 cases o with
 |VA|alloc|x6|og|V5|bad|v6|Wq|Wp=>rfl
 |build zs ps=>simp only[af];rw[b8y ha]
 |x8 sz n zs ps mu=>simp only[af];rw[b1s ha]
 |t6 sz n zs ps=>simp only[af];rw[b1s ha]
 |WT f l m=>simp only[af];rw[a8l fun x hx=>ha x (by simp[AA,hx]),a8l (l:=m) fun x hx=>ha x (by simp[AA,hx])]
 |call f as m=>simp only[af];rw[a8l fun x hx=>ha x (by simp[AA,hx]),ha f (by simp[AA])]
 |slice sz x lo hi mx=>
  simp only[af];rw[ha x (by simp[AA])];have h1: ∀y,y∈qx lo->Ak ts y=Ak ts2 y:=fun y hy=>ha y (by simp[AA,hy]);have h2: ∀y,y∈qx hi->Ak ts y=Ak ts2 y:=fun y hy=>ha y (by simp[AA,hy]);have h3: ∀y,y∈qx mx->Ak ts y=Ak ts2 y:=fun y hy=>ha y (by simp[AA,hy]);unfold xg;split
  ·congr 1;rw[zr h1];congr 1;funext Is;rw[zr h2];congr 1;funext fw;congr 1;congr 1;congr 1;cases mx with
   |none=>rfl
   |some m=>simp only[];rw[h3 m (by simp[qx])]
  ·congr 1;rw[zr h1];congr 1;funext Is;rw[zr h2];congr 1;funext fw;congr 1;congr 1;congr 1;cases mx with
   |none=>rfl
   |some m=>simp only[];rw[h3 m (by simp[qx])]
  ·rw[zr h1];congr 1;funext Is;rw[zr h2];congr 1;funext fw;congr 1;congr 1;cases mx with
   |none=>rfl
   |some m=>simp only[];rw[h3 m (by simp[qx])]
  ·rfl
 |Vo sz x lo hi=>simp only[af];rw[ha x (by simp[AA])];have h1: ∀y,y∈qx lo->Ak ts y=Ak ts2 y:=fun y hy=>ha y (by simp[AA,hy]);have h2: ∀y,y∈qx hi->Ak ts y=Ak ts2 y:=fun y hy=>ha y (by simp[AA,hy]);simp only[zr h1,zr h2]
 |VH n x lo hi=>simp only[af];rw[ha x (by simp[AA])];have h1: ∀y,y∈qx lo->Ak ts y=Ak ts2 y:=fun y hy=>ha y (by simp[AA,hy]);have h2: ∀y,y∈qx hi->Ak ts y=Ak ts2 y:=fun y hy=>ha y (by simp[AA,hy]);simp only[zr h1,zr h2]
 |VI sz x lo hi mx=>simp only[af];rw[ha x (by simp[AA])];have h1: ∀y,y∈qx lo->Ak ts y=Ak ts2 y:=fun y hy=>ha y (by simp[AA,hy]);have h2: ∀y,y∈qx hi->Ak ts y=Ak ts2 y:=fun y hy=>ha y (by simp[AA,hy]);have h3: ∀y,y∈qx mx->Ak ts y=Ak ts2 y:=fun y hy=>ha y (by simp[AA,hy]);simp only[Iz,zr h1,zr h2,zr h3]
 |pick c a b=>simp only[af];rw[ha c (by simp[AA]),ha a (by simp[AA]),ha b (by simp[AA])]
 |store sz a b=>simp only[af];rw[ha a (by simp[AA]),ha b (by simp[AA])]
 |bin op a b=>simp only[af];rw[ha a (by simp[AA]),ha b (by simp[AA])]
 |WC op a b=>simp only[af];rw[ha a (by simp[AA]),ha b (by simp[AA])]
 |Yb n ks a b=>simp only[af];rw[ha a (by simp[AA]),ha b (by simp[AA])]
 |Wf n ks a b=>simp only[af];rw[ha a (by simp[AA]),ha b (by simp[AA])]
 |VG sz a b=>simp only[af];rw[ha a (by simp[AA]),ha b (by simp[AA])]
 |z5 n sz a b=>simp only[af];rw[ha a (by simp[AA]),ha b (by simp[AA])]
 |lookup wd ks ok a b=>simp only[af];rw[ha a (by simp[AA]),ha b (by simp[AA])]
 |m9 wd ks ok z a b=>simp only[af];rw[ha a (by simp[AA]),ha b (by simp[AA])]
 |SW wd ks z a b=>simp only[af];rw[ha a (by simp[AA]),ha b (by simp[AA])]
 |t5 sz by' a b=>simp only[af];rw[ha a (by simp[AA]),ha b (by simp[AA])]
 |x5 by' a b=>simp only[af];rw[ha a (by simp[AA]),ha b (by simp[AA])]
 |VW a b c=>simp only[af];rw[ha a (by simp[AA]),ha b (by simp[AA]),ha c (by simp[AA])]
 |W8 x=>simp only[af];rw[ha x (by simp[AA])]
 |W7 x=>simp only[af];rw[ha x (by simp[AA])]
 |W2 x=>simp only[af];rw[ha x (by simp[AA])]
 |pm x i=>simp only[af];rw[ha x (by simp[AA])]
 |n9 wd ks a b c=>simp only[af];rw[ha a (by simp[AA]),ha b (by simp[AA]),ha c (by simp[AA])]
 |Id wd ks a b c=>simp only[af];rw[ha a (by simp[AA]),ha b (by simp[AA]),ha c (by simp[AA])]
 |min a b=>simp only[af];rw[ha a (by simp[AA]),ha b (by simp[AA])]
 |bw op a b=>simp only[af];rw[ha a (by simp[AA]),ha b (by simp[AA])]
 |max a b=>simp only[af];rw[ha a (by simp[AA]),ha b (by simp[AA])]
 |append sz by' a b mu=>simp only[af];rw[ha a (by simp[AA]),ha b (by simp[AA])]
 |copy sz a b=>simp only[af];rw[ha a (by simp[AA]),ha b (by simp[AA])]
 |oq sz a b=>simp only[af];rw[ha a (by simp[AA]),ha b (by simp[AA])]
 |pi sz by' a b mu=>simp only[af];rw[ha a (by simp[AA]),ha b (by simp[AA])]
 |XE a b=>simp only[af];rw[ha a (by simp[AA]),ha b (by simp[AA])]
 |clear sz zs x=>simp only[af];rw[ha x (by simp[AA])]
 |Vy n x=>simp only[af];rw[ha x (by simp[AA])]
 |idxs l x=>simp only[af];rw[ha x (by simp[AA])]
 |mv x=>simp only[af];rw[ha x (by simp[AA])]
 |box x=>simp only[af];rw[ha x (by simp[AA])]
 |load g x=>simp only[af];rw[ha x (by simp[AA])]
 |T8 x=>simp only[af];rw[ha x (by simp[AA])]
 |un op x=>simp only[af];rw[ha x (by simp[AA])]
 |conv k x=>simp only[af];rw[ha x (by simp[AA])]
 |mp sz zs b x=>simp only[af];rw[ha x (by simp[AA])]
 |VX off x=>simp only[af];rw[ha x (by simp[AA])]
 |field off g x=>simp only[af];rw[ha x (by simp[AA])]
 |extract x i=>simp only[af];rw[ha x (by simp[AA])]
 |len x=>simp only[af];rw[ha x (by simp[AA])]
 |V8 x=>simp only[af];rw[ha x (by simp[AA])]
 |cap x=>simp only[af];rw[ha x (by simp[AA])]
end
section
variable {P:Program} {A:t7} {ro:Option Nat} {E:x4}
theorem b5p {p:Prop}{q r:Prop}(h:q->r)(k:((AM P A ro E)).mt p q):((AM P A ro E)).mt p r:=⟨k.1,h k.2⟩
theorem Ud {h:List ae}{v:AV}{K K':Nat->Nat->(Nat->List DV)->Prop}(hK: ∀a b c,K a b c->K' a b c)(hk:um (AM P A ro E) h v K):um (AM P A ro E) h v K':=by
 unfold um at hk⊢;split
 ·exact hK _ _ _ hk
 ·exact hK _ _ _ hk
 ·simp only at hk;split
  ·rename_i e1;rw[e1] at hk;simp only at hk;split at hk
   ·rename_i hc;rw[if_pos hc];exact b5p (hK _ _ _) hk
   ·exact hk.elim
  ·rename_i e1;rw[e1] at hk;simp only at hk;split at hk
   ·rename_i hc;rw[if_pos hc];exact b5p (hK _ _ _) hk
   ·exact hk.elim
  ·rename_i e1 e2;split at hk
   ·rename_i h3;exact absurd h3 (e1 _ _ _)
   ·rename_i h3;exact absurd h3 (e2 _ _ _)
   ·exact hk
 ·rename_i e1 e2 e3;split at hk
  ·exact absurd rfl (e1 _ _ _)
  ·exact absurd rfl (e2 _ _ _)
  ·exact absurd rfl (e3 _ _ _ _ _)
  ·exact hk
theorem a9c {sz:Nat}{h:List ae}{v:AV}{K K':Nat->Nat->(Nat->List DV)->Prop}(hK: ∀a b c,K a b c->K' a b c)(hk:zm (AM P A ro E) sz h v K):zm (AM P A ro E) sz h v K':=by
 unfold zm at hk⊢;split
 ·exact hK _ _ _ hk
 ·exact hK _ _ _ hk
 ·rename_i e1 e2;split at hk
  ·exact absurd rfl e1
  ·exact absurd rfl (e2 _ _)
  ·exact Ud hK hk
theorem b8k {h:List ae}{v:AV}{K K':AV->Prop}(hK: ∀v,K v->K' v)(hk:HT (AM P A ro E) h v K):HT (AM P A ro E) h v K':=by
 cases v with
 |d7 l off n=>
  simp only[HT] at hk⊢;split at hk
  ·split at hk
   ·split at hk
    ·exact hK _ hk
    ·exact hk.elim
   ·exact hk.elim
  ·exact hk.elim
 |bi l sz s n f=>simp only[HT] at hk⊢;exact Ud (fun _ _ _=>hK _) hk
 |lm sz n e=>exact hK _ hk
 |_=>exact hK _ hk
theorem c5v {h:List ae}{vs:List AV}: ∀{K K':List AV->Prop},(∀v,K v->K' v)->NH (AM P A ro E) h vs K->NH (AM P A ro E) h vs K':=by
 induction vs with
 |nil=>intro K K' hK hk;exact hK _ hk
 |cons v r ih=>intro K K' hK hk;exact b8k (fun _=>ih fun _=>hK _) hk
theorem c5k {h:List ae}{vs:List AV}: ∀{K K':List AV->Prop},(∀v,K v->K' v)->HU (AM P A ro E) h vs K->HU (AM P A ro E) h vs K':=by
 induction vs with
 |nil=>intro K K' hK hk;exact hK _ hk
 |cons v r ih=>
  intro K K' hK hk;cases v
  case agg cs=>exact c5v (fun _=>ih fun _=>hK _) hk
  all_goals exact b8k (fun _=>ih fun _=>hK _) hk
theorem Sm {h:List ae}{v:AV}{K K':AV->List ae->Prop}(hK: ∀v h,K v h->K' v h)(hk:uv (AM P A ro E) h v K):uv (AM P A ro E) h v K':=by
 unfold uv at hk⊢;split
 ·simp only at hk;refine Ud (fun a b c hk=> ?_) hk;split
  ·rename_i e1;rw[e1] at hk;exact hK _ _ hk
  ·rename_i e1;split at hk
   ·rename_i h3;exact absurd h3 (e1 _ _ _)
   ·exact hK _ _ hk
 ·exact hK _ _ hk
 ·rename_i e1 e2;split at hk
  ·exact absurd rfl (e1 _ _ _ _ _)
  ·exact absurd rfl (e2 _ _ _)
  ·exact hK _ _ hk
theorem OP {vs:List AV}: ∀{h:List ae} {K K':List AV->List ae->Prop},(∀v h,K v h->K' v h)->G3 (AM P A ro E) h vs K->G3 (AM P A ro E) h vs K':=by
 induction vs with
 |nil=>intro h K K' hK hk;exact hK _ _ hk
 |cons v r ih=>intro h K K' hK hk;exact Sm (fun _ _=>ih fun _ _=>hK _ _) hk
theorem a6r {h:List ae}{l:Nat}{K K':AV->List ae->Prop}(hK: ∀v h,K v h->K' v h)(hk:IW (AM P A ro E) h l K):IW (AM P A ro E) h l K':=by
 unfold IW at hk⊢;split at hk
 ·refine OP (fun cs h' hk=> ?_) hk;split at hk
  ·exact hK _ _ hk
  ·exact hk.elim
 ·exact hk.elim
theorem a9l {vs:List AV}: ∀{h:List ae} {K K':List AV->List ae->Prop},(∀v h,K v h->K' v h)->wu (AM P A ro E) h vs K->wu (AM P A ro E) h vs K':=by
 induction vs with
 |nil=>intro h K K' hK hk;exact hK _ _ hk
 |cons v r ih=>
  intro h K K' hK hk;cases v
  case agg cs=>exact OP (fun _ _=>ih fun _ _=>hK _ _) hk
  case ptr l off=>
   cases off with
   |zero=>exact a6r (fun _ _=>ih fun _ _=>hK _ _) hk
   |succ off=>exact Sm (fun _ _=>ih fun _ _=>hK _ _) hk
  all_goals exact Sm (fun _ _=>ih fun _ _=>hK _ _) hk
theorem b9w {v:AV}{h:List ae}{K K':List DV->List ae->Prop}(hK: ∀v h,K v h->K' v h)(hk:K0 (AM P A ro E) h v K):K0 (AM P A ro E) h v K':=by
 unfold K0 at hk⊢;refine OP (fun cs h' hk=> ?_) hk;split
 ·rename_i e1;rw[e1] at hk;exact hK _ _ hk
 ·rename_i e1;rw[e1] at hk;exact hk
theorem b6b {rs:List (List AV)}: ∀{h:List ae} {K K':List (List DV)->List ae->Prop},(∀v h,K v h->K' v h)->IY (AM P A ro E) h rs K->IY (AM P A ro E) h rs K':=by
 induction rs with
 |nil=>intro h K K' hK hk;exact hK _ _ hk
 |cons v r ih=>
  intro h K K' hK hk;simp only[IY] at hk⊢;refine OP (fun cs h' hk=> ?_) hk;split
  ·rename_i e1;rw[e1] at hk;exact ih (fun _ _=>hK _ _) hk
  ·rename_i e1;rw[e1] at hk;exact hk
theorem b1h {ks:List Av}: ∀{cs:List AV} {K K':List KC->Prop},(∀v,K v->K' v)->y8 (AM P A ro E) ks cs K->y8 (AM P A ro E) ks cs K':=by
 induction ks with
 |nil=>
  intro cs K K' hK hk;cases cs with
  |nil=>exact hK _ hk
  |cons c cs=>exact hk.elim
 |cons k ks ih=>
  intro cs K K' hK hk;cases cs with
  |nil=>exact hk.elim
  |cons c cs=>
   cases c with
   |d x=>
    cases x with
    |int k' x=>
     simp only[y8] at hk⊢;split
     ·rename_i hc;rw[if_pos hc] at hk;exact b5p (ih fun _=>hK _) hk
     ·rename_i hc;rw[if_neg hc] at hk;exact hk
    |_=>exact hk.elim
   |_=>exact hk.elim
theorem a6y {wide:Bool}{ks:List Av}{v:AV}{K K':List KC->Prop}(hK: ∀v,K v->K' v)(hk:wb (AM P A ro E) wide ks v K):wb (AM P A ro E) wide ks v K':=by
 cases v
 case agg cs=>
  simp only[wb] at hk⊢;split
  ·rename_i hc;rw[if_pos hc] at hk;exact b1h hK hk
  ·rename_i hc;rw[if_neg hc] at hk;exact hk
 all_goals
  simp only[wb] at hk⊢;split
  ·rename_i hc;rw[if_pos hc] at hk;exact hk
  ·rename_i hc;rw[if_neg hc] at hk;exact b1h hK hk
theorem Tc {v:AV}{K K':IX->Prop}(hK: ∀n,K n->K' n)(hk:ql v K):ql v K':=by
 unfold ql at hk⊢;split
 ·exact hK _ hk
 ·rename_i e1;split at hk
  ·exact absurd rfl (e1 _)
  ·exact hk
end
section
variable {P:Program} {A:t7} {ro:Option Nat} {E:x4}
theorem d3b {op:BinOp}{k:Av}{x y:IX}{K:DV->Prop}(hk:H9 (AM P A ro E) op k x y K): ∃v,K v/\ ∀{K2:DV->Prop},K2 v->H9 (AM P A ro E) op k x y K2:=by
 cases op<;>cases x<;>cases y<;>first
  |exact hk.elim
  |exact⟨_,hk,fun h=>h⟩
  |exact⟨_,hk.2,fun h=>⟨hk.1,h⟩⟩
  |exact⟨_,hk.2.2,fun h=>⟨hk.1,hk.2.1,h⟩⟩
theorem LX {v:AV}{K:IX->Prop}(hk:ql v K): ∃n,K n/\ ∀{K2:IX->Prop},K2 n->ql v K2:=by
 unfold ql at hk;split at hk
 ·exact⟨_,hk,fun h=>h⟩
 ·exact hk.elim
theorem b2i {row:List DV}{off:Nat}{g:Option Nat}{K:AV->Prop}(hk:Gk row off g K): ∃v,K v/\ ∀{K2:AV->Prop},K2 v->Gk row off g K2:=by
 cases g with
 |none=>
  simp only[Gk] at hk⊢;split at hk
  ·rename_i e1;exact⟨_,hk,fun h=>by first|exact h|(rw[e1];exact h)⟩
  ·exact hk.elim
 |some m=>
  simp only[Gk] at hk⊢;split at hk
  ·rename_i e1;exact⟨_,hk,fun h=>by first|exact h|(rw[e1];exact h)⟩
  ·exact hk.elim
theorem GW {ts:List AV}{x:Option ah}{d:IX}{K:IX->Prop}(hk:rz ts x d K): ∃n,K n/\ ∀{K2:IX->Prop},K2 n->rz ts x d K2:=by
 cases x with
 |none=>exact⟨_,hk,fun h=>h⟩
 |some o=>exact LX hk
theorem b5m {ts:List AV}{sz:Nat}{x:AV}{lo hi mx:Option ah}{K:AV->Prop}(hk:xg (AM P A ro E) ts sz x lo hi mx K): ∃v,K v/\ ∀{K2:AV->Prop},K2 v->xg (AM P A ro E) ts sz x lo hi mx K2:=by
 cases x with
 |bi l sz' s n f=>
  simp only[xg] at hk⊢;split at hk
  ·rename_i hc;simp only[if_pos hc];obtain⟨a,hk,ha⟩:=GW hk;obtain⟨b,hk,hb⟩:=GW hk;obtain⟨h1,h2,h3,hk⟩:=hk;cases mx with
   |none=>
    cases f with
    |true=>exact⟨_,hk.2,fun h=>ha (hb ⟨h1,h2,h3,hk.1,h⟩)⟩
    |false=>exact⟨_,hk,fun h=>ha (hb ⟨h1,h2,h3,h⟩)⟩
   |some m=>obtain⟨c,hk,qq⟩:=LX hk;exact⟨_,hk.2,fun h=>ha (hb ⟨h1,h2,h3,qq ⟨hk.1,h⟩⟩)⟩
  ·exact hk.elim
 |d y=>
  cases y with
  |sl sz' n e=>
   simp only[xg] at hk⊢;split at hk
   ·rename_i hc;simp only[if_pos hc];obtain⟨a,hk,ha⟩:=GW hk;obtain⟨b,hk,hb⟩:=GW hk;obtain⟨h1,h2,h3,hk⟩:=hk;cases mx with
    |none=>exact⟨_,hk,fun h=>ha (hb ⟨h1,h2,h3,h⟩)⟩
    |some m=>obtain⟨c,hk,qq⟩:=LX hk;exact⟨_,hk.2,fun h=>ha (hb ⟨h1,h2,h3,qq ⟨hk.1,h⟩⟩)⟩
   ·exact hk.elim
  |nil=>
   simp only[xg] at hk⊢;obtain⟨a,hk,ha⟩:=GW hk;obtain⟨b,hk,hb⟩:=GW hk;obtain⟨h1,h2,hk⟩:=hk;cases mx with
   |none=>exact⟨_,hk,fun h=>ha (hb ⟨h1,h2,h⟩)⟩
   |some m=>obtain⟨c,hk,qq⟩:=LX hk;exact⟨_,hk.2,fun h=>ha (hb ⟨h1,h2,qq ⟨hk.1,h⟩⟩)⟩
  |_=>exact hk.elim
 |_=>exact hk.elim
theorem b0x {ts:List AV}{sz sz' n:Nat}{lo hi mx:Option ah}{K:Prop}(hk:Iz (AM P A ro E) ts sz sz' n lo hi mx K):K/\ ∀{K2:Prop},K2->Iz (AM P A ro E) ts sz sz' n lo hi mx K2:=by
 unfold Iz at hk⊢;split at hk
 ·rename_i hc;simp only[if_pos hc];obtain⟨a,hk,ha⟩:=GW hk;obtain⟨b,hk,hb⟩:=GW hk;obtain⟨c,hk,hc⟩:=GW hk;obtain⟨h1,h2,h3,h4,hk⟩:=hk;exact⟨hk,fun h=>ha (hb (hc ⟨h1,h2,h3,h4,h⟩))⟩
 ·exact hk.elim
theorem b4k {sz:Nat}{x:AV}{i:IX}{K:AV->Prop}(hk:JA (AM P A ro E) sz x i K): ∃v,K v/\ ∀{K2:AV->Prop},K2 v->JA (AM P A ro E) sz x i K2:=by
 unfold JA at hk⊢;split at hk
 ·split at hk
  ·rename_i hc;exact⟨_,hk.2,fun h=>by simp only[if_pos hc];exact⟨hk.1,h⟩⟩
  ·exact hk.elim
 ·split at hk
  ·rename_i hc;exact⟨_,hk.2,fun h=>by simp only[if_pos hc];exact⟨hk.1,h⟩⟩
  ·exact hk.elim
 ·split at hk
  ·rename_i hc;exact⟨_,hk.2,fun h=>by simp only[if_pos hc];exact⟨hk.1,h⟩⟩
  ·exact hk.elim
 ·exact hk.elim
theorem c6f {o:qr}(km:o.kl= .i\/o.kl= .p){ts:List AV}{h:List ae}{mv:List Nat}{K:AV->List ae->List Nat->Prop}(hk:af (AM P A ro E) o ⟨ts,h,mv⟩ K):
 ∃v,K v h []/\ ∀{h2:List ae} {qd:List Nat} {K2:AV->List ae->List Nat->Prop},K2 v h2 []->af (AM P A ro E) o ⟨ts,h2,qd⟩ K2:=by
 cases o with
 |mv x=>exact⟨_,hk,fun h=>h⟩
 |v6 sz=>exact⟨_,hk,fun h=>h⟩
 |pick c a b=>
  simp only[af] at hk⊢;unfold MC at hk;split at hk
  ·rename_i b' e1;simp only[e1,MC];cases b' with
   |true=>exact⟨_,hk,fun h=>h⟩
   |false=>exact⟨_,hk,fun h=>h⟩
  ·exact hk.elim
 |t5 sz by' x y=>
  simp only[af] at hk⊢;split at hk
  ·rename_i e1 e2;exact⟨_,hk,fun h=>by first|exact h|(rw[e1,e2];exact h)⟩
  ·rename_i e1 e2;split at hk
   ·rename_i e3;exact⟨_,hk.2,fun h=>by simp only[if_pos e3];exact⟨hk.1,h⟩⟩
   ·exact hk.elim
  ·exact hk.elim
 |t6 sz n zs ps=>
  simp only[af] at hk⊢;split at hk
  ·rename_i e1;split at hk
   ·rename_i e2;exact⟨_,hk,fun h=>by first|exact h|(rw[e1];simp only[e2];exact h)⟩
   ·exact hk.elim
  ·exact hk.elim
 |build zs ps=>
  simp only[af] at hk⊢;split at hk
  ·rename_i e1;exact⟨_,hk,fun h=>by first|exact h|(rw[e1];exact h)⟩
  ·exact hk.elim
 |T8 x=>
  simp only[af] at hk⊢;split at hk
  ·rename_i e1;exact⟨_,hk,fun h=>by rw[if_pos e1];exact h⟩
  ·exact hk.elim
 |bw op x y=>
  simp only[af] at hk⊢;split at hk
  ·unfold YU at hk⊢;split at hk
   ·exact⟨_,hk.2,fun h=>⟨hk.1,h⟩⟩
   ·split at hk
    ·rename_i e3;exact⟨_,hk,fun h=>by rw[if_pos e3];exact h⟩
    ·exact hk.elim
   ·exact hk.elim
  ·exact hk.elim
 |bin op x y=>
  simp only[af] at hk⊢;split at hk
  ·rename_i e1 e2;split at hk
   ·rename_i e3;obtain⟨v,hv,hd⟩:=d3b hk;refine⟨_,hv,fun h=> ?_⟩;simp only[if_pos e3];exact hd h
   ·exact hk.elim
  ·cases op<;>first|exact hk.elim|exact⟨_,hk.2,fun h=>⟨hk.1,h⟩⟩
  ·exact hk.elim
 |WC op x y=>
  simp only[af] at hk⊢;split at hk
  ·rename_i e1 e2;split at hk
   ·exact⟨_,hk,fun h=>by first|exact h|(rw[e1,e2];exact h)⟩
   ·exact⟨_,hk,fun h=>by first|exact h|(rw[e1,e2];exact h)⟩
   ·exact hk.elim
  ·exact hk.elim
 |Yb n ks x y=>
  simp only[af] at hk⊢;split at hk
  ·split at hk
   ·rename_i e1;exact⟨_,hk,fun h=>by first|exact h|(rw[e1];exact h)⟩
   ·exact hk.elim
  ·exact hk.elim
 |Wf n ks x y=>
  simp only[af] at hk⊢;split at hk
  ·split at hk
   ·rename_i e1;exact⟨_,hk,fun h=>by first|exact h|(rw[e1];exact h)⟩
   ·exact hk.elim
  ·exact hk.elim
 |un op x=>
  simp only[af] at hk⊢;split at hk
  ·rename_i e1;exact⟨_,hk,fun h=>by first|exact h|(rw[e1];exact h)⟩
  ·rename_i e1;exact⟨_,hk,fun h=>by first|exact h|(rw[e1];exact h)⟩
  ·rename_i e1;exact⟨_,hk.2,fun h=>by first|exact⟨hk.1,h⟩|(rw[e1];exact⟨hk.1,h⟩)⟩
  ·exact hk.elim
 |conv k x=>
  simp only[af] at hk⊢;split at hk
  ·rename_i e1;exact⟨_,hk,fun h=>by first|exact h|(rw[e1];exact h)⟩
  ·exact hk.elim
 |WT f l m=>exact⟨_,hk,fun h=>h⟩
 |slice sz x lo hi mx=>simp only[af] at hk⊢;obtain⟨v,hk,hv⟩:=b5m hk;exact⟨v,hk,fun h=>hv h⟩
 |VH n x lo hi=>
  simp only[af] at hk⊢;split at hk
  ·obtain⟨a,hk,ha⟩:=GW hk;obtain⟨b,hk,hb⟩:=GW hk;obtain⟨h1,h2,h3,hk⟩:=hk;split at hk
   ·rename_i e1;exact⟨_,hk,fun h=>ha (hb ⟨h1,h2,h3,by first|exact h|(rw[e1];exact h)⟩)⟩
   ·rename_i e1;exact⟨_,hk,fun h=>ha (hb ⟨h1,h2,h3,by first|exact h|(rw[e1];exact h)⟩)⟩
  ·exact hk.elim
 |Vy neg x=>
  simp only[af] at hk⊢;split at hk
  ·rename_i e1;exact⟨_,hk,fun h=>by first|exact h|(rw[e1];exact h)⟩
  ·rename_i e1;exact⟨_,hk.2,fun h=>by first|exact⟨hk.1,h⟩|(rw[e1];exact⟨hk.1,h⟩)⟩
  ·rename_i e1;exact⟨_,hk.2,fun h=>by first|exact⟨hk.1,h⟩|(rw[e1];exact⟨hk.1,h⟩)⟩
  ·rename_i e1;exact⟨_,hk.2,fun h=>by first|exact⟨hk.1,h⟩|(rw[e1];exact⟨hk.1,h⟩)⟩
  ·rename_i e1;exact⟨_,hk,fun h=>by first|exact h|(rw[e1];exact h)⟩
  ·rename_i e1;exact⟨_,hk,fun h=>by first|exact h|(rw[e1];exact h)⟩
  ·exact hk.elim
 |idxs l x=>
  simp only[af] at hk⊢;split at hk
  ·rename_i e1;exact⟨_,hk.2,fun h=>by first|exact⟨hk.1,h⟩|(rw[e1];exact⟨hk.1,h⟩)⟩
  ·exact hk.elim
 |VI sz x lo hi mx=>
  simp only[af] at hk⊢;split at hk
  ·obtain⟨hk,hd⟩:=b0x hk;exact⟨_,hk,fun h=>hd h⟩
  ·obtain⟨hk,hd⟩:=b0x hk;exact⟨_,hk,fun h=>hd h⟩
  ·exact hk.elim
 |VX off x=>
  simp only[af] at hk⊢;split at hk
  ·rename_i e1;exact⟨_,hk,fun h=>by first|exact h|(rw[e1];exact h)⟩
  ·rename_i e1;exact⟨_,hk,fun h=>by first|exact h|(rw[e1];exact h)⟩
  ·rename_i e1;exact⟨_,hk,fun h=>by first|exact h|(rw[e1];exact h)⟩
  ·exact hk.elim
 |field off g x=>
  simp only[af] at hk⊢;split at hk
  ·cases g with
   |none=>
    simp only at hk⊢;split at hk
    ·rename_i e2;exact⟨_,hk,fun h=>by first|exact h|(rw[e2];exact h)⟩
    ·exact hk.elim
   |some m=>
    simp only at hk⊢;split at hk
    ·rename_i e2;exact⟨_,hk,fun h=>by first|exact h|(rw[e2];exact h)⟩
    ·exact hk.elim
  ·exact hk.elim
 |VG sz x i=>obtain⟨n,hk,hn⟩:=LX hk;obtain⟨v,hk,hv⟩:=b4k hk;exact⟨v,hk,fun h=>hn (hv h)⟩
 |z5 n sz x i=>
  obtain⟨m,hk,hn⟩:=LX hk;simp only at hk;split at hk
  ·rename_i e1;split at hk
   ·split at hk
    ·rename_i e2;refine⟨_,hk,fun h=> ?_⟩;refine hn ?_;simp only[e1,if_pos e2];exact h
    ·exact hk.elim
   ·refine⟨_,hk.2,fun h=> ?_⟩;refine hn ?_;simp only[e1];exact⟨hk.1,h⟩
  ·exact hk.elim
 |extract x i=>
  simp only[af] at hk⊢;split at hk
  ·split at hk
   ·rename_i e2;exact⟨_,hk,fun h=>by first|exact h|(rw[e2];exact h)⟩
   ·exact hk.elim
  ·exact hk.elim
 |len x=>
  simp only[af] at hk⊢;split at hk
  ·rename_i e1;exact⟨_,hk,fun h=>by first|exact h|(rw[e1];exact h)⟩
  ·rename_i e1;exact⟨_,hk,fun h=>by first|exact h|(rw[e1];exact h)⟩
  ·rename_i e1;exact⟨_,hk,fun h=>by first|exact h|(rw[e1];exact h)⟩
  ·rename_i e1;exact⟨_,hk,fun h=>by first|exact h|(rw[e1];exact h)⟩
  ·rename_i e1;exact⟨_,hk,fun h=>by first|exact h|(rw[e1];exact h)⟩
  ·exact hk.elim
 |min x y=>
  simp only[af] at hk⊢;split at hk
  ·rename_i e1 e2;split at hk
   ·rename_i e3;exact⟨_,hk,fun h=>by simp only[if_pos e3];exact h⟩
   ·exact hk.elim
  ·exact hk.elim
 |max x y=>
  simp only[af] at hk⊢;split at hk
  ·rename_i e1 e2;split at hk
   ·rename_i e3;exact⟨_,hk,fun h=>by simp only[if_pos e3];exact h⟩
   ·exact hk.elim
  ·exact hk.elim
 |call f as m=>
  cases m with
  |data=>
   simp only[af] at hk⊢;split at hk
   ·split at hk
    ·rename_i e2;obtain⟨r,hp,hk⟩:=hk;exact⟨r,hk,fun h=>by rw[if_pos e2];exact⟨r,hp,h⟩⟩
    ·exact hk.elim
   ·simp at hk
   ·exact hk.elim
  |_=>simp[At] at km
 |_=>simp[At] at km
theorem d0s {h:List ae}{p:AV}{g:Option Nat}{K:AV->Prop}(hk:Gl (AM P A ro E) h p g K):
 ∃v,K v/\ ∀{h2:List ae} {K2:AV->Prop},(∀l,ZA p=AC l->ax h2 l=ax h l)->K2 v->Gl (AM P A ro E) h2 p g K2:=by
 cases p with
 |ptr l off=>
  simp only[Gl] at hk⊢;split at hk
  ·rename_i e0;cases g with
   |none=>
    simp only at hk⊢;split at hk
    ·rename_i e1;exact⟨_,hk,fun hh h=>by rw[hh l rfl,e0];simp only;first|exact h|(rw[e1];exact h)⟩
    ·exact hk.elim
   |some n=>
    simp only at hk⊢;split at hk
    ·rename_i e1;exact⟨_,hk,fun hh h=>by rw[hh l rfl,e0];simp only;first|exact h|(rw[e1];exact h)⟩
    ·exact hk.elim
  ·exact hk.elim
 |ii l sz i off=>
  simp only[Gl] at hk⊢;split at hk
  ·rename_i e0;split at hk
   ·rename_i hc;obtain⟨v,hv,hd⟩:=b2i hk.2;exact⟨v,hv,fun hh h=>by rw[hh l rfl,e0];simp only[if_pos hc];exact⟨hk.1,hd h⟩⟩
   ·exact hk.elim
  ·rename_i e0;split at hk
   ·rename_i hc;obtain⟨v,hv,hd⟩:=b2i hk.2;exact⟨v,hv,fun hh h=>by rw[hh l rfl,e0];simp only[if_pos hc];exact⟨hk.1,hd h⟩⟩
   ·exact hk.elim
  ·rename_i e0;split at hk
   ·rename_i hc;cases g with
    |none=>
     simp only at hk;split at hk
     ·rename_i e1;exact⟨_,hk,fun hh h=>by rw[hh l rfl,e0];simp only[if_pos hc,e1];exact h⟩
     ·exact hk.elim
    |some n=>exact hk.elim
   ·exact hk.elim
  ·exact hk.elim
 |d9 row off=>obtain⟨v,hv,hd⟩:=b2i hk;exact⟨v,hv,fun _ h=>hd h⟩
 |_=>exact hk.elim
theorem b2w {ks:List Av}: ∀{cs:List AV} {K:List KC->Prop},y8 (AM P A ro E) ks cs K-> ∃v,K v/\ ∀{K2:List KC->Prop},K2 v->y8 (AM P A ro E) ks cs K2:=by
 induction ks with
 |nil=>
  intro cs K hk;cases cs with
  |nil=>exact⟨_,hk,fun h=>h⟩
  |cons c cs=>exact hk.elim
 |cons k ks ih=>
  intro cs K hk;cases cs with
  |nil=>exact hk.elim
  |cons c cs=>
   cases c with
   |d x=>
    cases x with
    |int k' x=>
     simp only[y8] at hk⊢;split at hk
     ·rename_i hc;simp only[if_pos hc];obtain⟨v,hv,hd⟩:=ih hk.2;exact⟨_,hv,fun h=>⟨hk.1,hd h⟩⟩
     ·exact hk.elim
    |_=>exact hk.elim
   |_=>exact hk.elim
theorem b3l {wide:Bool}{ks:List Av}{v:AV}{K:List KC->Prop}(hk:wb (AM P A ro E) wide ks v K): ∃x,K x/\ ∀{K2:List KC->Prop},K2 x->wb (AM P A ro E) wide ks v K2:=by
 cases v
 case agg cs=>
  simp only[wb] at hk⊢;split at hk
  ·rename_i hc;simp only[if_pos hc];exact b2w hk
  ·exact hk.elim
 all_goals
  simp only[wb] at hk⊢;split at hk
  ·exact hk.elim
  ·rename_i hc;simp only[if_neg hc];exact b2w hk
theorem Rj {o:qr}(km:o.kl= .r){ts:List AV}{h:List ae}{mv:List Nat}{K:AV->List ae->List Nat->Prop}(hk:af (AM P A ro E) o ⟨ts,h,mv⟩ K):
 ∃v,K v h []/\ ∀{h2:List ae} {qd:List Nat} {K2:AV->List ae->List Nat->Prop},(∀x l,o.at=AC x->ZA (Ak ts x)=AC l->ax h2 l=ax h l)->K2 v h2 []->af (AM P A ro E) o ⟨ts,h2,qd⟩ K2:=by
 cases o with
 |load g x=>obtain⟨v,hv,hd⟩:=d0s hk;exact⟨v,hv,fun hh h=>hd (fun l=>hh x l rfl) h⟩
 |lookup wide ks ok m k=>
  simp only[af] at hk⊢;split at hk
  ·rename_i e1;split at hk
   ·rename_i e0;split at hk
    ·rename_i hc;obtain⟨v,hv,hd⟩:=b3l hk;cases ok with
     |true=>exact⟨_,hv,fun hh h=>by simp only[hh m _ rfl (by rw[e1];rfl),e0,if_pos hc];exact hd h⟩
     |false=>exact⟨_,hv,fun hh h=>by simp only[hh m _ rfl (by rw[e1];rfl),e0,if_pos hc];exact hd h⟩
    ·exact hk.elim
   ·exact hk.elim
  ·exact hk.elim
 |m9 wide ks ok z m k=>
  simp only[af] at hk⊢;split at hk
  ·rename_i e1;split at hk
   ·rename_i e0;split at hk
    ·rename_i hc;obtain⟨kc,hv,hd⟩:=b3l hk;split at hv
     ·rename_i e2;cases ok with
      |true=>exact⟨_,hv,fun hh h=>by simp only[hh m _ rfl (by rw[e1];rfl),e0,if_pos hc];exact hd (by simp only[e2];exact h)⟩
      |false=>exact⟨_,hv,fun hh h=>by simp only[hh m _ rfl (by rw[e1];rfl),e0,if_pos hc];exact hd (by simp only[e2];exact h)⟩
     ·rename_i e2;cases ok with
      |true=>exact⟨_,hv,fun hh h=>by simp only[hh m _ rfl (by rw[e1];rfl),e0,if_pos hc];exact hd (by simp only[e2];exact h)⟩
      |false=>exact⟨_,hv,fun hh h=>by simp only[hh m _ rfl (by rw[e1];rfl),e0,if_pos hc];exact hd (by simp only[e2];exact h)⟩
    ·exact hk.elim
   ·exact hk.elim
  ·exact hk.elim
 |V8 x=>
  simp only[af] at hk⊢;split at hk
  ·rename_i e1;split at hk
   ·rename_i e0;exact⟨_,hk,fun hh h=>by simp only[hh x _ rfl (by rw[e1];rfl),e0];exact h⟩
   ·rename_i e0;exact⟨_,hk,fun hh h=>by simp only[hh x _ rfl (by rw[e1];rfl),e0];exact h⟩
   ·exact hk.elim
  ·exact hk.elim
 |call f as m=>cases m<;>simp[At] at km
 |_=>simp[At] at km
theorem b7p {l:Nat}{o:qr}{ts:List AV}{h:List ae}{mv:List Nat}{K:AV->ae->Prop}(hk:ti (AM P A ro E) l o ⟨ts,h,mv⟩ K):
 ∃v ob,K v ob/\ ∀{ts2:List AV} {h2:List ae} {qd:List Nat} {K2:AV->ae->Prop},(∀x,x∈o.VL->Ak ts2 x=Ak ts x)->K2 v ob->ti (AM P A ro E) l o ⟨ts2,h2,qd⟩ K2:=by
 cases o with
 |alloc zs=>exact⟨_,_,hk,fun _ h=>h⟩
 |V5 sz=>exact⟨_,_,hk,fun _ h=>h⟩
 |x6 wide ks=>exact⟨_,_,hk,fun _ h=>h⟩
 |og wide ks=>exact⟨_,_,hk,fun _ h=>h⟩
 |box x=>
  simp only[ti] at hk⊢;split at hk
  ·rename_i hc;refine⟨_,_,hk,fun ha h=> ?_⟩;rw[ha x (by simp[AA]),if_pos hc];exact h
  ·exact hk.elim
 |mp sz zs b n=>obtain⟨m,hk,hm⟩:=LX hk;refine⟨_,_,hk.2.2,fun ha h=> ?_⟩;simp only[ti];rw[ha n (by simp[AA])];exact hm ⟨hk.1,hk.2.1,h⟩
 |_=>exact hk.elim
end
section
variable {P:Program} {A:t7} {ro:Option Nat} {E:x4}
theorem au.Ws {own:Bool}{f:BS}{args:List AV}{K K':AV->Prop}(hK: ∀v,K v->K' v)(hk:((AM P A ro E)).Wr own f args K):((AM P A ro E)).Wr own f args K':=by obtain⟨r,h1,h2⟩:=hk;exact⟨r,h1,hK _ h2⟩
theorem Mx.mono {f:BS}{args:List AV}{K K':AV->List ae->Prop}(hK: ∀v h,K v h->K' v h)(hk:Mx P f args K):Mx P f args K':=by refine⟨hk.1,fun w S vs hS hv=>(hk.2 w S vs hS hv).mono fun e w' h=> ?_⟩;obtain⟨v,x,os,S',ρ',h1,h2,h3⟩:=h;exact⟨v,x,os,S',ρ',h1,hK _ _ h2,h3⟩
theorem ay.mono {f:BS}{args:List AV}{h:List ae}{K K':List Nat->AV->List ae->Prop}(hK: ∀p v h,K p v h->K' p v h)(hk:ay P f args h K):ay P f args h K':=by refine⟨hk.1,fun w S ρ vs hs hv=>(hk.2 w S ρ vs hs hv).mono fun e w' h=> ?_⟩;obtain⟨v,x,pg,h',S',ρ',h1,h2,h3⟩:=h;exact⟨v,x,pg,h',S',ρ',h1,hK _ _ _ h2,h3⟩
theorem YieldAt.XO {l:Nat}{args:Array Ae}{w:AY}{R R':Bs->AY->Prop}(h:YieldAt Ah 0 P l args w R)(hR: ∀e w',R e w'->R' e w'):YieldAt Ah 0 P l args w R':=by obtain⟨fn,tmps,assign,body,h1,h2⟩:=h;exact⟨fn,tmps,assign,body,h1,h2.mono hR⟩
theorem lh.mono {l:Nat}{args:List AV}{h:List ae}{K K':List Nat->AV->List ae->Prop}(hK: ∀p v h,K p v h->K' p v h)(hk:lh P l args h K):lh P l args h K':=by intro w S ρ vs b C hs hv hρ;refine YieldAt.XO (hk w S ρ vs b C hs hv hρ) fun e w' h=> ?_;obtain⟨v,x,pg,h',S',ρ',h1,h2,h3⟩:=h;exact⟨v,x,pg,h',S',ρ',h1,hK _ _ _ h2,h3⟩
theorem b4j {h:List ae}{sz:Nat}{x y:AV}{K K':AV->List ae->Prop}(hK: ∀v h,K v h->K' v h)(hk:NU (AM P A ro E) h sz x y K):NU (AM P A ro E) h sz x y K':=by
 unfold NU at hk⊢;refine a9c (fun qf m e2 hk=> ?_) hk;split at hk
 ·rename_i hc;rw[if_pos hc];split at hk
  ·split at hk
   ·rename_i k8;simp only[if_pos k8];split at hk
    ·split at hk
     ·rename_i Pu;simp only[if_pos Pu];exact⟨hk.1,hK _ _ hk.2⟩
     ·exact hk.elim
    ·exact hk
   ·exact hk.elim
  ·split at hk
   ·rename_i k8;simp only[if_pos k8];split at hk
    ·split at hk
     ·split at hk
      ·exact hK _ _ hk
      ·exact hk
     ·exact hk
    ·exact hk
   ·exact hk.elim
  ·exact hk
 ·exact hk.elim
theorem b2t {h:List ae}{sz:Nat}{x y:AV}{K K':AV->List ae->Prop}(hK: ∀v h,K v h->K' v h)(hk:NT (AM P A ro E) h sz x y K):NT (AM P A ro E) h sz x y K':=by
 unfold NT at hk⊢;refine a9c (fun qf m e2 hk=> ?_) hk;split at hk
 ·rename_i hc;rw[if_pos hc];split at hk
  ·split at hk
   ·rename_i k8;simp only[if_pos k8];split at hk
    ·split at hk
     ·rename_i Pu;simp only[if_pos Pu];exact⟨hk.1,hK _ _ hk.2⟩
     ·exact hk.elim
    ·exact hk
   ·exact hk.elim
  ·exact hk
 ·exact hk.elim
theorem b6j {ts:List AV}{x:Option ah}{d:IX}{K K':IX->Prop}(hK: ∀n,K n->K' n)(hk:rz ts x d K):rz ts x d K':=by
 cases x with
 |none=>exact hK _ hk
 |some o=>exact Tc hK hk
theorem b9g {h:List ae}{p v:AV}{sz:Nat}{K K':List ae->Prop}(hK: ∀h,K h->K' h)(hk:IB (AM P A ro E) h p v sz K):IB (AM P A ro E) h p v sz K':=by
 cases p with
 |ptr l off=>
  simp only[IB] at hk⊢;split at hk
  ·rename_i hc;rw[if_pos hc];split at hk
   ·split at hk
    ·exact hK _ hk
    ·exact hk
   ·exact hk
  ·exact hk.elim
 |ii l sz' i off=>
  simp only[IB] at hk⊢;split at hk
  ·rename_i hc;rw[if_pos hc];split at hk
   ·split at hk
    ·rename_i k8;simp only[if_pos k8];split at hk
     ·exact⟨hk.1,hK _ hk.2⟩
     ·exact hk
    ·exact hk.elim
   refine b9w (fun new h' hk=> ?_) hk;split at hk
   ·split at hk
    ·rename_i qq;simp only[if_pos qq];refine⟨hk.1,?_⟩;have hk:=hk.2;split at hk
     ·exact hK _ hk
     ·exact hk
    ·exact hk.elim
   ·exact hk
  ·exact hk.elim
 |_=>exact hk.elim
theorem i0c {h:List ae}{y:AV}{K K':List AV->Prop}(hK: ∀l,K l->K' l)(hk:NX h y K):NX h y K':=by
 unfold NX at hk⊢;split at hk
 ·exact hK _ hk
 ·split at hk
  ·exact hK _ hk
  ·exact hk
 ·split at hk
  ·split at hk
   ·exact hK _ hk
   ·exact hk
  ·exact hk
 ·exact hk
theorem h5z {h:List ae}{x y:AV}{K K':AV->List ae->List Nat->Prop}(hK: ∀v h p,K v h p->K' v h p)(hk:Rg (AM P A ro E) h x y K):Rg (AM P A ro E) h x y K':=by
 unfold Rg at hk⊢;refine i0c (fun new hk=> ?_) hk;split at hk
 ·split at hk
  ·exact⟨hk.1,hk.2.1,hk.2.2.1,hK _ _ _ hk.2.2.2⟩
  ·exact hk
 ·exact hk
theorem a5u {h:List ae}{sz:Nat}{x y:AV}{mu:Bool}{K K':AV->List ae->List Nat->Prop}(hK: ∀v h p,K v h p->K' v h p)(hk:KI (AM P A ro E) h sz x y mu K):KI (AM P A ro E) h sz x y mu K':=by
 unfold KI at hk⊢;refine a9c (fun qf m e2 hk=> ?_) hk;split at hk
 ·rename_i hc;rw[if_pos hc];split at hk
  ·refine⟨hk.1,?_⟩;have hk:=hk.2;cases mu<;>exact hK _ _ _ hk
  ·split at hk
   ·rename_i k8;simp only[if_pos k8];refine⟨hk.1,hk.2.1,?_⟩;have hk:=hk.2.2;cases mu<;>exact hK _ _ _ hk
   ·exact hk.elim
  ·split at hk
   ·rename_i k8;simp only[if_pos k8];split at hk
    ·split at hk
     ·rename_i Pu;simp only[if_pos Pu];exact⟨hk.1,hk.2.1,hK _ _ _ hk.2.2⟩
     ·exact hk.elim
    ·exact hk
   ·exact hk.elim
  ·split at hk
   ·rename_i k8;simp only[if_pos k8];refine Ud (fun _ n e hk=> ?_) hk;refine⟨hk.1,hk.2.1,?_⟩;have hk:=hk.2.2;cases mu<;>exact hK _ _ _ hk
   ·exact hk.elim
  ·exact hk
 ·exact hk.elim
theorem NV {o:qr}{st:St}{K K':AV->List ae->List Nat->Prop}(hK: ∀v h p,K v h p->K' v h p)(hk:af (AM P A ro E) o st K):af (AM P A ro E) o st K':=by
 by_cases h1:o.kl= .i\/o.kl= .p
 ·obtain⟨v,hv,hd⟩:=c6f h1 hk;exact hd (hK _ _ _ hv)
 by_cases h2:o.kl= .r
 ·obtain⟨v,hv,hd⟩:=Rj h2 hk;exact hd (fun _ _ _ _=>rfl) (hK _ _ _ hv)
 cases o with
 |VA sz=>exact hK _ _ _ hk
 |alloc zs=>exact hK _ _ _ hk
 |x6 wide ks=>exact hK _ _ _ hk
 |og wide ks=>exact hK _ _ _ hk
 |n9 wide ks m k x=>
  simp only[af] at hk⊢;split at hk
  ·split at hk
   ·split at hk
    ·rename_i hc;rw[if_pos hc];refine a6y (fun kc hk=> ?_) hk;split at hk
     ·exact hK _ _ _ hk
     ·exact hK _ _ _ hk
    ·exact hk.elim
   ·exact hk
  ·exact hk
 |box x=>
  simp only[af] at hk⊢;split at hk
  ·rename_i hc;rw[if_pos hc];exact hK _ _ _ hk
  ·exact hk.elim
 |mp sz zs b n=>exact Tc (fun n hk=>⟨hk.1,hk.2.1,hK _ _ _ hk.2.2⟩) hk
 |x8 sz n zs ps mu=>
  simp only[af] at hk⊢;split at hk
  ·refine b6b (fun _ _ hk=> ?_) hk;cases mu<;>exact hK _ _ _ hk
  ·exact hk
 |store sz a x=>simp only[af] at hk⊢;exact b9g (K:=fun h'=>K .lc h' []) (fun _=>hK _ _ _) hk
 |Id wide ks m k x=>
  simp only[af] at hk⊢;split at hk
  ·split at hk
   ·split at hk
    ·rename_i hc;rw[if_pos hc];exact a6y (fun _=>Tc fun _=>hK _ _ _) hk
    ·exact hk.elim
   ·exact hk
  ·exact hk
 |call f as m=>
  simp only[af] at hk⊢;split at hk
  ·cases m with
   |data=>simp[At] at h1
   |borrow=>
    refine c5k (fun vs hk=> ?_) hk;split at hk
    ·rename_i hc;rw[if_pos hc];exact au.Ws (fun _=>hK _ _ _) hk
    ·exact hk.elim
   |share=>
    refine a9l (fun vs h hk=> ?_) hk;split at hk
    ·rename_i hc;rw[if_pos hc];exact au.Ws (fun _=>hK _ _ _) hk
    ·exact hk.elim
   |fresh=>
    refine a9l (fun vs h hk=> ?_) hk;split at hk
    ·rename_i hc;rw[if_pos hc];exact Mx.mono (fun _ _=>hK _ _ _) hk
    ·exact hk.elim
   |raw=>exact ay.mono (fun _ _ _=>hK _ _ _) hk
  ·split at hk
   ·rename_i hc;rw[if_pos hc];exact lh.mono (fun _ _ _=>hK _ _ _) hk
   ·exact hk.elim
  ·exact hk
 |cap x=>
  simp only[af] at hk⊢;split at hk
  ·split at hk
   ·split at hk
    ·rename_i hc;rw[if_pos hc];split at hk
     ·rename_i hc;rw[if_pos hc];exact hK _ _ _ hk
     ·rename_i hc;rw[if_neg hc];exact hK _ _ _ hk
    ·exact hk.elim
   ·exact hk
  ·exact hk
 |append sz b x y mu=>exact a5u hK hk
 |copy sz x y=>simp only[af] at hk⊢;exact b4j (fun _ _=>hK _ _ _) hk
 |oq sz x y=>simp only[af] at hk⊢;exact b2t (fun _ _=>hK _ _ _) hk
 |pi sz b x y mu=>
  simp only[af] at hk⊢;split at hk
  ·exact hK _ _ _ hk
  ·exact hK _ _ _ hk
  ·exact a5u hK hk
 |V5 sz=>exact hK _ _ _ hk
 |Wq=>exact hK _ _ _ hk
 |Wp sz=>exact hK _ _ _ hk
 |x5 b x y=>simp only[af] at hk⊢;exact h5z hK hk
 |pm x i=>
  simp only[af] at hk⊢;split at hk
  ·split at hk
   ·exact OP (fun _ _ hk=>hK _ _ _ hk) hk
   ·exact a6r (fun _ _ hk=>hK _ _ _ hk) hk
   ·exact Sm (fun _ _ hk=>hK _ _ _ hk) hk
   ·exact hk.elim
  ·exact hk.elim
 |SW wide ks z m k=>
  simp only[af] at hk⊢;split at hk
  ·split at hk
   ·split at hk
    ·rename_i hc;rw[if_pos hc];refine a6y (fun kc hk=> ?_) hk;split at hk
     ·split at hk
      ·exact hK _ _ _ hk
      ·exact hk.elim
     ·exact hK _ _ _ hk
    ·exact hk.elim
   ·exact hk
  ·exact hk
 |VW m s x=>
  simp only[af] at hk⊢;split at hk
  ·split at hk
   ·exact Tc (fun n hk=>⟨hk.1,hK _ _ _ hk.2⟩) hk
   ·exact hk
  ·exact hk
 |W8 x=>
  simp only[af] at hk⊢;split at hk
  ·split at hk
   ·exact hK _ _ _ hk
   ·exact hk
  ·exact hk
 |W7 x=>
  simp only[af] at hk⊢;split at hk
  ·split at hk
   ·split at hk
    ·exact⟨hk.1,fun h=>hK _ _ _ (hk.2.1 h),fun i h1 h2=>hK _ _ _ (hk.2.2 i h1 h2)⟩
    ·exact hk
   ·exact hk
  ·exact hk
 |W2 x=>
  simp only[af] at hk⊢;split at hk
  ·split at hk
   ·split at hk
    ·refine⟨hk.1,?_⟩;have hk:=hk.2;split at hk
     ·split at hk
      ·exact hK _ _ _ hk
      ·exact hk
     ·exact hk
    ·exact hk
   ·exact hk
  ·exact hk
 |bad=>exact hk.elim
 |clear sz zs x=>
  simp only[af] at hk⊢;split at hk
  ·split at hk
   ·rename_i hc;simp only[if_pos hc];split at hk
    ·split at hk
     ·rename_i k8;simp only[if_pos k8];exact⟨hk.1,hK _ _ _ hk.2⟩
     ·exact hk.elim
    ·exact hk
   ·exact hk.elim
  ·exact hk
 |Vo sz x lo hi=>
  simp only[af] at hk⊢;split at hk
  ·split at hk
   ·rename_i hc;simp only[if_pos hc];split at hk
    ·split at hk
     ·rename_i k8;simp only[if_pos k8];exact b6j (fun _=>b6j fun _ hk=>⟨hk.1,hk.2.1,hk.2.2.1,hK _ _ _ hk.2.2.2⟩) hk
     ·exact hk.elim
    ·exact hk
   ·exact hk.elim
  ·exact hk
 |XE x y=>
  simp only[af] at hk⊢;split at hk
  ·split at hk
   ·exact hk.elim
   ·rename_i hc;rw[if_neg hc];refine⟨hk.1,hk.2.1,?_⟩;have hk:=hk.2.2;split at hk
    ·exact⟨hk.1,hK _ _ _ hk.2⟩
    ·exact hk
  ·exact hk
 |load|lookup|m9|V8=>simp[At] at h2
 |_=>simp[At] at h1
theorem b7s {sz:Nat}{a x:ah}{ts:List AV}{h:List ae}{mv qd:List Nat}{K:AV->List ae->List Nat->Prop}{l l' off:Nat}{ob:ae}(ha:Ak ts a= .ptr l' off)(ck:l'≠l)
 (hk:af (AM P A ro E) (.store sz a x) ⟨ts,b8 h l ob,mv⟩ K): ∃h',h'.length=h.length/\K .lc (b8 h' l ob) []/\ ∀{K2:AV->List ae->List Nat->Prop},K2 .lc h' []->af (AM P A ro E) (.store sz a x) ⟨ts,h,qd⟩ K2:=by
 simp only[af,ha,IB] at hk⊢;split at hk
 ·rename_i hc;simp only[if_pos hc];have e:ax (b8 h l ob) l'=ax h l':=by rw[cy,fg,cy,AK (A5 ck)]
  rw[e] at hk;split at hk
  ·split at hk
   ·rename_i jw e2;refine⟨b8 h l' (.var jw),by simp[fg],?_,fun h=>h⟩;rw[show b8 (b8 h l' (.var jw)) l ob=b8 (b8 h l ob) l' (.var jw) by simp only[fg];exact (BA _ _ ck)];exact hk
   ·exact hk.elim
  ·exact hk.elim
 ·exact hk.elim
end
theorem w6 {i:Nat}: ∀{l:List Nat},sr i l=AL↔i∈l:=by
 intro l
 induction l with
 |nil=>simp[sr]
 |cons j l ih=>
  simp only[sr];split
  ·rename_i h;have:=BI h;simp[this]
  ·rename_i h;have:i≠j:=fun e=>h (by subst e;simp);simp[ih,this]
theorem RW {base l:Nat}: ∀{av:List Nat},Gx base l av=AL-> ∀s,s∈av->l≠base+s:=by
 intro av
 induction av with
 |nil=>simp
 |cons s r ih=>
  intro h;simp only[Gx] at h;split at h
  ·cases h
  ·rename_i hc;intro s' ug;rcases AE.1 ug with rfl|ug
   ·intro e;subst e;simp at hc
   ·exact ih h s' ug
def VD (o:jm)(ts ts2:List AV):Prop:= ∀t,t∈o.Vv->ax ts t=ax ts2 t
theorem VD.symm {o:jm}{ts ts2:List AV}(h:VD o ts ts2):VD o ts2 ts:=fun t ht=>(h t ht).symm
theorem b3c {x:Nat}: ∀{l:List ah},ah.t x∈l->x∈Mf l:=by
 intro l
 induction l with
 |nil=>simp
 |cons y l ih=>
  intro h;cases y with
  |t i=>
   simp only[Mf,AE];rcases AE.1 h with h|h
   ·cases h;exact .inl rfl
   ·exact .inr (ih h)
  |c v=>
   simp only[Mf];rcases AE.1 h with h|h
   ·cases h
   ·exact ih h
theorem VD.VL {o:jm}{ts ts2:List AV}(h:VD o ts ts2): ∀x,x∈o.op.VL->Ak ts x=Ak ts2 x:=by
 intro x hx;cases x with
 |c v=>rfl
 |t i=>
  simp only[Ak];rw[h i];unfold jm.Vv;split
  ·exact b3c hx
  ·exact AN _ (b3c hx)
theorem VD.put {o:jm}{st:St}{dst:Option Nat}{v:AV}(h: ∀t,dst=AC t->t∉o.Vv):VD o st.ts (st.put dst v).ts:=by
 intro t ht;cases dst with
 |none=>rfl
 |some d=>simp only[Al,cy,fg];rw[AK];intro e;subst e;exact h _ rfl ht
def Xf (o:jm)(ts:List AV):Option Bool:=
 match o.guard with
 |none=>AC AL
 |some (j,want)=>match ax ts j with
  |some (.d (.bool b))=>AC (b==want)
  |some .lc=>AC AR
  |_=>AP
theorem d6r {st:St}{j:Nat}{b:Bool}(h:ax st.ts j=AC (.d (.bool b))):st.VB j b=st:=by obtain⟨ts,hh,mv⟩:=st;simp only[St.VB,Al,Aq,and_true];rw[cy] at h;rw[fg];obtain⟨h1,h2⟩:=AF.1 h;rw[<-h2];exact Ao h1
theorem b3t {o:jm}{st:St}{off on:St->Prop}:z6 o st off on=(match Xf o st.ts with|some AL=>on st|some AR=>off st|none=>False):=by
 cases hg:o.guard with
 |none=>simp only[z6,Xf,hg]
 |some p=>
  obtain⟨j,want⟩:=p;simp only[z6,Xf,hg];cases hb:ax st.ts j with
  |none=>rfl
  |some v=>
   cases v with
   |d x=>
    cases x with
    |bool b=>cases b<;>cases want<;>simp[d6r hb]
    |_=>rfl
   |_=>rfl
theorem JY {o:jm}{ts ts2:List AV}(h:VD o ts ts2):Xf o ts=Xf o ts2:=by
 unfold Xf;split
 ·rfl
 ·rename_i j want hg;rw[h j (by simp[jm.Vv,hg])]
theorem UR {base:Nat}{d:cz}{ts ts2:List AV}(h:VD d.o ts ts2):yn base d ts=yn base d ts2:=by
 unfold yn;split
 ·rfl
 ·split
  ·rename_i x hx;have:x∈d.o.op.VL:=by cases ho:d.o.op<;>rw[ho] at hx<;>simp[qr.at] at hx<;>subst hx<;>simp[AA]
   rw[h.VL x this]
  ·rfl
theorem b7k {base:Nat}{d:cz}{ts:List AV}(h:yn base d ts=AL){x:ah}{l:Nat}(hx:d.o.op.at=AC x)(hl:ZA (Ak ts x)=AC l): ∀s,s∈d.av->l≠base+s:=by
 unfold yn at h;split at h
 ·rename_i e;rw[e];simp
 ·rw[hx] at h;simp only at h;split at h
  ·rename_i e;rw[e] at hl;cases hl;exact RW h
  ·rename_i e;rw[e] at hl;cases hl;split at h
   ·exact RW h
   ·cases h
  ·rename_i e;rw[e] at hl;cases hl;split at h
   ·exact RW h
   ·cases h
  ·rename_i e;rw[e] at hl;cases hl
  ·cases h
def VQ (st:St)(δ:Option (Nat×ae))(dst:Option Nat)(v:AV):St:=
 match δ with
 |none=>st.put dst v
 |some (l,ob)=>(st.ld (b8 st.h l ob)).put dst v
theorem yi {st:St}{dst:Option Nat}{v:AV}:(st.put dst v).h=st.h:=by cases dst<;>rfl
theorem e2q {st:St}{dst:Option Nat}{v:AV}:(st.put dst v).mv=st.mv:=by cases dst<;>rfl
theorem NO {st:St}{dst:Option Nat}{v:AV}{h:List ae}:(st.put dst v).ld h=(st.ld h).put dst v:=by cases dst<;>rfl
theorem L9 {st:St}{d d':Option Nat}{v v':AV}(h: ∀t,d=AC t->d'≠AC t):(st.put d v).put d' v'=(st.put d' v').put d v:=by
 cases d with
 |none=>cases d'<;>rfl
 |some t=>
  cases d' with
  |none=>rfl
  |some t'=>simp only[Al,fg,Aq,and_true];exact BA _ _ fun e=>h t rfl (by rw[e])
theorem c9h {st:St}{d:Option Nat}{v v':AV}:(st.put d v).put d v'=st.put d v':=by
 cases d with
 |none=>rfl
 |some t=>simp[Al,fg]
section
variable {P:Program} {A:t7} {ro:Option Nat} {E:x4} {base:Nat}
theorem IR {F:List cz}{d:cz}{st:St}{K:St->Prop}:r9 (AM P A ro E) base F d st K=(match Xf d.o st.ts with|some AL=>WM (AM P A ro E) base F d st K|some AR=>K (st.put d.o.dst .lc)|none=>False):=by unfold r9;rw[b3t]
theorem Ri {o:qr}{st:St}{K:AV->List ae->List Nat->Prop}:af (AM P A ro E) o st K=af (AM P A ro E) o ⟨st.ts,st.h,st.mv⟩ K:=rfl
theorem Zb {F:List cz}{d:cz}{st:St}{K:St->Prop}(km:d.o.op.kl≠ .m)(hk:r9 (AM P A ro E) base F d st K):
 ∃v δ,(δ=AP\/(d.o.op.kl= .a/\ ∃ob,δ=AC (base+d.slot,ob)))/\(Xf d.o st.ts=AC AR->v= .lc)/\K (VQ st δ d.o.dst v)/\
  ∀{st2:St} {F2:List cz} {K2:St->Prop},VD d.o st.ts st2.ts->(d.o.op.kl= .r-> ∀l,(∀s,s∈d.av->l≠base+s)->ax st2.h l=ax st.h l)->K2 (VQ st2 δ d.o.dst v)->r9 (AM P A ro E) base F2 d st2 K2:=by
 rw[IR] at hk;split at hk
 ·rename_i hg;unfold WM at hk;split at hk
  ·rename_i ha;obtain⟨v,ob,hk,hd⟩:=b7p hk;refine⟨v,AC (base+d.slot,ob),.inr ⟨ha,ob,rfl⟩,(fun h=>by rw[hg] at h;cases h),hk,fun kr _ h2=> ?_⟩;rw[IR,<-JY kr,hg];simp only[WM,ha];exact hd (fun x hx=>(kr.VL x hx).symm) h2
  ·rename_i ha;exact absurd ha km
  ·rename_i ha;split at hk
   ·rename_i qi;obtain⟨v,hv,hd⟩:=Rj ha hk;refine⟨v,AP,.inl rfl,(fun h=>by rw[hg] at h;cases h),hv,fun {st2} F2 K2 kr hh h2=> ?_⟩;rw[IR,<-JY kr,hg];simp only[WM,ha];rw[<-UR kr,if_pos qi,Ri,<-Rh (mv:=st.mv) kr.VL];exact hd (fun x l hx hl=>hh ha l (b7k qi hx hl)) h2
   ·exact hk.elim
  ·rename_i h1 h2 h3;have Kb:d.o.op.kl= .i\/d.o.op.kl= .p:=by
    cases hx:d.o.op.kl
    ·exact .inl rfl
    ·exact absurd hx h3
    ·exact absurd hx h1
    ·exact .inr rfl
    ·exact absurd hx h2
   obtain⟨v,hv,hd⟩:=c6f Kb hk;refine⟨v,AP,.inl rfl,(fun h=>by rw[hg] at h;cases h),hv,fun {st2} F2 K2 kr _ yr=> ?_⟩;rw[IR,<-JY kr,hg];have:WM (AM P A ro E) base F2 d st2 K2=af (AM P A ro E) d.o.op st2 fun v _ _=>K2 (st2.put d.o.dst v):=by
    unfold WM;rcases Kb with e|e<;>rw[e]
   simp only[];rw[this,Ri,<-Rh (mv:=st.mv) kr.VL];exact hd yr
 ·rename_i hg;refine⟨.lc,AP,.inl rfl,fun _=>rfl,hk,fun kr _ h2=> ?_⟩;rw[IR,<-JY kr,hg];exact h2
 ·exact hk.elim
structure YQ (a b:cz):Prop where
 d1: ∀t,b.o.dst=AC t->t∉a.o.Vv
 d2: ∀t,a.o.dst=AC t->t∉b.o.Vv
 d3: ∀t,a.o.dst=AC t->b.o.dst≠AC t
 self: ∀t,a.o.dst=AC t->t∉a.o.Vv
 al:b.alone=AR
 am:a.o.op.kl≠ .m
 ra:a.o.op.kl= .r->b.o.op.kl= .a->b.slot∈a.av
 rm:b.o.op.kl= .m->sr a.i b.YS=AR
 wt:b.o.op.kl= .m->a.watch=AL
 ar:a.o.op.kl= .a->b.o.op.kl= .r->a.slot∈b.av
 m_:a.o.op.kl= .a->b.o.op.kl= .m->a.slot∈b.av
 aa:a.o.op.kl= .a->b.o.op.kl= .a->a.slot≠b.slot
structure RO (r p:cz):Prop where
 d1: ∀t,p.o.dst=AC t->t∉r.o.Vv
 d2: ∀t,p.o.dst=AC t->r.o.dst≠AC t
 av:r.o.op.kl= .r->p.o.op.kl= .a->p.slot∈r.av
theorem OJ {st:St}{δ:Option (Nat×ae)}{dst:Option Nat}{v:AV}:(VQ st δ dst v).ts=(st.put dst v).ts:=by
 cases δ with
 |none=>rfl
 |some p=>cases dst<;>rfl
theorem VD.VQ {o:jm}{st:St}{δ:Option (Nat×ae)}{dst:Option Nat}{v:AV}(h: ∀t,dst=AC t->t∉o.Vv):VD o st.ts (Vf.VQ st δ dst v).ts:=by rw[OJ];exact VD.put h
theorem OI {st:St}{δ:Option (Nat×ae)}{dst:Option Nat}{v:AV}:(VQ st δ dst v).h=match δ with|none=>st.h|some (l,ob)=>b8 st.h l ob:=by
 cases δ with
 |none=>exact yi
 |some p=>cases dst<;>rfl
theorem c1z {st:St}{δ δ':Option (Nat×ae)}{d d':Option Nat}{v v':AV}(h: ∀t,d=AC t->d'≠AC t)(hδ: ∀l ob l' yg,δ=AC (l,ob)->δ'=AC (l',yg)->l≠l'):
 VQ (VQ st δ d v) δ' d' v'=VQ (VQ st δ' d' v') δ d v:=by
 cases δ with
 |none=>
  cases δ' with
  |none=>exact L9 h
  |some p'=>obtain⟨l',yg⟩:=p';simp only[VQ,yi,NO];exact L9 h
 |some p=>
  obtain⟨l,ob⟩:=p;cases δ' with
  |none=>simp only[VQ,yi,NO];exact L9 h
  |some p'=>obtain⟨l',yg⟩:=p';have ck:=hδ l ob l' yg rfl rfl;simp only[VQ,yi,NO];rw[L9 h];congr 1;congr 1;simp only[BH,Aq,true_and,and_true,fg];exact BA _ _ ck
theorem d3j {F F':List cz}{p j:cz}{st:St}{K:St->Prop}(hm:YQ p j)(hj:j.o.op.kl≠ .m)(hk:r9 (AM P A ro E) base F p st fun st1=>r9 (AM P A ro E) base F' j st1 K):
 r9 (AM P A ro E) base F j st fun st1=>r9 (AM P A ro E) base F p st1 K:=by
 obtain⟨v,δ,hδ,_,hk,hd⟩:=Zb hm.am hk;obtain⟨v',δ',hδ',_,hk,GE⟩:=Zb hj hk;refine GE (VD.VQ hm.d2).symm (fun hr l hl=> ?_) (hd (VD.VQ hm.d1) (fun hr l hl=> ?_) ?_)
 ·rw[OI];rcases hδ with rfl|⟨ha,ob,rfl⟩
  ·rfl
  ·simp only[cy,fg];rw[AK];exact fun e=>hl p.slot (hm.ar ha hr) e.symm
 ·rw[OI];rcases hδ' with rfl|⟨ha,ob,rfl⟩
  ·rfl
  ·simp only[cy,fg];rw[AK];exact fun e=>hl j.slot (hm.ra hr ha) e.symm
 ·rw[c1z (δ:=δ') (δ':=δ)]
  ·exact hk
  ·intro t ht e;exact hm.d3 t e ht
  ·rintro l ob l' yg rfl rfl;rcases hδ with h|⟨ha,ob,h⟩
   ·cases h
   ·rcases hδ' with h'|⟨ha',yg,h'⟩
    ·cases h'
    ·cases h;cases h';have:=hm.aa ha ha';omega
end
section
variable {P:Program} {A:t7} {ro:Option Nat} {E:x4} {base:Nat}
theorem NJ {st:St}{k:Prop}{r:cz}{rs:List cz}:qy (AM P A ro E) base st k (r::rs)=(if r.o.op.kl= .r then (match Xf r.o st.ts with
 |some AL=>if yn base r st.ts then af (AM P A ro E) r.o.op st fun v _ _=>match r.o.dst with
   |some d=>v=Ak st.ts (.t d)/\qy (AM P A ro E) base st k rs
   |none=>qy (AM P A ro E) base st k rs
  else False
 |some AR=>qy (AM P A ro E) base st k rs
 |none=>False) else qy (AM P A ro E) base st k rs):=by
 conv=>lhs;unfold qy
 rw[b3t];rfl
theorem a5g {st st2:St}{k k2:Prop}(ke:k->k2): ∀{rs:List cz},qy (AM P A ro E) base st k rs->
 (∀r,r∈rs->r.o.op.kl= .r->VD r.o st.ts st2.ts/\(∀t,r.o.dst=AC t->ax st.ts t=ax st2.ts t)/\ ∀l,(∀s,s∈r.av->l≠base+s)->ax st2.h l=ax st.h l)->qy (AM P A ro E) base st2 k2 rs:=by
 intro rs
 induction rs with
 |nil=>intro hk _;exact ke hk
 |cons r rs ih=>
  intro hk h;have ih:=fun hk=>ih hk fun r hr=>h r (by simp[hr]);rw[NJ] at hk⊢;by_cases km:r.o.op.kl= .r
  ·obtain⟨kr,hdst,hh⟩:=h r (by simp) km;rw[if_pos km] at hk⊢;rw[<-JY kr];split at hk
   ·split at hk
    ·rename_i qi;rw[<-UR kr,if_pos qi,Ri,<-Rh (mv:=st.mv) kr.VL];obtain⟨v,hv,hd⟩:=Rj km hk;refine hd (fun x l hx hl=>hh l (b7k qi hx hl)) ?_;cases hr:r.o.dst with
     |none=>rw[hr] at hv;exact ih hv
     |some d=>rw[hr] at hv;refine⟨hv.1.trans ?_,ih hv.2⟩;simp only[Ak,hdst d hr]
    ·exact hk.elim
   ·exact ih hk
   ·exact hk
  ·rw[if_neg km] at hk⊢;exact ih hk
theorem b5e {F:List cz}{st:St}{k:Prop}{r:cz}{rs:List cz}(km:r.o.op.kl= .r)(hk:qy (AM P A ro E) base st k (r::rs))
 (hg:Xf r.o st.ts=AC AR->st.put r.o.dst .lc=st):r9 (AM P A ro E) base F r st fun st1=>st1=st/\qy (AM P A ro E) base st k rs:=by
 rw[NJ,if_pos km] at hk;rw[IR];split at hk
 ·rename_i h
  try rw[h]
  split at hk
  ·rename_i qi;simp only[WM,km,if_pos qi];refine NV (fun v _ _ hk=> ?_) hk;cases hr:r.o.dst with
   |none=>rw[hr] at hk;exact⟨rfl,hk⟩
   |some d=>
    rw[hr] at hk;refine⟨?_,hk.2⟩;rw[hk.1];obtain⟨ts,hh,mv⟩:=st;simp only[Al,Ak,Aq,and_true];rw[fg,cy];cases hd:ts[d]? with
    |none=>simp only[];exact A9 (by rw[List.getElem?_eq_none_iff] at hd;exact hd)
    |some v=>simp only[];obtain⟨h1,h2⟩:=AF.1 hd;rw[<-h2];exact Ao h1
  ·exact hk.elim
 ·rename_i h;try rw[h]
  exact⟨hg h,hk⟩
 ·exact hk.elim
theorem MH {m:Nat}: ∀{pg:List Nat},xl m pg=AL-> ∀l,l∈pg->Nat.beq l m=AR:=by
 intro pg
 induction pg with
 |nil=>simp
 |cons l pg ih=>
  intro h;simp only[xl] at h;split at h
  ·cases h
  ·rename_i hb;intro l' bu;rcases AE.1 bu with rfl|bu
   ·exact Bool.eq_false_iff.2 hb
   ·exact ih h l' bu
mutual
theorem a9q {l:Nat}{pg:List Nat}(hl:l∈pg): ∀(v:AV),sy pg v=AL->v.forget l AR=v
 | .agg cs,h=>by simp only[sy] at h;simp only[Af];rw[Ox hl cs h]
 | .tuple cs,h=>by simp only[sy] at h;simp only[Af];rw[Ox hl cs h]
 | .fn f us cs,h=>by
   simp only[sy] at h;split at h
   ·rename_i h1;simp only[Af];rw[Ox hl us h1,Ox hl cs h]
   ·cases h
 | .ptr m _,h=>by simp only[sy] at h;simp[Af,MH h l hl]
 | .ii m _ _ _,h=>by simp only[sy] at h;simp[Af,MH h l hl]
 | .bi m _ _ _ _,h=>by simp only[sy] at h;simp[Af,MH h l hl]
 | .d7 m _ _,h=>by simp only[sy] at h;simp[Af,MH h l hl]
 | .map m,h=>by simp only[sy] at h;simp[Af,MH h l hl]
 | .yl m,h=>by simp only[sy] at h;simp[Af,MH h l hl]
 | .d _,_=>rfl
 | .any,_=>rfl
 | .lc,_=>rfl
 | .d9 _ _,_=>rfl
 | .lm _ _ _,_=>rfl
 | .ge _,_=>rfl
theorem Ox {l:Nat}{pg:List Nat}(hl:l∈pg): ∀(vs:List AV),Ia pg vs=AL->Bj l AR vs=vs
 |[],_=>rfl
 |v::r,h=>by
  simp only[Ia] at h;split at h
  ·rename_i h1;simp only[Bj];rw[a9q hl v h1,Ox hl r h]
  ·cases h
end
theorem a8c {v:AV}: ∀{pg QY:List Nat},(∀l,l∈QY->l∈pg)->sy pg v=AL->IT QY v=v:=by
 intro pg QY
 induction QY with
 |nil=>intro _ _;rfl
 |cons l QY ih=>intro hs h;simp only[IT];rw[a9q (hs l (by simp)) v h];exact ih (fun m hm=>hs m (by simp[hm])) h
theorem b3v {pg:List Nat}{ts:List AV}: ∀{l:List Nat},yp pg ts l=AL-> ∀t,t∈l-> ∀v,ax ts t=AC v->sy pg v=AL:=by
 intro l
 induction l with
 |nil=>simp
 |cons t l ih=>
  intro h;simp only[yp] at h;intro t' Jo v hv;cases qu:ax ts t with
  |none=>
   simp only[qu,if_true] at h;rcases AE.1 Jo with rfl|Jo
   ·rw[qu] at hv;cases hv
   ·exact ih h t' Jo v hv
  |some u=>
   simp only[qu] at h;split at h
   ·rename_i h1;rcases AE.1 Jo with rfl|Jo
    ·rw[qu] at hv;cases hv;exact h1
    ·exact ih h t' Jo v hv
   ·cases h
theorem a9j {pg:List Nat}{ts ts2:List AV}: ∀{l:List Nat},(∀t,t∈l->ax ts t=ax ts2 t)->yp pg ts l=yp pg ts2 l:=by
 intro l
 induction l with
 |nil=>intro _;rfl
 |cons t l ih=>intro h;simp only[yp];rw[h t (by simp),ih fun t ht=>h t (by simp[ht])]
theorem c8v {st:St}{pg:List Nat}{t:Nat}:ax (st.i5 pg).ts t=(ax st.ts t).map (IT pg):=by rw[cy,cy,(JV pg st).1,List.getElem?_map]
theorem c7l {pg:List Nat}{st:St}{dst:Option Nat}{v:AV}(hv:sy pg v=AL):(st.put dst v).i5 pg=(st.i5 pg).put dst v:=by
 have h1:=JV pg (st.put dst v);have h2:=JV pg st;have hm: ∀(pg:List Nat) (st1 st2:St),st1.mv=st2.mv->(st1.i5 pg).mv=(st2.i5 pg).mv:=by
  intro pg
  induction pg with
  |nil=>intro st1 st2 h;exact h
  |cons l pg ih=>intro st1 st2 h;exact ih _ _ (by simp[h])
 have h3:=hm pg (st.put dst v) st e2q;cases fj:(st.put dst v).i5 pg with
 |mk ts h mv=>
  rw[fj] at h1 h3;cases hst2:st.i5 pg with
  |mk ts2 SK qd=>
   rw[hst2] at h2 h3;simp only at h1 h2 h3;cases dst with
   |none=>simp only[Al] at h1⊢;rw[h1.1,h1.2,h2.1,h2.2,h3]
   |some d=>simp only[Al,fg] at h1⊢;rw[h1.1,h1.2,h2.1,h2.2,h3,List.map_set,a8c (fun _ h=>h) hv]
theorem RS {d r:cz}{F:List cz}(h:r∈sx d F):r∈F:=by
 induction F with
 |nil=>simp[sx] at h
 |cons x F ih=>
  simp only[sx] at h;split at h
  ·exact AN _ (ih h)
  ·rcases AE.1 h with rfl|h
   ·exact List.mem_cons_self
   ·exact AN _ (ih h)
theorem e7w {o:qr}(h:o.kl= .m){x:ah}(hx:o.at=AC x): ∃sz y,o= .store sz x y:=by
 cases o with
 |store sz a y=>simp[qr.at] at hx;subst hx;exact⟨sz,y,rfl⟩
 |load|lookup|m9|V8=>simp[At] at h
 |_=>simp[qr.at] at hx
theorem QL {st:St}{dst:Option Nat}{v:AV}{t:Nat}(h:dst≠AC t):ax (st.put dst v).ts t=ax st.ts t:=by
 cases dst with
 |none=>rfl
 |some d=>simp only[Al,cy,fg];rw[AK];intro e;subst e;exact h rfl
theorem c7d {pg:List Nat}{ts:List AV}: ∀{F:List cz},xj pg ts F=AL-> ∀r,r∈F->yp pg ts r.o.Vv=AL/\yp pg ts (OD r.o)=AL:=by
 intro F
 induction F with
 |nil=>simp
 |cons x F ih=>
  intro h;simp only[xj] at h;split at h
  ·rename_i h1;split at h
   ·rename_i h2;intro r hr;rcases AE.1 hr with rfl|hr
    ·exact⟨h1,h2⟩
    ·exact ih h r hr
   ·cases h
  ·cases h
theorem b9f {pg:List Nat}{ts ts2:List AV}: ∀{F:List cz},(∀r,r∈F->VD r.o ts ts2/\ ∀t,r.o.dst=AC t->ax ts t=ax ts2 t)->xj pg ts F=xj pg ts2 F:=by
 intro F
 induction F with
 |nil=>intro _;rfl
 |cons x F ih=>
  intro h;obtain⟨h1,h2⟩:=h x (by simp);simp only[xj];rw[a9j h1,ih fun r hr=>h r (by simp[hr])];congr 2;unfold OD;cases hd:x.o.dst with
  |none=>rfl
  |some d=>
   have:yp pg ts [d]=yp pg ts2 [d]:=a9j fun t ht=>by simp at ht;subst ht;exact h2 t hd
   simp only[this]
theorem b4u {st:St}{d:Nat}{v u:AV}(h:ax (st.put (AC d) v).ts d=AC u):u=v:=by
 simp only[Al,cy,fg,BR] at h;split at h
 ·split at h
  ·simpa using h.symm
  ·cases h
 ·rename_i h1;exact absurd trivial h1
theorem e4b {F:List cz}{p j:cz}{st:St}{K:St->Prop}(hm:YQ p j)(hj:j.o.op.kl= .m)(hF: ∀r,r∈F->RO r p)
 (hk:r9 (AM P A ro E) base F p st fun st1=>r9 (AM P A ro E) base (za p F) j st1 K):r9 (AM P A ro E) base F j st fun st1=>r9 (AM P A ro E) base F p st1 K:=by
 obtain⟨v,δ,hδ,hund,hk,hd⟩:=Zb hm.am hk;have kr:VD j.o st.ts (VQ st δ p.o.dst v).ts:=VD.VQ hm.d2;have eF:za p F=p::F:=by unfold za;rw[if_pos (hm.wt hj)]
 have eA:sx j (za p F)=p::sx j F:=by rw[eF,sx,if_neg (by rw[hm.rm hj];simp)]
 rw[IR] at hk⊢;rw[<-JY kr] at hk;split at hk
 ·rename_i hg;simp only[WM,hj] at hk⊢;rw[<-UR kr] at hk;rw[eA] at hk;split at hk
  ·rename_i qi;rw[if_pos qi];rcases hδ with rfl|⟨ha,ob,rfl⟩
   ·
    rw[Ri,<-Rh (mv:=st.mv) kr.VL,OI] at hk;refine NV (fun vj h' pg hk=> ?_) hk;have fin: ∀(st2:St),VD p.o st.ts st2.ts->qy (AM P A ro E) base (st2.put p.o.dst v) (K (st2.put p.o.dst v)) (p::sx j F)->
     qy (AM P A ro E) base st2 (r9 (AM P A ro E) base F p st2 K) (sx j F):=by
     intro st2 RQ hk;have tr: ∀r,r∈F->r.o.op.kl= .r->VD r.o (st2.put p.o.dst v).ts st2.ts/\(∀t,r.o.dst=AC t->ax (st2.put p.o.dst v).ts t=ax st2.ts t)/\
      ∀l,(∀s,s∈r.av->l≠base+s)->ax st2.h l=ax (st2.put p.o.dst v).h l:=
      fun r hr _=>⟨(VD.put (hF r hr).d1).symm,fun t ht=>QL fun e=>(hF r hr).d2 t e ht,fun l _=>by rw[yi]⟩
     by_cases hp:p.o.op.kl= .r
     ·have hgp:Xf p.o (st2.put p.o.dst v).ts=Xf p.o st.ts:=by rw[<-JY (VD.put (st:=st2) (v:=v) hm.self),JY RQ]
      have hk:=b5e (F:=F) hp hk (fun PL=>by
       rw[hgp] at PL;rw[hund PL,c9h])
      obtain⟨v2,δ2,hδ2,_,⟨h1,h2⟩,Nd⟩:=Zb hm.am hk;rcases hδ2 with rfl|⟨ha,_⟩
      ·refine a5g (fun hk=> ?_) h2 fun r hr=>tr r (RS hr);refine Nd (VD.put hm.self).symm (fun _ l _=>by rw[yi]) ?_;have:VQ st2 AP p.o.dst v2=st2.put p.o.dst v:=by rw[<-h1];simp only[VQ,c9h]
       rw[this];exact hk
      ·rw[hp] at ha;cases ha
     ·rw[NJ,if_neg hp] at hk;refine a5g (fun hk=> ?_) hk fun r hr=>tr r (RS hr);exact hd RQ (fun h=>absurd h hp) hk
    cases pg with
    |cons x pg=>
     simp only at hk⊢;rw[hm.al] at hk⊢;simp only[Bool.false_eq_true,if_false] at hk⊢;split at hk
     ·rename_i hlt;rw[if_pos hlt];split at hk
      ·rename_i J8;obtain⟨j9,k8⟩:=c7d J8 p (by simp);have hcr:xj (x::pg) st.ts (sx j F)=AL:=by
        rw[b9f (ts2:=(VQ st AP p.o.dst v).ts) fun r hr=> ?_]
        ·have h9:=J8;simp only[xj,j9,k8,if_true] at h9;exact h9
        ·have hr:=hF r (RS hr);rw[OJ];exact⟨VD.put hr.d1,fun t ht=>(QL fun e=>hr.d2 t e ht).symm⟩
       rw[if_pos hcr];have hag2:VD p.o st.ts (((st.ld h').i5 (x::pg)).put j.o.dst vj).ts:=by
        intro t ht;rw[QL (fun e=>hm.d1 t e ht),c8v];show ax st.ts t=(ax st.ts t).map _;cases hv:ax st.ts t with
        |none=>rfl
        |some u=>
         have ig:sy (x::pg) u=AL:=by refine b3v j9 t ht u ?_;rw[OJ,QL fun e=>hm.self t e ht];exact hv
         simp only[Ax];rw[a8c (fun _ h=>h) ig]
       have fj:((((VQ st AP p.o.dst v).ld h').i5 (x::pg)).put j.o.dst vj)=(((st.ld h').i5 (x::pg)).put j.o.dst vj).put p.o.dst v:=by
        simp only[VQ,NO];cases Ni:p.o.dst with
        |none=>rfl
        |some d=>
         by_cases aq: ∃u,ax (st.put (AC d) v).ts d=AC u
         ·obtain⟨u,hu⟩:=aq;have Ka:sy (x::pg) v=AL:=by have:=b4u hu;subst this;refine b3v k8 d (by simp[OD,Ni]) u ?_;rw[OJ,Ni];exact hu
          rw[c7l Ka];exact L9 fun t ht=>hm.d3 t (by rw[Ni];exact ht)
         ·have qj:st.ts.length<=d:=by refine Nat.le_of_not_lt fun hlt=>aq ⟨v,?_⟩;simp[Al,cy,fg,hlt]
          have e1: ∀(s2:St),s2.ts.length<=d->s2.put (AC d) v=s2:=by intro s2 h;cases s2;simp only[Al,fg,Aq,and_true];exact A9 h
          rw[e1 (st.ld h') qj,e1];have hl:((st.ld h').i5 (x::pg)).ts.length=st.ts.length:=by rw[(JV _ _).1];simp[BH]
          cases j.o.dst with
          |none=>show ((st.ld h').i5 (x::pg)).ts.length<=d;omega
          |some dj=>simp only[Al,fg,List.length_set];omega
       rw[fj] at hk;exact fin _ hag2 hk
      ·exact hk.elim
     ·exact hk.elim
    |nil=>
     simp only at hk⊢;have e1:((VQ st AP p.o.dst v).ld h').put j.o.dst vj=((st.ld h').put j.o.dst vj).put p.o.dst v:=by simp only[VQ,NO];exact L9 hm.d3
     rw[e1] at hk;exact fin _ (VD.put hm.d1:VD p.o (st.ld h').ts _) hk
   ·
    have hnr:p.o.op.kl≠ .r:=by rw[ha];simp
    have Hy:=hm.m_ ha hj;have hx: ∃sz x y l' off,j.o.op= .store sz x y/\Ak st.ts x= .ptr l' off/\l'≠base+p.slot:=by
     have pz:=qi;unfold yn at pz;split at pz
     ·rename_i e;rw[e] at Hy;simp at Hy
     ·split at pz
      ·rename_i x hx;obtain⟨sz,y,fj⟩:=e7w hj hx;split at pz
       ·rename_i l' off e3;exact⟨sz,x,y,l',off,fj,e3,RW pz _ Hy⟩
       ·rw[hj] at pz;simp at pz
       ·rw[hj] at pz;simp at pz
       ·rw[hj] at pz;simp at pz
       ·cases pz
      ·cases pz
    obtain⟨sz,x,y,l',off,fj,hx,ck⟩:=hx;rw[Ri,<-Rh (mv:=st.mv) kr.VL,OI,fj] at hk;obtain⟨h',hlen,hk,hd3⟩:=b7s hx ck hk;rw[fj];refine hd3 ?_;simp only at hk⊢;rw[NJ,if_neg hnr] at hk;have e1:((VQ st (AC (base+p.slot,ob)) p.o.dst v).ld (b8 h' (base+p.slot) ob)).put j.o.dst .lc=VQ ((st.ld h').put j.o.dst .lc) (AC (base+p.slot,ob)) p.o.dst v:=by simp only[VQ,NO,yi];exact L9 hm.d3
    rw[e1] at hk;generalize hst2:(st.ld h').put j.o.dst .lc=st2 at hk⊢;have RQ:VD p.o st.ts st2.ts:=by subst hst2;exact (VD.put hm.d1:VD p.o (st.ld h').ts _)
    refine a5g (fun hk=>hd RQ (fun h=>absurd h hnr) hk) hk fun r hr GK=> ?_;have hr:=hF r (RS hr);refine⟨(VD.VQ hr.d1).symm,fun t ht=> ?_,fun l hl=> ?_⟩
    ·rw[OJ];exact QL fun e=>hr.d2 t e ht
    ·rw[OI];simp only[cy,fg];rw[AK];exact fun e=>hl p.slot (hr.av GK ha) e.symm
  ·exact hk.elim
 ·rename_i hg;refine hd (VD.put hm.d1) (fun _ l _=>by rw[yi]) ?_;have:VQ (st.put j.o.dst .lc) δ p.o.dst v=(VQ st δ p.o.dst v).put j.o.dst .lc:=by have:=c1z (st:=st) (δ:=AP) (δ':=δ) (d:=j.o.dst) (d':=p.o.dst) (v:= .lc) (v':=v) (fun t ht e=>hm.d3 t e ht) (by rintro l ob l' yg h _;cases h);exact this
  rw[this];exact hk
 ·exact hk
end
section
variable {P:Program} {A:t7} {ro:Option Nat} {E:x4} {base:Nat}
theorem b1l {st:St}{k k2:Prop}(ke:k->k2){F F':List cz}(hs:F'.Sublist F):qy (AM P A ro E) base st k F->qy (AM P A ro E) base st k2 F':=by
 induction hs with
 |slnil=>intro hk;exact ke hk
 |cons r hs ih=>
  intro hk;rw[NJ] at hk;by_cases km:r.o.op.kl= .r
  ·rw[if_pos km] at hk;split at hk
   ·split at hk
    ·obtain⟨v,hv,_⟩:=Rj km hk;cases hr:r.o.dst with
     |none=>rw[hr] at hv;exact ih hv
     |some d=>rw[hr] at hv;exact ih hv.2
    ·exact hk.elim
   ·exact ih hk
   ·exact hk.elim
  ·rw[if_neg km] at hk;exact ih hk
 |cons_cons r hs ih=>
  intro hk;rw[NJ] at hk⊢;by_cases km:r.o.op.kl= .r
  ·rw[if_pos km] at hk⊢;split at hk
   ·split at hk
    ·rename_i qi;simp only[if_pos qi];refine NV (fun v _ _ hk=> ?_) hk;cases hr:r.o.dst with
     |none=>rw[hr] at hk;exact ih hk
     |some d=>rw[hr] at hk;exact⟨hk.1,ih hk.2⟩
    ·exact hk.elim
   ·exact ih hk
   ·exact hk.elim
  ·rw[if_neg km] at hk⊢;exact ih hk
theorem c8p {pg:List Nat}{ts:List AV}{F F':List cz}(hs:F'.Sublist F):xj pg ts F=AL->xj pg ts F'=AL:=by
 induction hs with
 |slnil=>exact id
 |cons r hs ih=>
  intro h;simp only[xj] at h;split at h
  ·split at h
   ·exact ih h
   ·cases h
  ·cases h
 |cons_cons r hs ih=>
  intro h;simp only[xj] at h⊢;split at h
  ·rename_i h1;rw[if_pos h1];split at h
   ·rename_i h2;rw[if_pos h2];exact ih h
   ·cases h
  ·cases h
theorem UH {d:cz}{F F':List cz}(hs:F'.Sublist F):(sx d F').Sublist (sx d F):=by
 induction hs with
 |slnil=>exact .slnil
 |cons r hs ih=>
  simp only[sx];split
  ·exact ih
  ·exact .cons _ ih
 |cons_cons r hs ih=>
  simp only[sx];split
  ·exact ih
  ·exact .cons_cons _ ih
theorem c8t {d:cz}{F F':List cz}(hs:F'.Sublist F):(za d F').Sublist (za d F):=by
 unfold za;split
 ·exact .cons_cons _ hs
 ·exact hs
theorem Vd {d:cz}{F F':List cz}(hs:F'.Sublist F){st:St}{K K':St->Prop}(hK: ∀st,K st->K' st)(hk:r9 (AM P A ro E) base F d st K):r9 (AM P A ro E) base F' d st K':=by
 rw[IR] at hk⊢;split at hk
 ·unfold WM at hk⊢;split at hk
  ·obtain⟨v,ob,hv,hd⟩:=b7p hk;exact hd (fun _ _=>rfl) (hK _ hv)
  ·split at hk
   ·rename_i qi;simp only[if_pos qi];refine NV (fun v h pg hk=> ?_) hk;cases pg with
    |nil=>exact b1l (hK _) (UH hs) hk
    |cons x pg=>
     simp only at hk⊢;split at hk
     ·rename_i ha;rw[if_pos ha];exact hK _ hk
     ·rename_i ha;rw[if_neg ha];split at hk
      ·rename_i hb;rw[if_pos hb];split at hk
       ·rename_i hc;rw[if_pos (c8p (UH hs) hc)];exact b1l (hK _) (UH hs) hk
       ·exact hk.elim
      ·exact hk.elim
   ·exact hk.elim
  ·split at hk
   ·rename_i qi;simp only[if_pos qi];exact NV (fun v h pg hk=>hK _ hk) hk
   ·exact hk.elim
  ·exact NV (fun v h pg hk=>hK _ hk) hk
 ·exact hK _ hk
 ·exact hk.elim
theorem d1d {K K':St->Prop}(hK: ∀st,K st->K' st): ∀{ds F F':List cz},F'.Sublist F-> ∀{st:St},XK (AM P A ro E) base F ds st K->XK (AM P A ro E) base F' ds st K':=by
 intro ds
 induction ds with
 |nil=>intro F F' _ st hk;exact hK _ hk
 |cons d ds ih=>intro F F' hs st hk;exact Vd hs (fun st hk=>ih (c8t hs) hk) hk
theorem e2s {K:St->Prop}{j:cz}{post:List cz}: ∀{pre F:List cz} {st:St},(∀p,p∈pre->YQ p j)->(j.o.op.kl= .m-> ∀r,r∈F-> ∀p,p∈pre->RO r p)->
 (j.o.op.kl= .m->pre.Pairwise RO)->XK (AM P A ro E) base F (pre++j::post) st K->r9 (AM P A ro E) base F j st fun st1=>XK (AM P A ro E) base F (pre++post) st1 K:=by
 intro pre
 induction pre with
 |nil=>
  intro F st _ _ _ hk;refine Vd (AS _) (fun st hk=> ?_) hk;refine d1d (fun _ h=>h) ?_ hk;unfold za;split
  ·exact .cons _ (AS _)
  ·exact AS _
 |cons p pre ih=>
  intro F st hm hF hp hk;have hk:r9 (AM P A ro E) base F p st fun st1=>r9 (AM P A ro E) base (za p F) j st1 fun st2=>XK (AM P A ro E) base (za p F) (pre++post) st2 K:=by
   refine Vd (AS _) (fun st hk=> ?_) hk;refine ih (fun q hq=>hm q (AN _ hq)) (fun hj r hr q hq=> ?_) (fun hj=>(AJ.1 (hp hj)).2) hk;unfold za at hr;split at hr
   ·rcases AE.1 hr with rfl|hr
    ·exact (AJ.1 (hp hj)).1 q hq
    ·exact hF hj r hr q (AN _ hq)
   ·exact hF hj r hr q (AN _ hq)
  by_cases hj:j.o.op.kl= .m
  ·exact e4b (hm p (by simp)) hj (fun r hr=>hF hj r hr p (by simp)) hk
  ·exact d3j (hm p (by simp)) hj hk
end
theorem v4.at {w:AY}{S:Nat->Prop}{ρ:Bl}{h:List ae}(s:Bn w S ρ h){l:Nat}(hl:l<h.length)(vt:ρ l=AP)(o:Obj)(ao:ae)(C:Nat)
 (ho: ∀w':AY,w'.heap=w.heap.push o->fv w' S ρ w.heap.size C ao):
 Bn {w with heap:=w.heap.push o} S (fun m=>if m=l then AC (AC w.heap.size,C) else ρ m) (h.set l ao)/\
  Ext w S ρ {w with heap:=w.heap.push o} S (fun m=>if m=l then AC (AC w.heap.size,C) else ρ m):=by
 have hold: ∀b,b<w.heap.size->(w.heap.push o)[b]? =w.heap[b]? :=fun b hb=>by rw[AX,if_neg (by omega)]
 have hρ: ∀m p,ρ m=AC p->(if m=l then AC (AC w.heap.size,C) else ρ m)=AC p:=by intro m p hm;rw[if_neg (fun e=>by subst e;simp[vt] at hm)];exact hm
 refine⟨⟨fun b hb=> ?_,fun m ob C' hm=> ?_,fun m m' b C1 C2 h1 h2=> ?_,fun m b C' ao' hm ju hf=> ?_⟩,⟨rfl,⟨rfl,AQ _⟩,rfl,by simp,fun _ h=>h,fun b hb=>hold b (s.i0 b hb),fun _ h=> .inl h,fun b hb _=>hold b hb,fun m b C' hm=> ?_⟩⟩
 ·have:=s.i0 b hb;simp;omega
 ·by_cases e:m=l
  ·rw[if_pos e] at hm;cases hm;refine⟨ao,by simp[e,hl],?_⟩;show fv _ _ _ _ _ _;exact (ho {w with heap:=w.heap.push o} rfl).mono (fun _ h=>h) (fun _ _=>rfl) hρ rfl
  ·rw[if_neg e] at hm;obtain⟨o',h1,h2⟩:=s.obj m ob C' hm;refine⟨o',by rw[AK (A5 e)];exact h1,?_⟩;cases ob with
   |none=>exact h2
   |some b=>exact fv.mono (fun _ h=>h) (fun b hb=>hold b (s.i0 b hb)) hρ (hold b (s.V2 hm)) h2
 ·by_cases e1:m=l<;>by_cases e2:m'=l
  ·rw[e1,e2]
  ·rw[if_pos e1] at h1;rw[if_neg e2] at h2;cases h1;have:=s.V2 h2;omega
  ·rw[if_neg e1] at h1;rw[if_pos e2] at h2;cases h2;have:=s.V2 h1;omega
  ·rw[if_neg e1] at h1;rw[if_neg e2] at h2;exact s.inj m m' b C1 C2 h1 h2
 ·by_cases e:m=l
  ·rw[if_pos e] at hm;cases hm;intro hs;have:=s.i0 _ hs;omega
  ·rw[if_neg e] at hm;rw[AK (A5 e)] at ju;exact s.own m b C' ao' hm ju hf
 ·by_cases e:m=l
  ·rw[if_pos e] at hm;cases hm;exact .inl (AQ _)
  ·rw[if_neg e] at hm;exact .inr ⟨m,C',hm⟩
section
variable {P:Program} {A:t7} {ro:Option Nat} {E:x4} {c:Nat} {o:A4} {io:qr} {st:St}
 {a:Bi} {w:AY} {S:Nat->Prop} {ρ:Bl} {l:Nat} {K:AV->ae->Prop}
def KO (P:Program)(o:A4)(a:Bi)(w:AY)(S:Nat->Prop)(ρ:Bl)(l:Nat)(K:AV->ae->Prop):Prop:=
 ∃v oo C x ob,(BO a.eval o).run P w= .ok (.value v) {w with heap:=w.heap.push oo}/\K x ob/\(∀w':AY,w'.heap=w.heap.push oo->fv w' S ρ w.heap.size C ob)/\
  ∀(w':AY) (S':Nat->Prop) (ρ':Bl),ρ' l=AC (AC w.heap.size,C)->VR w' S' ρ' x v
theorem d6s {t:BD}(bc:o.op= .alloc t)(hc:ni P c o=AC io)(hk:ti (AM P A ro E) l io st K):KO P o a w S ρ l K:=by
 simp[ni,bc,AB] at hc;obtain⟨zs,hz,rfl⟩:=hc;obtain⟨i,z,hi,w5,hd⟩:=KN hz;obtain⟨hl,hv⟩:=IQ hd;simp only[ti,HN] at hk;refine⟨.pointer (AC ⟨w.heap.size,0,AP⟩),.cells z.cells t,0,_,_,?_,hk,fun w' gd=>⟨z.cells,t,?_,by simp[hl],?_⟩,fun w' S' ρ' h=> .ptr _ 0 _ _ h⟩
 ·simp[BO,bc,Instr.alloc,newVar,Bf,Jz hi w5,BU]
 ·rw[gd];simp
 ·intro j x u hx hu;simp at hx;obtain⟨y,hy,rfl⟩:=hx;exact .d (hv _ _ j y u hy hu)
theorem e8t {t:BD}{X:Bm}(bc:o.op= .box t X)(hc:ni P c o=AC io)(hk:ti (AM P A ro E) l io st K)(hr:Aw E st a w S ρ):KO P o a w S ρ l K:=by
 simp[ni,bc,AB] at hc;obtain⟨x,hx,rfl⟩:=hc;have h0:=dm hr.ts hx;simp only[ti] at hk;split at hk
 ·rename_i h1;obtain⟨hl,hv⟩:=KW h0 h1;refine⟨.pointer (AC ⟨w.heap.size,0,AP⟩),.cells (a.eval X).cells t,0,_,_,?_,hk,fun w' gd=>⟨(a.eval X).cells,t,?_,hl.symm,?_⟩,fun w' S' ρ' h=> .ptr _ 0 _ _ h⟩
  ·simp[BO,bc,Instr.box,newVar,Bf,BU]
  ·rw[gd];simp
  ·intro j y u hy hu;refine (hv j y u hy hu).mono (fun _ h=>h) (fun b hb=> ?_) (fun _ _ h=>h);rw[gd,AX,if_neg];have:=hr.co.i0 b hb;omega
 ·exact hk.elim
theorem d8t {t:BD}(bc:o.op= .makeMap t AP){wide:Bool}{ks:List Av}(hk:ti (AM P A ro E) l (.x6 wide ks) st K):KO P o a w S ρ l K:=by simp only[ti] at hk;refine⟨.map (AC w.heap.size),.map #[] 0,0,_,_,?_,hk,fun w' gd=>⟨#[],0,by rw[gd];simp,⟨rfl,by simp,by simp,fun k=>rfl,by simp⟩⟩,fun w' S' ρ' h=> .map _ _ _ h⟩;simp[BO,bc,Instr.makeMap]
theorem c2e {t:BD}(bc:o.op= .makeMap t AP){wide:Bool}{ks:List Av}(hk:ti (AM P A ro E) l (.og wide ks) st K):KO P o a w S ρ l K:=by simp only[ti] at hk;refine⟨.map (AC w.heap.size),.map #[] 0,0,_,_,?_,hk,fun w' gd=>⟨#[],0,by rw[gd];simp,⟨rfl,by simp,by simp,by simp,by simp⟩,⟨rfl,rfl⟩,by simp⟩,fun w' S' ρ' h=> .map _ _ _ h⟩;simp[BO,bc,Instr.makeMap]
theorem b7z {t:BD}{N M:Bm}(bc:o.op= .makeSlice t N M)(hNM:a.eval N=a.eval M){e:BD}(he:P.underlying t=AC (.slice e)){sz b:Nat}{zs:List DV}(bl:l6 P e=AC sz)
 (hz:uo P e=AC zs) (hb:zu P e=AC b) (lr:zs.length=sz) (k7:b<=250) {x:ah} (hx:bh N=AC x)
 (hk:ti (AM P A ro E) l (.mp sz zs b x) st K) (hr:Aw E st a w S ρ):KO P o a w S ρ l K:=by
 obtain⟨lz,cw⟩:=vu bl;obtain⟨i,z,hi,w5,hd⟩:=KN hz;obtain⟨i',fw,J6⟩:=UT hb;rw[hi] at fw;cases fw;have h0:=dm hr.ts hx;simp only[ti] at hk;obtain⟨n,hn,hk⟩:=Ip h0 hk;obtain⟨h1,h2,hk⟩:(0<=n.val)/\(n.val<=(VU:Nat))/\_:=hk;rw[j5] at hk;simp only[VU] at h2;obtain⟨hl,hv⟩:=IQ hd;have hw:IntKind.i64.wrap n.val=n.val:=b3n h1 (by omega);have wz:((n.val.toNat:Nat):Int)=n.val:=Int.toNat_of_nonneg h1;have Na:((b:Nat):Int)*n.val<=281474976710656:=by
  have o7:(0:Int)<=(b:Int):=Int.natCast_nonneg _;have Jc:(b:Int)<=250:=by omega
  have h3:=Int.mul_le_mul_of_nonneg_right Jc h1;omega
 refine⟨.slice (AC ⟨w.heap.size,0,AP⟩) n.val.toNat n.val.toNat,.cells ((BG (n.val.toNat*sz)).map (z.cells[· % z.cells.size]!)) e,n.val.toNat,_,_,?_,hk,
  fun w' gd=>⟨(BG (n.val.toNat*sz)).map (z.cells[· % z.cells.size]!),e,by rw[gd];simp,by simp,AQ _,fun i hi=>by rw[show (AM P A ro E).rep n.val.toNat zs i=zs from if_pos hi];exact⟨lr,fun j y u hy hu=>RK hd lr _ S w' i hi j y u hy hu⟩⟩,
  fun w' S' ρ' h=> .bi _ _ AP _ AR (AC w.heap.size) n.val.toNat _ _ h (by simp) (by simp) (by simp)⟩
 have Km:(typeInfo e).run P w= .ok i w:=by simp[typeInfo,hi]
 simp only[BO,bc,<-hNM,hn,Instr.makeSlice,An,run_underlying he,Ab,asInt,asIntOf,BE,Km,hw,J6];rw[if_neg (by
  simp only[Aa,decide_eq_true_eq];omega)]
 simp only[Ab,An,run_askRoom,cw];have r0: ∀f:Nat->Ae,(BG 0).map f= #[]:=fun f=>by apply Be;simp
 by_cases hm:n.val.toNat*sz=0
 ·simp[hm,Bf,r0]
 ·simp[hm,Bf,Jz hi w5]
theorem e1o {t e:BD}{ps:Array (Nat×Bm)}(bc:o.op= .buildSlice t 0 ps)(vp:ps.toList=[])(ht:P.underlying t=AC (.slice e)){sz:Nat}(bl:l6 P e=AC sz)
 (hk:ti (AM P A ro E) l (.V5 sz) st K):KO P o a w S ρ l K:=by
 simp only[ti] at hk;refine⟨.slice (AC ⟨w.heap.size,0,AP⟩) 0 0,.cells #[] e,0,_,_,RJ bc vp ht bl,hk,fun w' gd=>⟨#[],e,by rw[gd];simp,by simp,AQ _,fun i hi=>by omega⟩,
  fun w' S' ρ' h=> .bi _ _ AP _ AR (AC w.heap.size) 0 _ _ h (by simp) (by simp) (by simp)⟩
end
section
variable {P:Program} {A:t7} {ro:Option Nat} {E:x4} {c:Nat} {o:A4} {io:qr} {st:St}
 {a:Bi} {w:AY} {S:Nat->Prop} {ρ:Bl} {l:Nat} {K:AV->ae->Prop}
section
variable {Q:Exit->Bi->AY->Prop}
theorem Rel.put (r:Aw E st a w S ρ)(dst:Option Nat){x:AV}{v:Ae}(hv:VR w S ρ x v):Aw E (st.put dst x) (a.put dst v) w S ρ:=
 r.step (n8.refl r.co) dst hv
theorem Rel.VB (r:Aw E st a w S ρ){j:Nat}{b:Bool}(h:ax st.ts j=AC (.d (.bool b))):Aw E (st.VB j b) a w S ρ/\a.tmps[j]? =AC (.bool b):=by
 rw[cy] at h;have hlt:=(AF.1 h).1;have jv:j<a.tmps.size:=by rw[<-r.ts.1];exact hlt
 have hv:=r.ts.2 j _ a.tmps[j] h (by simp[jv]);have hb:=hv.bool;have hj:a.tmps[j]? =AC (.bool b):=by rw[<-hb];simp[jv]
 refine⟨?_,hj⟩;have:=r.put (AC j) hv;have e:a.put (AC j) a.tmps[j]=a:=by
  cases a with
  |mk tmps defers=>
   simp only[Act.put];congr 1;apply Be;have hj':j<tmps.toList.length:=by simpa using jv
   simp only[Array.toList_setIfInBounds];rw[show tmps[j]=tmps.toList[j] by simp];exact Ao hj'
 rw[e] at this;exact this
theorem b1v {ops:Array A4}{tmps:Array Ae}{j d:Nat}{oj:A4}(h:ops[j]? =AC oj)(hd:oj.dst=AC d):Au ops tmps j=match tmps[d]? with|some (.bool b)=>AC b|_=>AP:=by simp[Au,h,hd];rfl
end
theorem i2d {base lim:Nat}: ∀{pg:List Nat},Mz.go base lim pg=AL-> ∀l,l∈pg->l<base\/lim<=l:=by
 intro pg
 induction pg with
 |nil=>intro _ l h;cases h
 |cons x pg ih=>
  intro h l hl;simp only[Mz.go] at h;split at h
  ·rename_i hx;rcases AE.1 hl with rfl|hl
   ·exact .inl (by simpa [Bg] using hx)
   ·exact ih h l hl
  ·split at h
   ·rename_i hx;rcases AE.1 hl with rfl|hl
    ·exact .inr (Ar hx)
    ·exact ih h l hl
   ·cases h
theorem h8q {base s:Nat}{pg:List Nat}(h:Mz base s pg=AL): ∀l,l∈pg->l<base\/base+s<=l:=by
 unfold Mz at h;split at h
 ·intro l _;omega
 ·exact fun l hl=>i2d h l hl
theorem d6w {f:ah}{as:List ah}{m:Mode}:(qr.call f as m).kl≠ .a:=by cases m<;>simp[At]
theorem c0p (hc:Oz P c o=AC io)(km:io.kl= .a)(hk:ti (AM P A ro E) l io st K)(hr:Aw E st a w S ρ):KO P o a w S ρ l K/\ ∀c,o.op≠ .defer c:=by
 unfold Oz at hc;split at hc
 case h_2=>cases hc;cases km
 rename_i io' j9;cases hc;have hc:=j9;have sf:=hc;unfold ni at hc;split at hc
 case h_7 t n ps heq=>
  simp only[AG,AB,AO] at hc;obtain⟨e,he,sz,bl,zs,hz,hc⟩:=hc;split at hc
  ·rename_i cj;simp only[AB] at hc;obtain⟨l,hl,hc⟩:=hc;split at hc
   ·split at hc
    ·cases hc;cases km
    ·cases hc
   split at hc
   ·split at hc
    ·cases hc;cases km
    ·cases hc
   split at hc
   ·rename_i hn;split at hc
    ·rename_i hle;cases hc;obtain⟨rfl,_⟩:=hn;have vp:ps.toList=[]:=by
      have hle:l=[]:=by simpa using hle
      subst hle;cases hp:ps.toList with
      |nil=>rfl
      |cons q qs=>rw[hp] at hl;simp[AB] at hl
     exact⟨e1o heq vp (qo he) bl hk,fun c h=>by rw[heq] at h;cases h⟩
    ·cases hc
   split at hc
   ·split at hc
    ·cases hc;cases km
    ·cases hc
   ·split at hc
    ·cases hc;cases km
    ·cases hc;cases km
  ·cases hc
 case h_4 heq=>exact⟨d6s heq sf hk,fun c h=>by rw[heq] at h;cases h⟩
 case h_5 heq=>exact⟨e8t heq sf hk hr,fun c h=>by rw[heq] at h;cases h⟩
 case h_15 t heq=>
  simp only[AG,AB,AO,AD] at hc;obtain⟨⟨k,e⟩,hm,⟨wide,ks⟩,ep,hc⟩:=hc;split at hc
  ·cases hc;exact⟨c2e heq hk,fun c h=>by rw[heq] at h;cases h⟩
  split at hc
  ·cases hc;exact⟨d8t heq hk,fun c h=>by rw[heq] at h;cases h⟩
  ·cases hc;exact⟨c2e heq hk,fun c h=>by rw[heq] at h;cases h⟩
 case h_16 t N M heq=>
  simp only[AG,AB] at hc;obtain⟨e,he,sz,bl,zs,hz,b,hb,x,hx,hc⟩:=hc;split at hc
  ·split at hc
   ·rename_i i j cj;cases hc;exact⟨b7z heq (by rw[cj.1]) (qo he) bl hz hb cj.2.1 cj.2.2 hx hk hr,fun c h=>by rw[heq] at h;cases h⟩
   ·cases hc
  ·split at hc
   ·rename_i i j cj;cases hc;exact⟨b7z heq (by rw[cj.1]) (qo he) bl hz hb cj.2.1 cj.2.2 hx hk hr,fun c h=>by rw[heq] at h;cases h⟩
   ·cases hc
  ·cases hc
 all_goals exfalso
 all_goals try unfold R4 at hc
 all_goals try unfold U3 at hc
 all_goals try simp only[AG,AB,AO,AD] at hc
 all_goals repeat' first
  |(cases km;done)
  |(cases hc;done)
  |(subst hc)
  |(obtain⟨_,_,hc⟩:=hc)
  |(split at hc)
  |(simp only[AB,AD] at hc)
  |(unfold U4 at km;split at km<;>cases km;done)
  |(unfold Oy at hc;simp only[AG,AO] at hc)
  |exact absurd km d6w
theorem c4i (hl:Bo P){r base i:Nat}{ops:Array A4}{d:cz}{F:List cz}{K:St->Prop}{next:Bi->AY->Prop}{Q:Exit->Bi->AY->Prop}(hc:KZ P A r ops i o=AC d.o)(hk:r9 (AM P A ro E) base F d st K)(hr:Aw E st a w S ρ)
 (hF:F=[]) (Il:d.o.op.kl= .a->ρ (base+d.slot)=AP/\base+d.slot<st.h.length) (hb:E.base<=base)
 (hn: ∀st' a' w' S' ρ',K st'->Aw E st' a' w' S' ρ'->st.h.length<=st'.h.length->((d.o.op.kl= .m->d.alone=AR)-> ∀m,base<=m->m<st.h.length->(d.o.op.kl= .m->m<base+d.slot)->(d.o.op.kl= .a->m≠base+d.slot)->ρ' m=ρ m)->next a' w'):
 if AH o (Au ops a.tmps) then o.wpIn (ri ro) 0 P a w next Q else (∀f,o.about P w a.eval=AC f->(ri ro).fn f)/\next (a.put o.dst Ai) w:=by
 subst hF;simp only[KZ,AG,AB] at hc;obtain⟨op,bc,hc⟩:=hc;have e0:d.o.dst=o.dst/\d.o.op=op:=by
  split at hc
  ·simp at hc;rw[<-hc];exact⟨rfl,rfl⟩
  ·simp only[AB,AO,AD] at hc;obtain⟨oj,hj,dd,hd,hc⟩:=hc;rw[<-hc];exact⟨rfl,rfl⟩
 obtain⟨e1,e2⟩:=e0;have run:WM (AM P A ro E) base [] d st K->o.wpIn (ri ro) 0 P a w next Q:=by
  intro hk;unfold WM at hk;rw[e1,e2] at hk;split at hk
  ·rename_i ha;obtain⟨⟨v,oo,C,x,ob,aj,hk,hh,hv⟩,im⟩:=c0p bc ha hk hr;obtain⟨h1,h2⟩:=Il (by rw[e2];exact ha);obtain⟨h3,h4⟩:=hr.co.at h2 h1 oo ob C hh;refine⟨fun f _=>MT ro f,?_⟩;rw[Sb,Oper.semAt_eq ro a.eval o im,aj];refine hn _ _ _ S (fun m=>if m=base+d.slot then AC (AC w.heap.size,C) else ρ m) hk ?_ (by rw[yi];simp[BH,fg]) (fun _ m _ hm _ ck=>by rw[if_neg (ck (by rw[e2];exact ha))]);have pd:Vw {w with heap:=w.heap.push oo} S (fun m=>if m=base+d.slot then AC (AC w.heap.size,C) else ρ m) st.ts a.tmps:=by refine⟨hr.ts.1,fun i y u hy hu=>(hr.ts.2 i y u hy hu).mono h4.mono h4.cell fun m p hm=> ?_⟩;rw[if_neg (fun e=>by subst e;rw[h1] at hm;cases hm)];exact hm
   have r1:Aw E (st.ld (b8 st.h (base+d.slot) ob)) a {w with heap:=w.heap.push oo} S (fun m=>if m=base+d.slot then AC (AC w.heap.size,C) else ρ m):=by refine⟨pd,hr.ds.ext h4,by simp only[BH,fg];exact h3,hr.ext.trans h4,fun m hm kp=> ?_,by simpa [BH,fg] using hr.len⟩;rw[if_neg (by omega)];exact hr.v9 m hm kp
   exact r1.put o.dst (hv _ S _ (by simp))
  ·rename_i hmm;split at hk
   ·refine T4 hl bc hk hr fun x h' pg v w' S' ρ' hk hc hv=> ?_;have rr:=hr.step hc o.dst hv;cases pg with
    |nil=>have rr:Aw E ((st.ld h').put o.dst x) (a.put o.dst v) w' S' ρ':=rr;have hk:K ((st.ld h').put o.dst x):=hk;exact hn _ _ _ _ _ hk rr (by rw[yi];exact hc.len) fun _ m _ hm _ _=>hc.low m hm (by simp)
    |cons y pg=>
     simp only at hk;split at hk
     ·rename_i GD;refine hn _ _ _ _ _ hk rr ?_ fun h=> ?_
      ·rw[yi,(JV _ _).2];exact hc.len
      ·rw[e2] at h;rw[h hmm] at GD;cases GD
     ·split at hk
      ·rename_i hlt;split at hk
       ·have hk:K ((((st.ld h').i5 (y::pg))).put o.dst x):=hk;refine hn _ _ _ _ _ hk rr (by rw[yi,(JV _ _).2];exact hc.len) fun _ m hb hm hs _=>hc.low m hm fun gm=> ?_;have h1:=h8q hlt m gm;have h2:=hs (by rw[e2];exact hmm);omega
       ·exact hk.elim
      ·exact hk.elim
   ·exact hk.elim
  ·rename_i vq;split at hk
   ·obtain⟨v0,hk,hd⟩:=Rj vq hk;have hk:af (AM P A ro E) op st fun v h' pg=>h'=st.h/\pg=[]/\K (st.put o.dst v):=hd (fun _ _ _ _=>rfl) ⟨rfl,rfl,hk⟩;refine T4 hl bc hk hr fun x h' pg v w' S' ρ' hk hc hv=> ?_;obtain⟨rfl,rfl,hk⟩:=hk;exact hn _ _ _ _ _ hk (hr.step hc o.dst hv) (by rw[yi];exact AQ _) fun _ m _ hm _ _=>hc.low m hm (by simp)
   ·exact hk.elim
  ·rename_i h1 h2 h3;have Kb:op.kl= .i\/op.kl= .p:=by
    cases hx:op.kl
    ·exact .inl rfl
    ·exact absurd hx h3
    ·exact absurd hx h1
    ·exact .inr rfl
    ·exact absurd hx h2
   obtain⟨v0,hk,hd⟩:=c6f Kb hk;have hk:af (AM P A ro E) op st fun v h' pg=>h'=st.h/\pg=[]/\K (st.put o.dst v):=hd ⟨rfl,rfl,hk⟩;refine T4 hl bc hk hr fun x h' pg v w' S' ρ' hk hc hv=> ?_;obtain⟨rfl,rfl,hk⟩:=hk;exact hn _ _ _ _ _ hk (hr.step hc o.dst hv) (by rw[yi];exact AQ _) fun _ m _ hm _ _=>hc.low m hm (by simp)
 have NP:K (st.put o.dst .lc)->(∀f,o.about P w a.eval=AC f->(ri ro).fn f)/\next (a.put o.dst Ai) w:=
  fun hk=>⟨fun f _=>MT ro f,hn _ _ _ S ρ hk (hr.put o.dst .lc) (by rw[yi];exact AQ _) fun _ _ _ _ _ _=>rfl⟩
 rw[IR,e1] at hk;split at hc
 ·rename_i hg;simp at hc;have:Xf d.o st.ts=AC AL:=by simp[Xf,<-hc]
  rw[this] at hk;have:AH o (Au ops a.tmps)=AL:=by simp[AH,hg]
  rw[if_pos this];exact run hk
 ·rename_i j want hg;simp only[AB,AO,AD] at hc;obtain⟨oj,hj,dd,hd,hc⟩:=hc;have hgs:Xf d.o st.ts=match ax st.ts dd with|some (.d (.bool b))=>AC (b==want)|some .lc=>AC AR|_=>AP:=by rw[<-hc];rfl
  have hy:=b1v (tmps:=a.tmps) hj hd;rw[hgs] at hk;cases hb:ax st.ts dd with
  |none=>rw[hb] at hk;exact hk.elim
  |some z=>
   rw[hb] at hk;have hlt:dd<a.tmps.size:=by rw[<-hr.ts.1];rw[cy] at hb;exact (AF.1 hb).1
   have hv:=hr.ts.2 dd z a.tmps[dd] (by rw[<-cy];exact hb) (by simp[hlt]);cases z with
   |d x=>
    cases x with
    |bool b=>
     have hbt:a.tmps[dd]? =AC (.bool b):=by rw[<-hv.bool];simp[hlt]
     rw[hbt] at hy;simp only at hy hk;cases hbw:(b==want) with
     |true=>rw[hbw] at hk;rw[if_pos (by simp[AH,hg,hy];simpa using hbw)];exact run hk
     |false=>rw[hbw] at hk;rw[if_neg (by simp[AH,hg,hy];simpa using hbw)];exact NP hk
    |_=>exact hk.elim
   |lc=>
    have hu:a.tmps[dd]? =AC Ai:=by generalize hx:a.tmps[dd]=v at hv;cases hv;rw[A3 hlt,hx]
    rw[hu] at hy;have hy:Au ops a.tmps j=AP:=hy;rw[if_neg (by simp[AH,hg,hy])];exact NP hk
   |_=>exact hk.elim
end
theorem U9 {o:jm}{l:List Nat}(h:OC o l=AR): ∀t,o.dst=AC t->t∉l:=by intro t ht hm;unfold OC at h;rw[ht] at h;simp only at h;rw[w6.2 hm] at h;cases h
theorem b7j {a b:jm}(h:c0q a b=AR): ∀t,a.dst=AC t->b.dst≠AC t:=by intro t ha hb;unfold c0q at h;rw[ha,hb] at h;simp at h
theorem b3o {a b:cz}(h:KU a b=AL):(∀t,b.o.dst=AC t->t∉a.o.Vv)/\ ∀t,a.o.dst=AC t->b.o.dst≠AC t:=by simp[KU] at h;exact⟨U9 h.1,b7j h.2⟩
structure KQ (cl:List (List Nat))(a b:cz):Prop where
 w:a.watch=AL->b.watch=AL->KU a b=AL/\(a.o.op.kl= .r->b.o.op.kl= .a->b.slot∈a.av)
 aa:a.o.op.kl= .a->b.o.op.kl= .a->a.slot≠b.slot
 al:a.alone=AL->b.o.op.kl≠ .a
 ma:a.o.op.kl= .m->b.o.op.kl= .a->b.slot<a.slot
 am:a.o.op.kl= .a->b.o.op.kl= .m->a.slot<b.slot
 o:a.i∈cl.getD b.i []\/(KU a b=AL/\S9 a b=AL)
theorem c5u {cl:List (List Nat)}{a b:cz}(h:d7c cl a b=AL):KQ cl a b:=by
 unfold d7c at h;simp only[AW,Aa,Ac,beq_eq_false_iff_ne,ne_eq,Bool.and_eq_false_iff] at h;obtain⟨⟨⟨⟨⟨h1,h2⟩,h5⟩,h6⟩,h3⟩,h4⟩:=h;refine⟨fun ha hb=> ?_,fun ha hb=> ?_,fun GD hb=> ?_,fun ha hb=> ?_,fun ha hb=> ?_,?_⟩
 ·rcases h1 with h1|h1
  ·rcases h1 with h1|h1
   ·rw[ha] at h1;cases h1
   ·rw[hb] at h1;cases h1
  ·refine⟨h1.1,fun hr hb=> ?_⟩;rcases h1.2 with (h|h)|h
   ·exact absurd hr h
   ·exact absurd hb h
   ·exact w6.1 h
 ·rcases h2 with h|h
  ·rcases h with h|h
   ·exact absurd hb h
   ·exact absurd ha h
  ·intro e;rw[e] at h;simp at h
 ·rcases h3 with h|h
  ·rw[GD] at h;cases h
  ·exact absurd hb h
 ·rcases h5 with (h|h)|h
  ·exact absurd ha h
  ·exact absurd hb h
  ·exact Ar h
 ·rcases h6 with (h|h)|h
  ·exact absurd ha h
  ·exact absurd hb h
  ·exact Ar h
 ·rcases h4 with h|h
  ·exact .inl (w6.1 h)
  ·exact .inr h
theorem KQ.Zu {cl:List (List Nat)}{a b:cz}(h:KQ cl a b)(ha:a.watch=AL)(hb:b.watch=AL):RO a b:=by obtain⟨h1,h2⟩:=h.w ha hb;obtain⟨h3,h4⟩:=b3o h1;exact⟨h3,fun t hb ha=>h4 t ha hb,h2⟩
theorem KQ.may {cl:List (List Nat)}{a b:cz}(h:KQ cl a b)(hn:a.i∉cl.getD b.i [])(Qh: ∀t,a.o.dst=AC t->t∉a.o.Vv):YQ a b:=by
 obtain⟨h1,h2⟩:KU a b=AL/\S9 a b=AL:=by
  rcases h.o with h|h
  ·exact absurd h hn
  ·exact h
 obtain⟨h3,h4⟩:=b3o h1;unfold S9 at h2;simp only[AW,Aa,Ac] at h2;obtain⟨⟨⟨h5,h6⟩,h8⟩,h7⟩:=h2;have hm:b.o.op.kl= .m->a.watch=AL/\sr a.i b.YS=AR:=fun e=>by
  rcases h8 with h8|h8
  ·rw[e] at h8;simp at h8
  ·exact h8
 refine⟨h3,U9 h5,h4,Qh,h6,fun e=> ?_,fun e1 e2=> ?_,fun e2=>(hm e2).2,fun e2=>(hm e2).1,fun e1 e2=> ?_,fun e1 e2=> ?_,h.aa⟩
 ·rw[e] at h7;cases h7
 ·rw[e1] at h7;simp only[e2] at h7;exact w6.1 h7
 ·rw[e1] at h7;simp only[e2] at h7;exact w6.1 h7
 ·rw[e1] at h7;simp only[e2] at h7;exact w6.1 h7
def YF (ops:Array A4)(L:Nat->Prop):List cz->Prop
 |[]=>True
 |d::ds=>(∀o,ops[d.i]? =AC o-> ∀k,k∈Ib o->L k)/\YF ops (fun k=>L k\/k=d.i) ds
theorem TK {ops:Array A4}: ∀{ds:List cz} {L L':Nat->Prop},(∀k,L k->L' k)->YF ops L ds->YF ops L' ds:=by
 intro ds
 induction ds with
 |nil=>intro _ _ _ _;trivial
 |cons d ds ih=>intro L L' h hp;exact⟨fun o ho k hk=>h k (hp.1 o ho k hk),ih (fun k hk=>hk.imp (h k) id) hp.2⟩
theorem c5j {ops:Array A4}{j:cz}{post:List cz}: ∀{pre:List cz} {L:Nat->Prop},YF ops L (pre++j::post)->YF ops (fun k=>L k\/k=j.i) (pre++post):=by
 intro pre
 induction pre with
 |nil=>intro L hp;exact hp.2
 |cons d pre ih=>
  intro L hp;refine⟨fun o ho k hk=> .inl (hp.1 o ho k hk),TK (fun k hk=> ?_) (ih hp.2)⟩;rcases hk with (h|h)|h
  ·exact .inl (.inl h)
  ·exact .inr h
  ·exact .inl (.inr h)
structure IG (P:Program)(A:t7)(r:Nat)(ops:Array A4)(cl:List (List Nat))(listed:Array Bool)(ds:List cz):Prop where
 size:listed.size=ops.size
 mem: ∀i,i<ops.size->(listed[i]? =AC AR↔ ∃d,d∈ds/\d.i=i)
 nd:ds.Pairwise (fun a b=>a.i≠b.i)
 comp: ∀d,d∈ds-> ∃o,ops[d.i]? =AC o/\KZ P A r ops d.i o=AC d.o
 pair:ds.Pairwise (KQ cl)
 pl:YF ops (fun k=>listed[k]? =AC AL) ds
 down: ∀k,listed[k]? =AC AL-> ∀p,p∈cl.getD k []->listed[p]? =AC AL
 self: ∀d,d∈ds-> ∀t,d.o.dst=AC t->t∉d.o.Vv
theorem TR {ops:Array A4}{listed:Array Bool}(bl:listed.size=ops.size){i:Nat}:i∈A8 .any ops listed↔listed[i]? =AC AR/\ ∃o,ops[i]? =AC o/\ ∀k,k∈Ib o->listed[k]? =AC AL:=by
 unfold A8;simp only[Az,As,AW,Ac];have e1: ∀k,listed.getD k AR=AL↔listed[k]? =AC AL:=by
  intro k;simp only[Ag];cases listed[k]? with
  |none=>simp
  |some b=>simp
 constructor
 ·rintro⟨hi,h1,h2⟩;have h3:listed[i]? =AC AR:=by
   simp only[Ag] at h1;cases h:listed[i]? with
   |none=>rw[Array.getElem?_eq_none_iff] at h;omega
   |some b=>rw[h] at h1;simp at h1;rw[h1]
  refine⟨h3,ops[i],by simp[hi],fun k hk=> ?_⟩;have ho:ops[i]? =AC ops[i]:=by simp[hi]
  rw[ho] at h2;simp only[Ax,BL] at h2;rw[BK] at h2;simp only[Ib,BC,Az] at hk;obtain⟨e,⟨he,hb⟩,rfl⟩:=hk;have:=h2 e (by simpa using he);rw[hb] at this;simp only[Ba,Bb] at this;exact (e1 _).1 this
 ·rintro⟨h1,o,ho,h2⟩;have hi:i<ops.size:=by rw[<-bl];exact (AI.1 h1).1
  refine⟨hi,by simp[Ag,h1],?_⟩;rw[ho];simp only[Ax,BL];rw[BK];intro e he;cases hb:Region.binds .any e with
  |false=>simp
  |true=>simp only[Ba,Bb];exact (e1 _).2 (h2 _ (by simp only[Ib,BC,Az];exact⟨e,⟨by simpa using he,hb⟩,rfl⟩))
section
variable {P:Program} {A:t7} {ro:Option Nat} {E:x4} {base r:Nat} {ops:Array A4} {cl:List (List Nat)}
theorem IG.lt {listed:Array Bool}{ds:List cz}(l:IG P A r ops cl listed ds){d:cz}(hd:d∈ds):d.i<ops.size:=by obtain⟨o,ho,_⟩:=l.comp d hd;exact (AI.1 ho).1
theorem IG.ready {listed:Array Bool}{d:cz}{ds:List cz}(l:IG P A r ops cl listed (d::ds)):d.i∈A8 .any ops listed:=by obtain⟨o,ho,_⟩:=l.comp d (by simp);rw[TR l.size];exact⟨(l.mem d.i (l.lt (by simp))).2 ⟨d,by simp,rfl⟩,o,ho,l.pl.1 o ho⟩
theorem TZ {listed:Array Bool}{i k:Nat}(hi:i<listed.size):(listed.setIfInBounds i AL)[k]? =if k=i then AC AL else listed[k]? :=by
 rw[Ay];by_cases h:k=i
 ·subst h;simp[hi]
 ·rw[if_neg h,if_neg (fun e=>h e.symm)]
theorem IG.next {listed:Array Bool}{pre post:List cz}{d:cz}(l:IG P A r ops cl listed (pre++d::post))(ig:MI ops.toList cl=AL)(hr:d.i∈A8 .any ops listed):
 IG P A r ops cl (listed.setIfInBounds d.i AL) (pre++post):=by
 have hlt:d.i<listed.size:=by rw[l.size];exact l.lt (by simp)
 have xy:(pre++post).Sublist (pre++d::post):=(AS pre).append (.cons _ (AS _));obtain⟨_,o,ho,Hg⟩:=(TR l.size).1 hr;have im:=BJ.1 l.nd;have ck: ∀x,x∈pre++post->x.i≠d.i:=by
  intro x hx;rcases AZ.1 hx with hx|hx
  ·exact im.2.2 x hx d (by simp)
  ·exact ((AJ.1 im.2.1).1 x hx).symm
 refine⟨by simp[l.size],fun i hi=> ?_,l.nd.sublist xy,fun x hx=>l.comp x (xy.subset hx),l.pair.sublist xy,?_,fun k hk p hp=> ?_,fun x hx=>l.self x (xy.subset hx)⟩
 ·rw[TZ hlt];by_cases h:i=d.i
  ·rw[if_pos h];constructor
   ·intro h;cases h
   ·rintro⟨x,hx,rfl⟩;exact absurd h (ck x hx)
  ·rw[if_neg h,l.mem i hi];constructor
   ·rintro⟨x,hx,rfl⟩;refine⟨x,?_,rfl⟩;rcases AZ.1 hx with hx|hx
    ·exact AT _ hx
    ·rcases AE.1 hx with rfl|hx
     ·exact absurd rfl h
     ·exact BF _ hx
   ·rintro⟨x,hx,rfl⟩;exact⟨x,xy.subset hx,rfl⟩
 ·refine TK (fun k hk=> ?_) (c5j l.pl);rw[TZ hlt];rcases hk with hk|hk
  ·by_cases h:k=d.i
   ·rw[if_pos h]
   ·rw[if_neg h];exact hk
  ·rw[if_pos hk]
 ·have up: ∀q,listed[q]? =AC AL->(listed.setIfInBounds d.i AL)[q]? =AC AL:=fun q hq=>by
   rw[TZ hlt];split
   ·rfl
   ·exact hq
  rw[TZ hlt] at hk;by_cases h:k=d.i
  ·subst h;have gm:d.i<ops.size:=l.lt (by simp);unfold MI at ig;simp only[AU,As] at ig;have h1:=ig d.i (by simpa using gm) p hp;rw[show ops.toList[d.i]? =AC o by rw[Ad];exact ho] at h1;simp only[Aa,BV] at h1;rcases h1 with h1|⟨q,hq,h1⟩
   ·exact up p (Hg p (w6.1 h1))
   ·exact up p (l.down q (Hg q hq) p (w6.1 h1))
  ·rw[if_neg h] at hk;exact up p (l.down k hk p hp)
theorem c6u {α:Type}{x:α}: ∀{l:List α},x∈l-> ∃pre post,l=pre++x::post:=by
 intro l
 induction l with
 |nil=>intro h;cases h
 |cons y l ih=>
  intro h;rcases AE.1 h with rfl|h
  ·exact⟨[],l,rfl⟩
  ·obtain⟨p,q,rfl⟩:=ih h;exact⟨y::p,q,rfl⟩
theorem d4h (Ga:Bo P){K:St->Prop}{Q:Exit->Bi->AY->Prop}(ig:MI ops.toList cl=AL)(hb:E.base<=base)(hn: ∀st a w S ρ,K st->Aw E st a w S ρ->Q .normal a w):
 ∀(n:Nat) (ds:List cz) (listed:Array Bool) (st:St) (a:Bi) (w:AY) (S:Nat->Prop) (ρ:Bl),ds.length=n->IG P A r ops cl listed ds->XK (AM P A ro E) base [] ds st K->Aw E st a w S ρ->
  (∀d,d∈ds->d.o.op.kl= .a->ρ (base+d.slot)=AP/\base+d.slot<st.h.length)->wpAnyIn (ri ro) 0 P .any ops Q n listed a w:=by
 intro n
 induction n with
 |zero=>intro ds listed st a w S ρ hlen l hk hr _;have:ds=[]:=List.length_eq_zero_iff.1 hlen;subst this;refine⟨?_,hn st a w S ρ hk hr⟩;refine List.eq_nil_iff_forall_not_mem.2 fun i hi=> ?_;obtain⟨h1,o,ho,_⟩:=(TR l.size).1 hi;obtain⟨x,hx,_⟩:=(l.mem i (AI.1 ho).1).1 h1;cases hx
 |succ n ih=>
  intro ds listed st a w S ρ hlen l hk hr Il;refine⟨fun h=> ?_,fun i hi=> ?_⟩
  ·cases ds with
   |nil=>cases hlen
   |cons d ds=>have:=l.ready;rw[h] at this;cases this
  ·obtain⟨h1,o,ho,Hg⟩:=(TR l.size).1 hi;obtain⟨d,hd,rfl⟩:=(l.mem i (AI.1 ho).1).1 h1;obtain⟨pre,post,rfl⟩:=c6u hd;have Jm:=BJ.1 l.pair;have Jj: ∀p,p∈pre->YQ p d:=by
    intro p hp;refine (Jm.2.2 p hp d (by simp)).may (fun aq=> ?_) (l.self p (AT _ hp));have qk:listed[p.i]? =AC AR:=(l.mem p.i (l.lt (AT _ hp))).2 ⟨p,AT _ hp,rfl⟩;unfold MI at ig;simp only[AU,As] at ig;have h2:=ig d.i (by simpa using l.lt hd) p.i aq;rw[show ops.toList[d.i]? =AC o by rw[Ad];exact ho] at h2;simp only[Aa,BV] at h2;have h3:listed[p.i]? =AC AL:=by
     rcases h2 with h2|⟨q,hq,h2⟩
     ·exact Hg p.i (w6.1 h2)
     ·exact l.down q (Hg q hq) p.i (w6.1 h2)
    rw[qk] at h3;cases h3
   have hk:=e2s Jj (fun _ r hr=>by cases hr) (fun hj=>Jm.1.imp_of_mem fun {a b} ha hb h=>h.Zu ((Jj a ha).wt hj) ((Jj b hb).wt hj)) hk;have l':=l.next ig hi;obtain⟨o',v7,hc⟩:=l.comp d hd;rw[ho] at v7;cases v7;unfold wpOpIn;rw[ho];refine c4i Ga hc hk hr rfl (Il d hd) hb fun st' a' w' S' ρ' mn k9 hlen' hρ'=> ?_;refine ih (pre++post) _ st' a' w' S' ρ' (by simp at hlen⊢;omega) l' mn k9 fun x hx Nq=> ?_;have te:x∈pre++d::post:=by
    rcases AZ.1 hx with hx|hx
    ·exact AT _ hx
    ·exact BF _ (AN _ hx)
   obtain⟨h4,h5⟩:=Il x te Nq;refine⟨?_,Nat.lt_of_lt_of_le h5 hlen'⟩;rw[hρ' (fun hm=> ?_) _ (Nat.le_add_right _ _) h5 (fun hm=> ?_) (fun ha=> ?_)]
   ·exact h4
   ·rcases AZ.1 hx with hx|hx
    ·exact (Jj x hx).al
    ·have:=(AJ.1 Jm.2.1).1 x hx;cases GD:d.alone with
     |false=>rfl
     |true=>exact absurd Nq (this.al GD)
   ·rcases AZ.1 hx with hx|hx
    ·have:=(Jm.2.2 x hx d (by simp)).am Nq hm;omega
    ·have:=((AJ.1 Jm.2.1).1 x hx).ma hm Nq;omega
   ·have:x.slot≠d.slot:=by
     rcases AZ.1 hx with hx|hx
     ·exact (Jm.2.2 x hx d (by simp)).aa Nq ha
     ·exact ((AJ.1 Jm.2.1).1 x hx).aa ha Nq|>.symm
    omega
end
section
variable {P:Program} {A:t7} {ro:Option Nat} {E:x4} {r:Nat} {ops:Array A4}
theorem c0l: ∀{l:List A4} {k:Nat} {l':List jm},GZ P A r ops l k=AC l'-> ∀(i:Nat) (io:jm),l'[i]? =AC io-> ∃o,l[i]? =AC o/\KZ P A r ops (k+i) o=AC io:=by
 intro l
 induction l with
 |nil=>intro k l' h i io hi;simp[GZ] at h;subst h;simp at hi
 |cons o l ih=>
  intro k l' h i io hi;simp only[GZ,AG,AB,AO,AD] at h;obtain⟨x,hx,xs,hxs,rfl⟩:=h;cases i with
  |zero=>simp at hi;subst hi;exact⟨o,rfl,hx⟩
  |succ i=>simp only[Am] at hi⊢;obtain⟨o',v7,hc⟩:=ih hxs i io hi;exact⟨o',v7,by rw[show k+(i+1)=k+1+i by omega];exact hc⟩
theorem b6v {l:List A4}(hl:l=ops.toList): ∀{ds:List cz} {done:List Nat},TL l done ds=AL->ds.Pairwise (fun a b=>a.i≠b.i)/\(∀d,d∈ds->d.i∉done)/\YF ops (fun k=>k∈done) ds:=by
 subst hl;intro ds
 induction ds with
 |nil=>intro done _;exact⟨.nil,by simp,trivial⟩
 |cons d ds ih=>
  intro done h;simp only[TL,AW,Ac] at h;obtain⟨⟨h1,h2⟩,h3⟩:=h;obtain⟨h4,h5,h6⟩:=ih h3;refine⟨AJ.2 ⟨fun x hx e=>h5 x hx (by simp[e]),h4⟩,fun x hx=> ?_,fun o ho k hk=> ?_,TK (fun k hk=> ?_) h6⟩
  ·rcases AE.1 hx with rfl|hx
   ·intro hm;rw[w6.2 hm] at h2;cases h2
   ·intro hm;exact h5 x hx (AN _ hm)
  ·rw[show ops.toList[d.i]? =AC o by rw[Ad];exact ho] at h1;simp only[AU] at h1;exact w6.1 (h1 k hk)
  ·rcases AE.1 hk with h|h
   ·exact .inr h
   ·exact .inl h
theorem c0c {cl:List (List Nat)}: ∀{ds:List cz},TH cl ds=AL->ds.Pairwise (KQ cl):=by
 intro ds
 induction ds with
 |nil=>intro _;exact .nil
 |cons d ds ih=>intro h;simp only[TH,AW,AU] at h;exact AJ.2 ⟨fun x hx=>c5u (h.1 x hx),ih h.2⟩
theorem b4d {u0:List jm}{n:Nat}{ds:List cz}(LA:GZ P A r ops ops.toList 0=AC u0)(h:R3 ops.toList u0=AC (n,ds)):
 ds.length=ops.size/\MI ops.toList (R2 ops.toList [])=AL/\IG P A r ops (R2 ops.toList []) (BW ops.size AR) ds/\ ∀d,d∈ds->d.o.op.kl= .a->d.slot<n:=by
 unfold R3 at h;simp only at h;split at h
 ·rename_i hc;obtain⟨h1,h2,h3,h4,h5,h6⟩:=hc;simp only[AD,Prod.mk.injEq] at h;obtain⟨rfl,rfl⟩:=h;obtain⟨h7,_,h8⟩:=b6v rfl h5;simp only[AU,AW,Ac,Aa] at h6;simp only[AU,As] at h2;refine⟨by simpa using h1,h3,⟨by simp,fun i hi=> ?_,h7,fun d hd=> ?_,c0c h4,TK (fun k hk=>by cases hk) h8,fun k hk=> ?_,fun d hd=>U9 (h6 d hd).1⟩,fun d hd ha=> ?_⟩
  ·constructor
   ·intro _;have:=w6.1 (h2 i (by simpa using hi));simp only[BC] at this;exact this
   ·intro _;simp[hi]
  ·have:u0[d.i]? =AC d.o:=by
    unfold d5j at hd;simp only[List.mem_filterMap] at hd;obtain⟨j,_,hj⟩:=hd;split at hj
    ·cases hj
    ·rename_i o ho;simp only[AD] at hj;subst hj;exact ho
   obtain⟨o,ho,hg⟩:=c0l LA d.i d.o this;rw[Nat.zero_add] at hg;exact⟨o,by rw[<-Ad];exact ho,hg⟩
  ·rw[A7] at hk;split at hk<;>cases hk
  ·rcases (h6 d hd).2 with h|h
   ·rw[ha] at h;simp at h
   ·exact of_decide_eq_true (by simpa [Bg] using h)
 ·cases h
theorem v4.grow {w:AY}{S:Nat->Prop}{ρ:Bl}{h:List ae}(s:Bn w S ρ h)(m:List ae):Bn w S ρ (h++m) where
 i0:=s.i0
 obj l ob C hl:=by obtain⟨o,h1,h2⟩:=s.obj l ob C hl;exact⟨o,by rw[A6 (AF.1 h1).1];exact h1,h2⟩
 inj:=s.inj
 own l b C o hl ho hf:=by obtain⟨o',h1,_⟩:=s.obj l _ C hl;rw[A6 (AF.1 h1).1] at ho;exact s.own l b C o hl ho hf
theorem d2p {α:Type}(x:α): ∀n,(w8 x n).length=n:=by
 intro n
 induction n with
 |zero=>rfl
 |succ n ih=>simp[w8,ih]
theorem Rel.drawn {st:St}{a:Bi}{w:AY}{S:Nat->Prop}{ρ:Bl}(hr:Aw E st a w S ρ):Aw E st a {w with drawn:=w.drawn+1} S ρ:=by have k:n8 w S ρ st.h {w with drawn:=w.drawn+1} S ρ st.h []:=(n8.refl hr.co).world rfl rfl ⟨rfl,Nat.le_succ _⟩ rfl;exact hr.step k AP (x:= .any) (v:= .bool AL) (.any _)
theorem c4p {id:Nat}{n:Nat}{ds:List cz}{u0:List jm}(hm:P.follows .mixedOrders=AL)(Ga:Bo P)(LA:GZ P A id ops ops.toList 0=AC u0)(hd:R3 ops.toList u0=AC (n,ds))
 {Q:Lv->St->Prop} {st:St} (h:ev (AM P A ro E) (.draw n ds) Q st):Y6 P ro E (.region id ops AL) Q st:=by
 intro a w S ρ hr;obtain⟨h1,h2,h3,h4⟩:=b4d LA hd;refine wpIn_region_any hm ?_;rw[<-h1];simp only[ev] at h;have hr:=hr.drawn;have hb:E.base<=az st.h:=by rw[cv];exact hr.len
 refine d4h Ga (K:=Q .normal) h2 hb (fun st a w S ρ hk hr=>⟨.normal,st,S,ρ,rfl,hk,hr⟩) _ ds _ _ a _ S ρ rfl (by rw[h1];exact h3) h ?_ fun d hd ha=> ?_
 ·refine⟨hr.ts,hr.ds,?_,hr.ext,hr.v9,?_⟩
  ·show Bn _ S ρ (ba st.h _);rw[fi];exact hr.co.grow _
  ·show E.base<=(ba st.h _).length;rw[fi,BM];have:=hr.len;omega
 ·refine⟨hr.co.fresh (by rw[cv];omega),?_⟩;show _<(ba st.h _).length;rw[fi,cv,BM,d2p];have:=h4 d hd ha;omega
end
section
variable {P:Program} {A:t7} {ro:Option Nat} {E:x4} {st:St} {a:Bi} {w:AY} {S:Nat->Prop} {ρ:Bl} {Q:Exit->Bi->AY->Prop}
theorem c0w (hl:Bo P){r:Nat}{ops:Array A4}{i:Nat}{o:A4}{io:jm}{K:St->Prop}{next:Bi->AY->Prop}(hc:KZ P A r ops i o=AC io)(hk:MR (AM P A ro E) io st K)(hr:Aw E st a w S ρ)
 (hn: ∀st' a' w' S' ρ',K st'->Aw E st' a' w' S' ρ'->next a' w'):
 if AH o (Au ops a.tmps) then o.wpIn (ri ro) 0 P a w next Q else (∀f,o.about P w a.eval=AC f->(ri ro).fn f)/\next (a.put o.dst Ai) w:=by
 simp only[KZ,AG,AB] at hc;obtain⟨op,bc,hc⟩:=hc;have run: ∀{st:St},Aw E st a w S ρ->MQ (AM P A ro E) ⟨o.dst,AP,op⟩ st K->o.wpIn (ri ro) 0 P a w next Q:=by intro st hr hk;refine T4 hl bc hk hr fun x h' pg v w' S' ρ' hk hc hv=> ?_;exact hn _ _ _ S' ρ' hk (hr.step hc o.dst hv)
 have NP: ∀{st:St},Aw E st a w S ρ->K (st.put o.dst .lc)->(∀f,o.about P w a.eval=AC f->(ri ro).fn f)/\next (a.put o.dst Ai) w:=
  fun hr hk=>⟨fun f _=>MT ro f,hn _ _ _ S ρ hk (hr.put o.dst .lc)⟩
 split at hc
 ·rename_i hg;simp at hc;subst hc;have:AH o (Au ops a.tmps)=AL:=by simp[AH,hg]
  rw[if_pos this];exact run hr hk
 ·rename_i j want hg;simp only[AB,AO,AD] at hc;obtain⟨oj,hj,d,hd,rfl⟩:=hc;simp only[MR] at hk;have hy:=b1v (tmps:=a.tmps) hj hd;split at hk
  ·rename_i b hb;obtain⟨k9,hbt⟩:=hr.VB hb;rw[hbt] at hy;simp only at hy;cases b with
   |true=>
    simp only at hk;cases want with
    |true=>rw[if_pos (by simp[AH,hg,hy])];exact run k9 hk
    |false=>rw[if_neg (by simp[AH,hg,hy])];exact NP k9 hk
   |false=>
    simp only at hk;cases want with
    |true=>rw[if_neg (by simp[AH,hg,hy])];exact NP k9 hk
    |false=>rw[if_pos (by simp[AH,hg,hy])];exact run k9 hk
  ·rename_i hb;rw[cy] at hb;have jv:d<a.tmps.size:=by rw[<-hr.ts.1];exact (AF.1 hb).1
   have hv:=hr.ts.2 d _ a.tmps[d] hb (by simp[jv]);have hu:a.tmps[d]? =AC Ai:=by generalize hx:a.tmps[d]=v at hv;cases hv;rw[A3 jv,hx]
   rw[hu] at hy;have hy:Au ops a.tmps j=AP:=hy;rw[if_neg (by simp[AH,hg,hy])];exact NP hr hk
  ·exact hk.elim
theorem c1b (hl:Bo P){r:Nat}{ops:Array A4}{K:St->Prop}(hn: ∀st' a' w' S' ρ',K st'->Aw E st' a' w' S' ρ'->Q .normal a' w'): ∀(l:List A4) (i:Nat) (l':List jm),ops.toList.drop i=l->GZ P A r ops l i=AC l'->
 ∀{st:St} {a:Bi} {w:AY} {S:Nat->Prop} {ρ:Bl},R9 (AM P A ro E) l' st K->Aw E st a w S ρ->Bk (ri ro) 0 P ops Q (List.range' i l.length) a w:=by
 intro l
 induction l with
 |nil=>intro i l' hd hc st a w S ρ hk hr;simp[GZ] at hc;subst hc;simp only[List.length_nil,List.range'_zero,Bk];exact hn _ _ _ _ _ hk hr
 |cons o l ih=>
  intro i l' hd hc st a w S ρ hk hr;simp only[GZ,AG,AB,AO,AD] at hc;obtain⟨io,hio,ls,hls,rfl⟩:=hc;have hoi:ops[i]? =AC o:=by
   have:(ops.toList.drop i)[0]? =AC o:=by rw[hd];rfl
   simpa using this
  have GE:ops.toList.drop (i+1)=l:=by rw[<-List.drop_drop,hd];rfl
  simp only[List.length_cons,List.range'_succ,Bk,hoi];exact c0w hl hio hk hr fun st' a' w' S' ρ' mn k9=>ih (i+1) ls GE hls mn k9
theorem K5 (hm:P.follows .mixedOrders=AL)(Ga:Bo P): ∀(c:Bd) (ic:gy),comp P A c=AC ic-> ∀{Q:Lv->St->Prop} {st:St},ev (AM P A ro E) ic Q st->Y6 P ro E c Q st:=by
 intro c
 induction c with
 |skip=>intro ic hc Q st h a w S ρ hr;simp[comp] at hc;subst hc;exact wpIn_skip ⟨.normal,st,S,ρ,rfl,h,hr⟩
 |region id ops draw=>
  intro ic hc Q st h a w S ρ hr;cases draw with
  |false=>simp[comp,AB] at hc;obtain⟨l,hl,rfl⟩:=hc;refine wpIn_region ?_;rw[List.range_eq_range'];have:=c1b Ga (P:=P) (A:=A) (ro:=ro) (E:=E) (Q:=c7n E Q) (ops:=ops) (K:=fun st=>Q .normal st) (fun st' a' w' S' ρ' hk k9=>⟨.normal,st',S',ρ',rfl,hk,k9⟩) ops.toList 0 l rfl hl h hr;simpa using this
  |true=>simp[comp,AB] at hc;obtain⟨l,hl,n,ds,hd,rfl⟩:=hc;exact c4p hm Ga hl hd h a w S ρ hr
 |seq x y ihx ihy=>
  intro ic hc Q st h a w S ρ hr;simp[comp,AB] at hc;obtain⟨ix,hx,iy,hy,rfl⟩:=hc;refine wpIn_seq (Ap (ihx ix hx h a w S ρ hr) fun e a' w' hp=> ?_);obtain⟨lv,st',S',ρ',h1,h2,h3⟩:=hp;cases lv with
  |normal=>cases e<;>simp[qc] at h1;exact ihy iy hy h2 a' w' S' ρ' h3
  |exit i=>cases e<;>simp[qc] at h1;subst h1;exact⟨_,st',S',ρ',rfl,h2,h3⟩
  |ret=>cases e<;>simp[qc] at h1;exact⟨_,st',S',ρ',rfl,h2,h3⟩
 |cond cx x y ihx ihy=>
  intro ic hc Q st h a w S ρ hr;simp[comp,AB] at hc;obtain⟨c',qq,ix,hx,iy,hy,rfl⟩:=hc;simp only[ev] at h;split at h
  ·rename_i b hb;have hv:=dm hr.ts qq;rw[hb] at hv;have Qi: ∀b',b=b'->Aw E (st.XX c' b') a w S ρ:=by
    rintro b' rfl;cases c' with
    |c v=>exact hr
    |t j=>
     simp only[Ak] at hb;cases hg:ax st.ts j with
     |none=>simp[hg] at hb
     |some v=>simp[hg] at hb;subst hb;exact (hr.VB hg).1
   cases b with
   |true=>exact wpIn_cond_true hv.bool (ihx ix hx h a w S ρ (Qi _ rfl))
   |false=>exact wpIn_cond_false hv.bool (ihy iy hy h a w S ρ (Qi _ rfl))
  ·exact h.elim
 |block id x ih=>
  intro ic hc Q st h a w S ρ hr;simp[comp,AB] at hc;obtain⟨ix,hx,rfl⟩:=hc;refine wpIn_block (Ap (ih ix hx h a w S ρ hr) fun e a' w' hp=> ?_);obtain⟨lv,st',S',ρ',h1,h2,h3⟩:=hp;cases lv with
  |normal=>cases e<;>simp[qc] at h1;exact⟨_,st',S',ρ',rfl,h2,h3⟩
  |exit i=>
   cases e<;>simp[qc] at h1;subst h1;simp only[RY] at h2;simp only[Exit.inBlock];split at h2
   ·rename_i hi;have:=BI hi;subst this;rw[if_pos rfl];exact⟨_,st',S',ρ',rfl,h2,h3⟩
   ·rename_i hi;rw[if_neg (fun e=>by subst e;simp at hi)];exact⟨_,st',S',ρ',rfl,h2,h3⟩
  |ret=>cases e<;>simp[qc] at h1;exact⟨_,st',S',ρ',rfl,h2,h3⟩
 |loop x ih=>intro ic hc Q st h;simp[comp,AB] at hc;obtain⟨ix,hx,rfl⟩:=hc;exact h x hx
 |rangeFunc f ps x y ihx ihy=>intro ic hc Q st h;simp[comp,AB] at hc;obtain⟨f',hf,ix,hx,iy,hy,rfl⟩:=hc;exact h f ps x y hf rfl hx hy
 |exit id=>intro ic hc Q st h a w S ρ hr;simp[comp] at hc;subst hc;exact wpIn_exit ⟨_,st,S,ρ,rfl,h,hr⟩
 |scope x ih=>intro ic hc Q st h a w S ρ hr;simp[comp,AB] at hc;obtain⟨ix,hx,rfl⟩:=hc;obtain⟨HD,h⟩:(ro=AP)/\_:=h;subst HD;have h1:=ih ix hx h a w S ρ hr;refine wpIn_wide.2 (wp_scope_straight (wp_mono (wpIn_wide.1 h1) fun e a' w' hp=> ?_));obtain⟨lv,st',S',ρ',h1,h2,h3⟩:=hp;cases e<;>simp[qc] at h1<;>exact⟨lv,st',S',ρ',by simp[qc,h1],h2,h3⟩
 |label l=>intro ic hc Q st h a w S ρ hr;simp[comp] at hc;subst hc;exact wpIn_label ⟨.normal,st,S,ρ,rfl,h,hr⟩
 |goto l=>intro ic hc;simp[comp] at hc
 |ret=>intro ic hc Q st h a w S ρ hr;simp[comp] at hc;subst hc;exact wpIn_ret ⟨_,st,S,ρ,rfl,h,hr⟩
 |refuse why=>intro ic hc;simp[comp] at hc
end
def yj (S:We)(st:St):List ym->(List AV->Prop)->Prop
 |[],K=>K []
 | .t i::rs,K=>yj S st rs fun vs=>K (Ak st.ts (.t i)::vs)
 | .c i ag::rs,K=>Gl S st.h (Ak st.ts (.t i)) ag fun v=>yj S st rs fun vs=>K (v::vs)
def wc:List AV->AV
 |[v]=>v
 |vs=> .tuple vs
def ab (x y:AV):Prop:= ∀(w:AY) (S:Nat->Prop) (ρ:Bl) (v:Ae),VR w S ρ x v->VR w S ρ y v
theorem ab.refl (x:AV):ab x x:=fun _ _ _ _ h=>h
theorem ab.sl {sz n:Nat}{e e':Nat->List DV}(h: ∀i,i<n->e i=e' i):ab (.d (.sl sz n e)) (.d (.sl sz n e')):=by
 intro w S ρ v hv;cases hv with
 |d hd=>
  cases hd with
  |VO sz e a cap=>exact .d (.VO _ _ _ _)
  |sl sz n e b off cap f hb hc hl hv hr=>exact .d (.sl sz n e' b off cap f hb hc (fun i hi=>by rw[<-h i hi];exact hl i hi) hv (fun i hi j x hx=>hr i hi j x (by rw[h i hi];exact hx)))
theorem ab.int {k:Av}{x y:IX}(h:x.val=y.val):ab (.d (.int k x)) (.d (.int k y)):=by intro w S ρ v hv;rw[hv.int,h];exact .d (.int k y)
theorem ab.cells {cs ds:List AV}(hl:cs.length=ds.length)(h: ∀(i:Nat) (x y:AV),cs[i]? =AC x->ds[i]? =AC y->ab x y){w:AY}{S:Nat->Prop}{ρ:Bl}{vs:Array Ae}
 (hv: ∀(i:Nat) (x:AV) (v:Ae),cs[i]? =AC x->vs[i]? =AC v->VR w S ρ x v): ∀(i:Nat) (x:AV) (v:Ae),ds[i]? =AC x->vs[i]? =AC v->VR w S ρ x v:=by
 intro i y v hy hu;have hlt:=(AF.1 hy).1;have hx:cs[i]? =AC (cs[i]'(by omega)):=List.getElem?_eq_getElem _;exact h i _ y hx hy w S ρ v (hv i _ v hx hu)
theorem ab.agg {cs ds:List AV}(hl:cs.length=ds.length)(h: ∀(i:Nat) (x y:AV),cs[i]? =AC x->ds[i]? =AC y->ab x y):ab (.agg cs) (.agg ds):=by
 intro w S ρ v hv;cases hv with
 |agg _ vs h1 h2=>exact .agg ds vs (by omega) (ab.cells hl h h2)
theorem ab.tuple {cs ds:List AV}(hl:cs.length=ds.length)(h: ∀(i:Nat) (x y:AV),cs[i]? =AC x->ds[i]? =AC y->ab x y):ab (.tuple cs) (.tuple ds):=by
 intro w S ρ v hv;cases hv with
 |tuple _ vs h1 h2=>exact .tuple ds vs (by omega) (ab.cells hl h h2)
inductive fl:List AV->List AV->Prop
 |nil:fl [] []
 |cons {x y:AV} {xs ys:List AV} (h:ab x y) (hs:fl xs ys):fl (x::xs) (y::ys)
theorem fl.get {xs ys:List AV}(h:fl xs ys):xs.length=ys.length/\ ∀(i:Nat) (x y:AV),xs[i]? =AC x->ys[i]? =AC y->ab x y:=by
 induction h with
 |nil=>simp
 |cons h hs ih=>
  refine⟨by simp[ih.1],fun i x y hx hy=> ?_⟩;cases i with
  |zero=>simp at hx hy;subst hx;subst hy;exact h
  |succ i=>simp at hx hy;exact ih.2 i x y hx hy
theorem fl.agg {xs ys:List AV}(h:fl xs ys):ab (.agg xs) (.agg ys):=ab.agg h.get.1 h.get.2
theorem fl.tuple {xs ys:List AV}(h:fl xs ys):ab (.tuple xs) (.tuple ys):=ab.tuple h.get.1 h.get.2
section
variable {P:Program} {A:t7} {ro:Option Nat} {E:x4} {st:St} {a:Bi} {w:AY} {S:Nat->Prop} {ρ:Bl}
theorem c3z {pa:Addr}:(Bq (.pointer (AC pa))).run P w= .ok pa w:=rfl
theorem e3h {rs:List ResultVar}: ∀{wn:List ym} {K:List AV->Prop},(rs.mapM fun| .tmp t=>AC (.t t)| .cell a t=>do pure (.c a (<-IK P t)))=AC wn->Aw E st a w S ρ->yj (AM P A ro E) st wn K->
 ∃xs vs,K xs/\xs.length=vs.length/\(∀(i:Nat) (x:AV) (v:Ae),xs[i]? =AC x->vs[i]? =AC v->VR w S ρ x v)/\
  (rs.mapM fun| .tmp t=>pure (a.tmps.getD t Ai)| .cell x t=>do loadVar t (<-Bq (a.tmps.getD x Ai)):Sem (List Ae)).run P w= .ok vs w:=by
 induction rs with
 |nil=>intro wn K h hr hk;simp at h;subst h;exact⟨[],[],hk,rfl,by simp,by simp⟩
 |cons r rs ih=>
  intro wn K h hr hk;simp only[A2,AG,AB,AO,AD] at h;obtain⟨ir,Jg,irs',PN,rfl⟩:=h;cases r with
  |tmp t=>
   simp at Jg;subst Jg;simp only[yj] at hk;obtain⟨xs,vs,hk,hl,hv,aj⟩:=ih PN hr hk;have h0:VR w S ρ (Ak st.ts (.t t)) (a.tmps.getD t Ai):=dm (X:= .tmp t) hr.ts rfl;refine⟨_,a.tmps.getD t Ai::vs,hk,by simp[hl],fun i x v hx fc=> ?_,?_⟩
   ·cases i with
    |zero=>simp only[BB,AD] at hx fc;subst hx;subst fc;exact h0
    |succ i=>simp only[Am] at hx fc;exact hv i x v hx fc
   ·simp only[A2,An,BE,Ab,aj]
  |cell x t=>
   simp only[AB,AD] at Jg;obtain⟨ag,kr,rfl⟩:=Jg;simp only[yj] at hk;have h0:VR w S ρ (Ak st.ts (.t x)) (a.tmps.getD x Ai):=dm (X:= .tmp x) hr.ts rfl;obtain⟨y,v,pa,hp,PY,pd,hk⟩:=c1s hr.co h0 kr hk;obtain⟨xs,vs,hk,hl,hv,aj⟩:=ih PN hr hk;refine⟨_,v::vs,hk,by simp[hl],fun i z u hz hu=> ?_,?_⟩
   ·cases i with
    |zero=>simp only[BB,AD] at hz hu;subst hz;subst hu;exact pd
    |succ i=>simp only[Am] at hz hu;exact hv i z u hz hu
   ·simp only[A2,An,hp,c3z,BE,Ab,PY,aj]
theorem b7e {fn:Br}{wn:List ym}{K:List AV->Prop}(h:MJ P fn=AC wn)(hr:Aw E st a w S ρ)(hk:yj (AM P A ro E) st wn K):
 ∃xs v,K xs/\(results fn a.tmps).run P w= .ok v w/\VR w S ρ (wc xs) v/\
  ∃vs:List Ae,xs.length=vs.length/\(∀(i:Nat) (x:AV) (v:Ae),xs[i]? =AC x->vs[i]? =AC v->VR w S ρ x v)/\v=(if h:vs.toArray.size=1 then vs.toArray[0] else .tuple vs.toArray):=by
 obtain⟨xs,vs,hk,hl,hv,aj⟩:=e3h h hr hk;refine⟨xs,_,hk,?_,?_,vs,hl,hv,rfl⟩
 ·have:(fn.results.mapM fun| .tmp t=>pure (a.tmps.getD t Ai)| .cell x t=>do loadVar t (<-Bq (a.tmps.getD x Ai)):Sem (Array Ae)).run P w= .ok vs.toArray w:=by rw[Array.mapM_eq_mapM_toList];simp only[Sem.run_map,aj,Ab]
  unfold results;simp only[An];generalize hm:(Array.mapM _ fn.results:Sem (Array Ae))=m;have h2:m.run P w= .ok vs.toArray w:=by rw[<-hm];exact this
  rw[h2];rfl
 ·match xs,vs,hl,hv with
  |[],[],_,_=>exact .tuple [] #[] rfl (by simp)
  |[x],[v],_,hv=>simpa [wc] using hv 0 x v (by simp) (by simp)
  |x::y::xs,u::v::vs,hl,hv=>
   have: ¬(u::v::vs).toArray.size=1:=by simp
   rw[dif_neg this];exact .tuple _ _ (by simpa using hl) (fun i x v hx fc=>hv i x v hx (by simpa using fc))
def d8h (Sg:We)(wn:List ym)(r:AV):Lv->St->Prop
 | .exit _,_=>False
 |_,st=>yj Sg st wn fun vs=>wu Sg st.h vs fun vs' _=>sd vs'=AL/\ab (wc vs') r
def y4 (args:List AV)(n:Nat):List AV:=ba args (w8 .lc n)
theorem c2q {args:List AV}{vs:Array Ae}{h:List ae}{n nt:Nat}(hs:Bn w S ρ h)(hv:Vw w S ρ args vs)(hn:nt=vs.size+n):
 Aw ⟨w,S,ρ,h.length,[]⟩ ⟨y4 args n,h,[]⟩ {tmps:=vs++BW (nt-vs.size) Ai,defers:=[]} w S ρ where
 ts:=by
  rw[y4,fi,L5];refine Vw.app hv ⟨by simp;omega,fun i x v hx hv=> ?_⟩;rw[List.getElem?_replicate] at hx;rw[A7] at hv;split at hx
  ·cases hx;split at hv
   ·cases hv;exact .lc
   ·cases hv
  ·cases hx
 ds:=IH.nil _ _ _ _ _
 co:=hs
 ext:= .refl _ _ _
 v9:=fun _ _ _=>rfl
 len:=AQ _
theorem c0r {vs:List AV}(hf:sd vs=AL){us:List Ae}(hl:vs.length=us.length)(hv: ∀(i:Nat) (x:AV) (v:Ae),vs[i]? =AC x->us[i]? =AC v->VR w S ρ x v):
 VR w S my (wc vs) (if h:us.toArray.size=1 then us.toArray[0] else .tuple us.toArray):=by
 have fc:=Sl hf hv
 match vs,us,hl,fc with
 |[],[],_,_=>exact .tuple [] #[] rfl (by simp)
 |[x],[v],_,hv=>simpa [wc] using hv 0 x v (by simp) (by simp)
 |x::y::xs,u::v::vs,hl,hv=>
  have: ¬(u::v::vs).toArray.size=1:=by simp
  rw[dif_neg this];exact .tuple _ _ (by simpa using hl) (fun i x v hx fc=>hv i x v hx (by simpa using fc))
theorem Rel.take {D:Nat}{ds:List Bh}(hr:Aw E st a w S ρ)(hm:JI w S ρ E.w.heap.size D)(hds:IH (w.putObj D (.deferred AP)) S ρ E.w.heap.size E.ds ds):
 Aw E st {a with defers:=ds} (w.putObj D (.deferred AP)) S ρ:=by
 have ck: ∀b,b≠D->(w.putObj D (.deferred AP)).heap[b]? =w.heap[b]? :=fun b hb=>Aj hb;have hS: ∀b,S b->(w.putObj D (.deferred AP)).heap[b]? =w.heap[b]? :=fun b hb=>ck b fun e=>hm.YN (e▸hb);have bl:(w.putObj D (.deferred AP)).heap.size=w.heap.size:=by simp[BY]
 refine⟨⟨hr.ts.1,fun i x v hx hv=>(hr.ts.2 i x v hx hv).mono (fun _ h=>h) hS (fun _ _ h=>h)⟩,hds,⟨fun b hb=>by rw[bl];exact hr.co.i0 b hb,fun l ob C hl=> ?_,hr.co.inj,hr.co.own⟩,
  ⟨hr.ext.os,hr.ext.tape,hr.ext.output,by rw[bl];exact hr.ext.size,hr.ext.mono,fun b hb=>(hS b (hr.ext.mono b hb)).trans (hr.ext.cell b hb),hr.ext.news,fun b hb hn=>(ck b fun e=> ?_).trans (hr.ext.frame b hb hn),hr.ext.owned⟩,hr.v9,hr.len⟩
 ·obtain⟨oo,h1,h2⟩:=hr.co.obj l ob C hl;refine⟨oo,h1,?_⟩;cases ob with
  |none=>exact h2
  |some b=>exact fv.mono (fun _ h=>h) hS (fun _ _ h=>h) (ck b fun e=>hm.out l C (e▸hl)) h2
 ·have:=hm.new;omega
theorem d1v {fn:Br}{R:Bs->AY->Prop}(hE:E.ds=[]): ∀(Ds:List Nat) {a:Bi} {w:AY},Aw E st a w S ρ->a.defers=Ds.map (fun D=>{target:= .collected D,args:= #[]})->(∀D,D∈Ds->JI w S ρ E.w.heap.size D)->Ds.Pairwise (· ≠ ·)->
 (∀(a':Bi) (w':AY),Aw E st a' w' S ρ->a'.tmps=a.tmps-> ∃v,(results fn a'.tmps).run P w'= .ok v w'/\R (.returned v) w')->BN Ah 0 P fn a.tmps R a.defers .returning w:=by
 intro Ds
 induction Ds with
 |nil=>intro a w hr hd _ _ fin;rw[hd];obtain⟨v,h1,h2⟩:=fin a w hr rfl;exact⟨v,h1,h2⟩
 |cons D Ds ih=>
  intro a w hr hd hm hp fin;have hp:=AJ.1 hp;have hmD:=hm D (by simp);have hlt:D<w.heap.size:=(AI.1 hmD.obj).1;have hms: ∀D',D'∈Ds->JI (w.putObj D (.deferred AP)) S ρ E.w.heap.size D':=fun D' hD'=>by have h1:=hm D' (by simp[hD']);exact⟨(Aj (A5 (hp.1 D' hD'))).trans h1.obj,h1.new,h1.out,h1.YN⟩
  have k9:Aw E st {a with defers:=Ds.map (fun D=>{target:= .collected D,args:= #[]})} (w.putObj D (.deferred AP)) S ρ:=hr.take hmD ⟨Ds,by rw[hE];simp,hms,hp.2⟩;have:=ih k9 rfl hms hp.2 fin;rw[hd];exact⟨by simp,.inl ⟨D,_,rfl,run_takeDeferred hmD.obj,this⟩⟩
theorem Rel.leaves {fn:Br}{R:Bs->AY->Prop}(hE:E.ds=[])(hr:Aw E st a w S ρ)(fin: ∀(a':Bi) (w':AY),Aw E st a' w' S ρ->a'.tmps=a.tmps-> ∃v,(results fn a'.tmps).run P w'= .ok v w'/\R (.returned v) w'):
 BN Ah 0 P fn a.tmps R a.defers .returning w:=by
 obtain⟨Ds,h1,h2,h3⟩:=hr.ds;exact d1v hE Ds hr (by rw[h1,hE];simp) h2 h3 fin
theorem b1p {f:BS}{fn:Br}{c:Bd}{ic:gy}{wn:List ym}{args:List AV}{r:AV}{n:Nat}(hm:P.follows .mixedOrders=AL)(dp:Bo P)(hf:P.funcs[f]? =AC fn)(hb:fn.body=AC c)(iw:fn.name≠ "runtime.NumGoroutine")
 (A:t7) (hc:comp P A c=AC ic) (cq:MJ P fn=AC wn) (hn:fn.ntmps=args.length+n)
 (h: ∀(E:x4) (Sg:We),E.base=0->Sg=AM P A AP E->ev Sg ic (d8h Sg wn r) ⟨y4 args n,[],[]⟩):au P AR f args r:=by
 refine⟨⟨fn,hf,iw,by rw[hb];simp⟩,fun w S vs hS hv=> ?_⟩;have hs:Bn w S my []:=⟨hS,fun _ _ _ h=>(by cases h),fun _ _ _ _ _ h=>(by cases h),fun _ _ _ _ h=>(by cases h)⟩;have hr:=c2q (h:=[]) (n:=n) (nt:=fn.ntmps) hs hv (by rw[hn,hv.1]);have PD:=K5 (ro:=AP) hm dp c ic hc (h ⟨w,S,my,0,[]⟩ _ rfl rfl) _ w S my hr;refine BP (n:=0)|>.1 (BX hf hb trivial (Ap PD fun e a' w' hp=> ?_))
 obtain⟨lv,st',S',ρ',h1,h2,h3⟩:=hp;have key: ∀{lv:Lv},(∀i,lv≠ .exit i)->d8h (AM P A AP ⟨w,S,my,0,[]⟩) wn r lv st'->
  BN Ah 0 P fn a'.tmps (fun e w'=> ∃v1 S',e= .returned v1/\VR w' S' my r v1/\(∀b,S' b->(AR=AR/\S b)\/(w.heap.size<=b/\b<w'.heap.size))/\H5 w w') a'.defers .returning w':=by
  intro lv ck hq;have hq:yj (AM P A AP ⟨w,S,my,0,[]⟩) st' wn fun vs=>wu (AM P A AP ⟨w,S,my,0,[]⟩) st'.h vs fun vs' _=>sd vs'=AL/\ab (wc vs') r:=by
   cases lv with
   |exit i=>exact absurd rfl (ck i)
   |normal=>exact hq
   |ret=>exact hq
  refine h3.leaves rfl fun a2 w2 h3 _=> ?_;obtain⟨xs,v,hk,aj,_,us,hl,fc,rfl⟩:=b7e cq h3 hq;obtain⟨lg,h',S2,⟨vo,Hm⟩,k,qt,jh⟩:=Vm h3.co hl fc hk;have e2:=h3.ext.trans k.W0.ext;refine⟨_,aj,_,S2,rfl,Hm _ _ _ _ (c0r vo qt jh),fun b hb=> ?_,⟨h3.ext.os,h3.ext.tape,h3.ext.output,h3.ext.size,fun b hb=>h3.ext.frame b hb (fun l C h=>by cases h)⟩⟩;rcases e2.news b hb with h|h|⟨l,C,h⟩
  ·exact .inl ⟨rfl,h⟩
  ·exact .inr ⟨h,k.co.i0 b hb⟩
  ·cases h
 cases lv with
 |exit i=>exact h2.elim
 |normal=>cases e<;>simp[qc] at h1;exact key (by simp) h2
 |ret=>cases e<;>simp[qc] at h1;exact key (by simp) h2
def Ou (Sg:We)(wn:List ym)(base:Nat)(K:List Nat->AV->List ae->Prop):Lv->St->Prop
 | .exit _,_=>False
 |_,st=>yj Sg st wn fun vs=> ∃pg,(∀l,l<base->l∈st.mv->l∈pg)/\K pg (wc vs) st.h
theorem b0s {f:BS}{fn:Br}{c:Bd}{ic:gy}{wn:List ym}{args:List AV}{h0:List ae}{K:List Nat->AV->List ae->Prop}{n:Nat}(hm:P.follows .mixedOrders=AL)(dp:Bo P)(hf:P.funcs[f]? =AC fn)(hb:fn.body=AC c)(iw:fn.name≠ "runtime.NumGoroutine")
 (A:t7) (hc:comp P A c=AC ic) (cq:MJ P fn=AC wn) (hn:fn.ntmps=args.length+n)
 (h: ∀(E:x4) (Sg:We),E.base=h0.length->Sg=AM P A AP E->ev Sg ic (Ou Sg wn h0.length K) ⟨y4 args n,h0,[]⟩):ay P f args h0 K:=by
 refine⟨⟨fn,hf,iw,by rw[hb];simp⟩,fun w S ρ0 vs hs hv=> ?_⟩;have hr:=c2q (h:=h0) (n:=n) (nt:=fn.ntmps) hs hv (by rw[hn,hv.1]);have PD:=K5 (ro:=AP) hm dp c ic hc (h ⟨w,S,ρ0,h0.length,[]⟩ _ rfl rfl) _ w S ρ0 hr;refine BP (n:=0)|>.1 (BX hf hb trivial (Ap PD fun e a' w' hp=> ?_))
 obtain⟨lv,st',S',ρ',h1,h2,h3⟩:=hp;have key: ∀{lv:Lv},(∀i,lv≠ .exit i)->Ou (AM P A AP ⟨w,S,ρ0,h0.length,[]⟩) wn h0.length K lv st'->
  BN Ah 0 P fn a'.tmps (fun e w'=> ∃v x pg h' S' ρ',e= .returned v/\K pg x h'/\VR w' S' ρ' x v/\Bn w' S' ρ' h'/\Ext w S ρ0 w' S' ρ'/\h0.length<=h'.length/\ ∀l,l<h0.length->l∉pg->ρ' l=ρ0 l) a'.defers .returning w':=by
  intro lv ck hq;have hq:yj (AM P A AP ⟨w,S,ρ0,h0.length,[]⟩) st' wn fun vs=> ∃pg,(∀l,l<h0.length->l∈st'.mv->l∈pg)/\K pg (wc vs) st'.h:=by
   cases lv with
   |exit i=>exact absurd rfl (ck i)
   |normal=>exact hq
   |ret=>exact hq
  refine h3.leaves rfl fun a2 w2 h3 _=> ?_;obtain⟨xs,v,⟨pg,y3,hk⟩,aj,pd,_⟩:=b7e cq h3 hq;exact⟨_,aj,v,_,pg,st'.h,S',ρ',rfl,hk,pd,h3.co,h3.ext,h3.len,fun l hl hn=>h3.v9 l hl fun gm=>hn (y3 l hl gm)⟩
 cases lv with
 |exit i=>exact h2.elim
 |normal=>cases e<;>simp[qc] at h1;exact key (by simp) h2
 |ret=>cases e<;>simp[qc] at h1;exact key (by simp) h2
end
def Sa (S:We):Nat->gy->(Lv->St->Prop)->St->Prop
 |0,_,_,_=>False
 |m+1,c,Q,st=>ev S c (fun lv st'=>match lv with
  | .normal=>Sa S m c Q st'
  | .exit i=>Q (.exit i) st'
  | .ret=>Q .ret st') st
section
variable {P:Program} {A:t7} {ro:Option Nat} {E:x4} {st:St} {a:Bi} {w:AY} {S:Nat->Prop} {ρ:Bl} {Q:Lv->St->Prop}
theorem b2n (hm:P.follows .mixedOrders=AL)(dp:Bo P){m:Nat}{ic:gy}(h:Sa (AM P A ro E) m ic Q st):(AM P A ro E).loop ic Q st:=by
 intro c hc a w S ρ hr;refine wpIn_loop_rounds m ?_
 induction m generalizing st a w S ρ with
 |zero=>exact h.elim
 |succ m ih=>
  refine Ap (K5 hm dp c ic hc h a w S ρ hr) fun e a' w' hp=> ?_;obtain⟨lv,st',S',ρ',h1,h2,h3⟩:=hp;cases lv with
  |normal=>cases e<;>simp[qc] at h1;exact ih h2 a' w' S' ρ' h3
  |exit i=>cases e<;>simp[qc] at h1;subst h1;exact⟨_,st',S',ρ',rfl,h2,h3⟩
  |ret=>cases e<;>simp[qc] at h1;exact⟨_,st',S',ρ',rfl,h2,h3⟩
def Iw:List Nat->List AV->List AV->List AV
 |p::ps,v::vs,ts=>Iw ps vs (b8 ts p v)
 |_,_,ts=>ts
theorem d7l {ps:List Nat}: ∀{xs:List AV} {vs:List Ae} {ts:List AV} {tmps:Array Ae},xs.length=vs.length->ps.length=xs.length->(∀(i:Nat) (x:AV) (v:Ae),xs[i]? =AC x->vs[i]? =AC v->VR w S ρ x v)->Vw w S ρ ts tmps->
 Vw w S ρ (Iw ps xs ts) ((ps.zip vs).foldl (fun tmps (t,a)=>tmps.setIfInBounds t a) tmps):=by
 induction ps with
 |nil=>intro xs vs ts tmps _ _ _ h;simpa [Iw] using h
 |cons p ps ih=>
  intro xs vs ts tmps hl hp hv h
  match xs,vs,hl,hp with
  |x::xs,v::vs,hl,hp=>
   simp only[Iw,List.zip_cons_cons,List.foldl_cons];refine ih (by simpa using hl) (by simpa using hp) (fun i x v hx fc=>hv (i+1) x v (by simpa using hx) (by simpa using fc)) ⟨by simpa [fg] using h.1,fun i y u hy hu=> ?_⟩;rw[fg] at hy;by_cases e:i=p
   ·subst e;rw[BR] at hy;rw[Ay] at hu;simp at hy hu;obtain⟨_,rfl⟩:=hy;obtain⟨_,rfl⟩:=hu;exact hv 0 _ _ rfl rfl
   ·rw[AK (A5 e)] at hy;rw[Array.getElem?_setIfInBounds_ne (A5 e)] at hu;exact h.2 i y u hy hu
def b5b (l base:Nat)(K:List Nat->AV->List ae->Prop):Lv->St->Prop:=fun lv st=>
 l∉st.mv/\ ∃ts ps code,ax st.h l=AC (.loop .busy ts ps code)/\ ∃pg,(∀m,m<base->m∈st.mv->m∈pg)/\(match lv with
  | .normal=>K pg (.d (.bool AL)) (b8 st.h l (.loop .ready ts ps code))
  | .exit i=>K pg (.d (.bool AR)) (b8 st.h l (.loop (.done (.exit i)) ts ps code))
  | .ret=>K pg (.d (.bool AR)) (b8 st.h l (.loop (.done .ret) ts ps code)))
theorem Ti {h:List ae}(hs:Bn w S ρ h){l b C:Nat}(hρ:ρ l=AC (AC b,C)){s s':Wz}{ts:List AV}{ps:List Nat}{code:Bd->Bd->Prop}(hl:h[l]? =AC (.loop s ts ps code)):
 ∃r:Loop,w.heap[b]? =AC (.loop r)/\r.state=s.state/\r.pending=s.Wy/\r.params.toList=ps/\code r.assign r.body/\Vw w S ρ ts r.tmps/\
  n8 w S ρ h (w.putObj b (.loop {r with state:=s'.state,pending:=s'.Wy})) S ρ (h.set l (.loop s' ts ps code)) []:=by
 obtain⟨oo,h1,h2⟩:=hs.obj l _ C hρ;rw[hl] at h1;cases h1;obtain⟨r,h3,h4,h5,h6,h7,h8,h9⟩:=h2;have hlt:b<w.heap.size:=(AI.1 h3).1;have ck: ∀k,k≠b->(w.putObj b (.loop {r with state:=s'.state,pending:=s'.Wy})).heap[k]? =w.heap[k]? :=fun k hk=>Aj hk;have hS: ∀k,S k->(w.putObj b (.loop {r with state:=s'.state,pending:=s'.Wy})).heap[k]? =w.heap[k]? :=fun k hk=>ck k fun e=>hs.own l b C _ hρ hl rfl (e▸hk);refine⟨r,h3,h4,h5,h6,h7,⟨h8.symm,h9⟩,n8.set hs hρ hl rfl rfl ⟨rfl,AQ _⟩ rfl (by simp[BY]) ck ⟨_,World.putObj_heap_same hlt,rfl,rfl,h6,h7,h8,fun i x v hx hv=>(h9 i x v hx hv).mono (fun _ h=>h) hS (fun _ _ h=>h)⟩⟩
theorem Mr (hm:P.follows .mixedOrders=AL)(dp:Bo P){l:Nat}{args:List AV}{h:List ae}{K:List Nat->AV->List ae->Prop}{ts:List AV}{ps:List Nat}{code:Bd->Bd->Prop}{ia ib:gy}
 (hl:ax h l=AC (.loop .ready ts ps code)) (Px: ∀ca cb,code ca cb->comp P A ca=AC ia/\comp P A cb=AC ib) (vp:ps.length=args.length)
 (PD: ∀(ro:Option Nat) (E:x4) (Sg:We),Sg=AM P A ro E->ev Sg ia (fun lv st=>lv= .normal/\l∉st.mv/\ ∃ts ps code,ax st.h l=AC (.loop .ready ts ps code)/\
   ev Sg ib (b5b l h.length K) ⟨st.ts,b8 st.h l (.loop .busy ts ps code),st.mv⟩) ⟨Iw ps args ts,h,[]⟩):lh P l args h K:=by
 intro w S ρ vs b C hs hv hρ;rw[cy] at hl;have hlt:l<h.length:=(AF.1 hl).1;obtain⟨r,h3,h4,h5,h6,h7,h8,_⟩:=Ti (s':= .ready) hs hρ hl;obtain⟨c1,c2⟩:=Px _ _ h7;have hpsz:vs.size=r.params.size:=by rw[<-hv.1,<-vp,<-h6];simp
 refine⟨r.fn,_,r.assign,r.body,run_yield h3 hpsz,?_⟩;have wa:(Ah.inRound b)=ri (AC b):=rfl;have Gd:Vw w S ρ (Iw ps args ts) ((r.params.zip vs).foldl (fun tmps (t,a)=>tmps.setIfInBounds t a) r.tmps):=by have:=d7l (ps:=ps) (xs:=args) (vs:=vs.toList) (by simpa using hv.1) vp (fun i x v hx fc=>hv.2 i x v hx (by simpa using fc)) h8;subst h6;rw[<-Array.foldl_toList,Array.toList_zip];exact this
 have hr:Aw ⟨w,S,ρ,h.length,[]⟩ ⟨Iw ps args ts,h,[]⟩ {tmps:=(r.params.zip vs).foldl (fun tmps (t,a)=>tmps.setIfInBounds t a) r.tmps,defers:=[]} w S ρ:=
  ⟨Gd,IH.nil _ _ _ _ _,hs,.refl _ _ _,fun _ _ _=>rfl,AQ _⟩
 refine roundIn_of_wpIn trivial ?_;rw[wa];refine Ap (K5 (ro:=AC b) hm dp r.assign ia c1 (PD (AC b) ⟨w,S,ρ,h.length,[]⟩ _ rfl) _ w S ρ hr) fun e a1 w1 hp=> ?_;obtain⟨lv,st1,S1,ρ1,g1,⟨rfl,kp,ts1,ps1,code1,g2,g3⟩,g4⟩:=hp;cases e<;>simp[qc] at g1;rw[cy] at g2;have S7:ρ1 l=AC (AC b,C):=(g4.v9 l hlt kp).trans hρ;obtain⟨r1,q3,q4,q5,q6,q7,q8,W0⟩:=Ti (s':= .busy) g4.co S7 g2;have xw:({r1 with state:=Wz.busy.state,pending:=Wz.busy.Wy}:Loop)={r1 with state:= .busy}:=by cases r1;simp[Wz.Wy] at q5;subst q5;rfl
 rw[xw] at W0;refine⟨_,run_beginRound q3 q4,?_⟩;have mb:=g4.step W0 AP (x:= .any) (v:=Ai) (.any _);have g3:ev (AM P A (AC b) ⟨w,S,ρ,h.length,[]⟩) ib (b5b l h.length K) (((st1.ld (st1.h.set l (.loop .busy ts1 ps1 code1))).i5 []).put AP .any):=by rw[<-fg];exact g3
 refine Ap (K5 (ro:=AC b) hm dp r.body ib c2 g3 _ _ _ _ mb) fun e a2 w2 hp=> ?_;obtain⟨lv,st2,S2,ρ2,k1,⟨hnm2,ts2,ps2,code2,k2,pg,k3,k4⟩,k5⟩:=hp;rw[cy] at k2;simp only[fg] at k4;have Nr:ρ2 l=AC (AC b,C):=(k5.v9 l hlt hnm2).trans hρ;have fin: ∀(s':Wz) (bo:Bool) (jump:Option Bd),s'.state=(if jump.isNone then .ready else .done)->s'.Wy=jump->bo=jump.isNone->K pg (.d (.bool bo)) (st2.h.set l (.loop s' ts2 ps2 code2))->
  ∃v w',(Instr.endRound b jump).run P w2= .ok v w'/\(fun e w'=> ∃v x pg h' S' ρ',e=Ending.returned v/\K pg x h'/\VR w' S' ρ' x v/\Bn w' S' ρ' h'/\Ext w S ρ w' S' ρ'/\h.length<=h'.length/\ ∀l,l<h.length->l∉pg->ρ' l=ρ l) (.returned v) w':=by
  intro s' bo jump e1 e2 e3 hk;obtain⟨r2,m3,m4,m5,m6,m7,m8,IP⟩:=Ti (s':=s') k5.co Nr k2;rw[e1,e2] at IP;refine⟨_,_,run_endRound jump m3,_,_,pg,_,S2,ρ2,rfl,hk,?_,IP.co,k5.ext.trans IP.ext,Nat.le_trans k5.len IP.len,fun m nq y3=>k5.v9 m nq fun gm=>y3 (k3 m nq gm)⟩;rw[e3];exact .d (.bool _)
 cases lv with
 |normal=>cases e<;>simp[qc] at k1;exact fin .ready AL AP rfl rfl rfl k4
 |exit i=>cases e<;>simp[qc] at k1;subst k1;exact fin (.done (.exit _)) AR (AC (.exit _)) rfl rfl rfl k4
 |ret=>cases e<;>simp[qc] at k1;exact fin (.done .ret) AR (AC .ret) rfl rfl rfl k4
def TQ (l:Nat)(ts:List AV)(mv:List Nat)(Q:Lv->St->Prop)(pg:List Nat)(h:List ae):Prop:=
 l∉pg/\ ∃s tx ps code,ax h l=AC (.loop s tx ps code)/\(match s with
  | .ready=>Q .normal ((Bc ts (b8 h l (.loop (.VM .normal) tx ps code)) mv).i5 pg)
  | .done .ret=>Q .ret ((Bc ts (b8 h l (.loop (.VM .ret) tx ps code)) mv).i5 pg)
  | .done (.exit i)=>Q (.exit i) ((Bc ts (b8 h l (.loop (.VM (.exit i)) tx ps code)) mv).i5 pg)
  |_=>False)
theorem c3w (o:Obj):H5 w (w.alloc o):=⟨rfl,⟨rfl,AQ _⟩,rfl,by rw[BQ];omega,fun b hb=>by show (w.heap.push o)[b]? =_;rw[AX,if_neg (by omega)]⟩
theorem b9s {f:ah}{ps:List Nat}{ia ib:gy}{g:BS}{first cap:List AV}(hf:Ak st.ts f= .fn g first cap)
 (h:ay P g (Bp (ba first (ba [.yl (az st.h)] cap))) (ba st.h [.loop .ready st.ts ps (fun ca cb=>comp P A ca=AC ia/\comp P A cb=AC ib)]) fun pg _ h2=>TQ (az st.h) st.ts st.mv Q pg h2):
 (AM P A AP E).range f ps ia ib Q st:=by
 intro f' L8 a' b' hf' LJ ha' k7 a w S ρ hr;subst LJ;have h0:=dm hr.ts hf';rw[hf] at h0;generalize hv:a.eval f'=v at h0;cases h0 with
 |fn _ _ _ us cs nw h1 qt h2=>
  obtain⟨xr,fq⟩:=h;obtain⟨fn0,e1,e2,e3⟩:=xr;refine wpIn_rangeFunc (n:=0) fun fn SH=> ?_;rw[cv,fi,fi,fi] at fq;have bl:(w.alloc (.deferred (AC []))).heap.size=w.heap.size+1:=BQ _ _;have c1:=TN (S1:=fun _=>False) hr.co (fun _ h=>h.elim) (c3w (w:=w) (.deferred (AC [])));have ub:(fun b=>S b\/False)=S:=by funext b;simp
  rw[ub] at c1;have r1:=hr.step c1 AP (x:= .any) (v:=Ai) (.any _);have r1:Aw E st a (w.alloc (.deferred (AC []))) S ρ:=r1;have mk1:JI (w.alloc (.deferred (AC []))) S ρ E.w.heap.size w.heap.size:=⟨World.alloc_heap_new w _,hr.ext.size,fun l C hl=>by have:=hr.co.V2 hl;omega,fun hs=>by have:=hr.co.i0 _ hs;omega⟩;obtain⟨rec,pb⟩: ∃rec:Loop,rec={state:= .ready,pending:=AP,fn:=fn,tmps:=a.tmps,params:=L8,assign:=a',body:=b',defers:=w.heap.size}:=⟨_,rfl⟩;have c2:=n8.new (S:=S) (ρ:=ρ) (h:=st.h) r1.co (hr.co.fresh (AQ _)) (.loop rec)
   (.loop .ready st.ts L8.toList (fun ca cb=>comp P A ca=AC ia/\comp P A cb=AC ib)) 0 (fun w' gd=>⟨rec,by rw[gd,AX,if_pos rfl],by rw[pb];rfl,by rw[pb];rfl,by rw[pb],by rw[pb];exact⟨ha',k7⟩,by rw[pb];exact r1.ts.1.symm,fun i x v hx hv=>(r1.ts.2 i x v hx (by rw[pb] at hv;exact hv)).mono (fun _ h=>h) (fun b hb=>by
     rw[gd,AX,if_neg];have:=r1.co.i0 b hb;omega) (fun _ _ h=>h)⟩)
  have PC:(Instr.enterLoop fn a.tmps L8 a' b' (ri AP).round).run P w= .ok (w.heap.size+1,[{target:= .collected w.heap.size,args:= #[]}]) ((w.alloc (.deferred (AC []))).alloc (.loop rec)):=by rw[pb];exact run_enterLoop_outer _ _ _ _ _
  have Np:({(w.alloc (.deferred (AC []))) with heap:=(w.alloc (.deferred (AC []))).heap.push (.loop rec)}:AY)=(w.alloc (.deferred (AC []))).alloc (.loop rec):=rfl;rw[Np,bl] at c2;have hcf:(callFunc g (us++ #[.func (.yield (w.heap.size+1)) #[] #[]]++cs)).run P ((w.alloc (.deferred (AC []))).alloc (.loop rec))= .ok (.enter g (us++ #[.func (.yield (w.heap.size+1)) #[] #[]]++cs)) ((w.alloc (.deferred (AC []))).alloc (.loop rec)):=by simp[callFunc,e1,e2,e3]
  refine⟨w.heap.size+1,_,_,{target:= .fn (.func g) cs,args:=us++ #[.func (.yield (w.heap.size+1)) #[] #[]]},(w.alloc (.deferred (AC []))).alloc (.loop rec),g,us++ #[.func (.yield (w.heap.size+1)) #[] #[]]++cs,(w.alloc (.deferred (AC []))).alloc (.loop rec),PC,?_,fun f2 _=>trivial,?_,(fun hd=>by cases hd),?_⟩
  ·have hcst: ∀v,a.eval (.const v)=v:=fun _=>rfl;simp[resolve,hv,hcst,Deferred.ofValue]
  ·simp only[invoke];exact hcf
  ·have hlen:st.h.length<(st.h++[ae.loop .ready st.ts L8.toList (fun ca cb=>comp P A ca=AC ia/\comp P A cb=AC ib)]).length:=by simp
   have jo:Vw ((w.alloc (.deferred (AC []))).alloc (.loop rec)) S (fun m=>if m=st.h.length then AC (AC (w.heap.size+1),0) else ρ m) (Bp (first++([.yl st.h.length]++cap))) (us++ #[.func (.yield (w.heap.size+1)) #[] #[]]++cs):=by
    have mono: ∀{x:AV} {v:Ae},VR w S ρ x v->VR ((w.alloc (.deferred (AC []))).alloc (.loop rec)) S (fun m=>if m=st.h.length then AC (AC (w.heap.size+1),0) else ρ m) x v:=
     fun h=>h.mono (fun _ h=>h) (c1.ext.trans c2.ext).cell fun m p hp=>c2.v9 m p (by simp) hp
    rw[<-List.append_assoc];refine Vw.norm (Vw.app (Vw.app ⟨nw,fun i x v hx hv=>mono (h1 i x v hx hv)⟩ ⟨rfl,fun i x v hx hv=> ?_⟩) ⟨qt,fun i x v hx hv=>mono (h2 i x v hx hv)⟩);cases i with
    |zero=>simp at hx hv;subst hx;subst hv;exact .yl _ (w.heap.size+1) 0 (if_pos rfl)
    |succ i=>simp at hx
   refine (BP (n:=0-1)|>.2 (fq _ S _ _ c2.co jo)).mono fun e w3 hp=> ?_;obtain⟨v,x,pg,h3,S',ρ',rfl,⟨hnp,s,tx,ps0,code0,g1,g2⟩,gvr,gsim,gext,glen,glow⟩:=hp;rw[cy] at g1;have vt:ρ' st.h.length=AC (AC (w.heap.size+1),0):=(glow _ hlen hnp).trans (if_pos rfl);have JX: ∀m,m<st.h.length->m∉pg->ρ' m=ρ m:=fun m nq y3=>(glow m (by omega) y3).trans (if_neg (by omega));have fin: ∀(lv:Lv),s.Wy=lv.jump->s.state≠ .busy->Q lv ((Bc st.ts (b8 h3 st.h.length (.loop (.VM lv) tx ps0 code0)) st.mv).i5 pg)->
    ∃w4,(Instr.endLoop (w.heap.size+1)).run P w3= .ok lv.jump w4/\ ∀(ex:Exit),qc ex=AC lv->c7n E Q ex {a with defers:=[{target:= .collected w.heap.size,args:= #[]}]++a.defers} w4:=by
    intro lv Ni fj hq;obtain⟨r,m3,m4,m5,m6,m7,m8,W0⟩:=Ti (s':= .VM lv) gsim vt g1;have vq:({r with state:=(Wz.VM lv).state,pending:=(Wz.VM lv).Wy}:Loop)={r with state:= .exhausted}:=by
     have:(Wz.VM lv).Wy=r.pending:=by rw[m5,Ni];rfl
     rw[this];rfl
    rw[vq] at W0;have aj:(Instr.endLoop (w.heap.size+1)).run P w3= .ok lv.jump (w3.putObj (w.heap.size+1) (.loop {r with state:= .exhausted})):=by have e:r.pending=lv.jump:=m5.trans Ni;rw[run_endLoop (P:=P) m3 (by rw[m4];exact fj),e]
    refine⟨_,aj,fun ex hex=>⟨lv,_,S',ρ',hex,hq,?_⟩⟩;have tot:n8 w S ρ st.h (w3.putObj (w.heap.size+1) (.loop {r with state:= .exhausted})) S' ρ' (h3.set st.h.length (.loop (.VM lv) tx ps0 code0)) pg:=
     ⟨W0.co,by simp at glen⊢;omega,((c1.ext.trans c2.ext).trans gext).trans W0.ext,fun m p hmp hp=>by
       have hlt:m<st.h.length:=Nat.lt_of_not_le fun hle=>by rw[hr.co.fresh hle] at hp;cases hp
       rw[JX m hlt hmp];exact hp,JX⟩
    have rr:=hr.step tot AP (x:= .any) (v:=Ai) (.any _);rw[fg];have rr:Aw E ((Bc st.ts (h3.set st.h.length (.loop (.VM lv) tx ps0 code0)) st.mv).i5 pg) a (w3.putObj (w.heap.size+1) (.loop {r with state:= .exhausted})) S' ρ':=rr;refine⟨rr.ts,?_,rr.co,rr.ext,rr.v9,rr.len⟩;obtain⟨Ds,d1,d2,d3⟩:=rr.ds;obtain⟨Ds0,d4,d5,d6⟩:=hr.ds;have hDs:Ds=Ds0:=by
     have h5:=d1.symm.trans d4;have h6:=List.append_cancel_right h5;have inj: ∀(l1 l2:List Nat),l1.map (fun D=>({target:= .collected D,args:= #[]}:Bh))=l2.map (fun D=>({target:= .collected D,args:= #[]}:Bh))->l1=l2:=by
      intro l1
      induction l1 with
      |nil=>intro l2 h;cases l2 with|nil=>rfl|cons y l2=>simp at h
      |cons x l1 ih=>
       intro l2 h;cases l2 with
       |nil=>simp at h
       |cons y l2=>simp at h;rw[h.1,ih l2 (by simpa using h.2)]
     exact inj _ _ h6
    subst hDs;refine⟨w.heap.size::Ds,by rw[d1];rfl,fun D hD=> ?_,AJ.2 ⟨fun D hD=> ?_,d3⟩⟩
    ·rcases AE.1 hD with rfl|hD
     ·exact mk1.ext ((c2.ext.trans gext).trans W0.ext)
     ·exact d2 D hD
    ·have:=(AI.1 (d5 D hD).obj).1;omega
   split at g2
   ·obtain⟨w4,h4,h5⟩:=fin .normal rfl (by simp[Wz.state]) g2;exact⟨AP,w4,h4,h5 .normal rfl⟩
   ·obtain⟨w4,h4,h5⟩:=fin .ret rfl (by simp[Wz.state]) g2;exact⟨AC .ret,w4,h4,wpIn_ret (h5 .ret rfl)⟩
   ·obtain⟨w4,h4,h5⟩:=fin (.exit _) rfl (by simp[Wz.state]) g2;exact⟨AC (.exit _),w4,h4,wpIn_exit (h5 (.exit _) rfl)⟩
   ·exact g2.elim
end
end Go.Vf
