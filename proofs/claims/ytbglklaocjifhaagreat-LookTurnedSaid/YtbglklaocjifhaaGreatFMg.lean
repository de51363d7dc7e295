/- The executor's twentieth text. Conditions: none. -/
import Derived.Test.YtbglklaocjifhaaGreatFMd
import Derived.Scope
import Derived.LoopNIn
open Go.Vf.IOp renaming opds->AA,kl->Au
open Option renaming bind_eq_some_iff->AB,some->AC,bind_eq_bind->AG,pure_def->AP,none->AQ,map_some->Ay,getD_some->BN
open Option.some renaming injEq->AD
open List renaming mem_cons->AE,getElem?_eq_some_iff->AF,pairwise_cons->AJ,getElem?_set_ne->AK,mem_cons_of_mem->AO,mem_append_left->AU,all_eq_true->AW,mem_append->Aa,getElem?_cons_succ->An,set_getElem_self->Ap,mem_range->At,mem_filter->A3,mapM_cons->A4,getElem?_append_left->A8,set_eq_of_length_le->BB,set_comm->BC,getElem?_cons_zero->BD,mem_map->BE,mem_append_right->BH,pairwise_append->BL,length_append->BO,getElem?_set->BU,any_eq_true->BX,map_cons->Bb
open Go.Region renaming wanted->AH,ready->BA
open Array renaming getElem?_eq_some_iff->AI,getElem?_push->AY,getElem?_toList->Ae,getD_eq_getD_getElem?->Ah,getElem?_setIfInBounds->Az,getElem?_eq_getElem->A5,getElem?_replicate->A9,range->BI,all_eq_true'->BM,replicate->BY,ext'->Bg
open Bool renaming true->AM,false->AS,and_eq_true->AX,or_eq_true->Ab,not_eq_true'->Ad,not_true->Bc,false_or->Bd
open Go.Vf renaming std->AN,opd->Al,Rel->Ax,Rho->Bn,Sim->Bp,OkP->Bq
open Nat renaming le_refl->AR,le_of_ble_eq_true->As,eq_of_beq_eq_true->BK,blt_eq->Bi
open List.Sublist renaming refl->AT
open Go renaming World->AZ,Value->Af,undef->Aj,wpIn_mono->Aq,yielded->Av,IntKind->Aw,Oper->A6,TypeId->BF,LeavesInM->BP,execOp->BQ,callsIn_wide->BR,FuncId->BV,callsIn_of_wp_marks->BZ,Code->Bf,newRow->Bh,Deferred->Bj,Act->Bk,wpOpsIn->Bm,Operand->Bo,asAddr->Bs,Func->Bt,Ending->Bu
open Go.Result renaming andThen_ok->Ac,andThen->BW
open Go.Vf.AV renaming forget->Ag,forgetL->Bl,normL->Br
open Go.Fence renaming wide->Ai
open Go.World renaming putObj_heap_other->Ak,size_alloc->BS,putObj->Ba
open Go.Vf.St renaming put->Am,setH->BJ,mk->Be
open Go.Sem renaming run_bind->Ao,run_pure->BG
open Go.Vf.St.mk renaming injEq->Ar
open Ne renaming symm->A7
set_option linter.unusedSimpArgs false
set_option linter.unusedVariables false
namespace Go.Vf
open Go
section
variable {P:Program} {A:Ann} {ro:Option Nat} {E:Ent}
theorem a8l {ts ts2:List AV}: ∀{l:List a0h},(∀x,x∈l->Al ts x=Al ts2 x)->b2j ts l=b2j ts2 l:=by
 intro l
 induction l with
 |nil=>intro _;rfl
 |cons x l ih=>intro h;simp only[b2j];rw[h x (by simp),ih fun y hy=>h y (by simp[hy])]
theorem b8y {ts ts2:List AV}: ∀{l:List (Nat×Nat×a0h)} {cs:List AV},(∀x,x∈l.map (·.2.2)->Al ts x=Al ts2 x)->b2r ts cs l=b2r ts2 cs l:=by
 intro l
 induction l with
 |nil=>intro cs _;rfl
 |cons x l ih=>
  intro cs h;obtain⟨off,sz,x⟩:=x;simp only[b2r];rw[h x (by simp)];congr 1;split
  ·exact ih fun y hy=>h y (by simp only[Bb,AE];exact .inr hy)
  ·rfl
theorem b1s {ts ts2:List AV}{sz:Nat}: ∀{l:List (Nat×a0h)} {cs:List (List AV)},(∀x,x∈l.map (·.2)->Al ts x=Al ts2 x)->a8q ts sz cs l=a8q ts2 sz cs l:=by
 intro l
 induction l with
 |nil=>intro cs _;rfl
 |cons x l ih=>
  intro cs h;obtain⟨off,x⟩:=x;simp only[a8q];rw[h x (by simp)];congr 1;split
  ·exact ih fun y hy=>h y (by simp only[Bb,AE];exact .inr hy)
  ·rfl
theorem a1f {ts ts2:List AV}{x:Option a0h}{d:IX}{K:IX->Prop}(h: ∀y,y∈a9t x->Al ts y=Al ts2 y):b0u ts x d K=b0u ts2 x d K:=by
 cases x with
 |none=>rfl
 |some o=>simp only[b0u];rw[h o (by simp[a9t])]
theorem a3c {S:Sig}{o:IOp}{ts ts2:List AV}{h:List a0f}{mv mv2:List Nat}{K:AV->List a0f->List Nat->Prop}(ha: ∀x,x∈o.opds->Al ts x=Al ts2 x):
 a0a S o ⟨ts,h,mv⟩ K=a0a S o ⟨ts2,h,mv2⟩ K:=by
 cases o with
 |newnil|alloc|mkmap|mkmapv|bnew|bad|bslice0|bnewv|bnewm=>rfl
 |build zs ps=>simp only[a0a];rw[b8y ha]
 |bslice sz n zs ps mu=>simp only[a0a];rw[b1s ha]
 |bsliceP sz n zs ps=>simp only[a0a];rw[b1s ha]
 |mkfn f l m=>simp only[a0a];rw[a8l fun x hx=>ha x (by simp[AA,hx]),a8l (l:=m) fun x hx=>ha x (by simp[AA,hx])]
 |call f as m=>simp only[a0a];rw[a8l fun x hx=>ha x (by simp[AA,hx]),ha f (by simp[AA])]
 |slice sz x lo hi mx=>
  simp only[a0a];rw[ha x (by simp[AA])];have h1: ∀y,y∈a9t lo->Al ts y=Al ts2 y:=fun y hy=>ha y (by simp[AA,hy]);have h2: ∀y,y∈a9t hi->Al ts y=Al ts2 y:=fun y hy=>ha y (by simp[AA,hy]);have h3: ∀y,y∈a9t mx->Al ts y=Al ts2 y:=fun y hy=>ha y (by simp[AA,hy]);unfold a1d;split
  ·congr 1;rw[a1f h1];congr 1;funext lo';rw[a1f h2];congr 1;funext hi';congr 1;congr 1;congr 1;cases mx with
   |none=>rfl
   |some m=>simp only[];rw[h3 m (by simp[a9t])]
  ·congr 1;rw[a1f h1];congr 1;funext lo';rw[a1f h2];congr 1;funext hi';congr 1;congr 1;congr 1;cases mx with
   |none=>rfl
   |some m=>simp only[];rw[h3 m (by simp[a9t])]
  ·rw[a1f h1];congr 1;funext lo';rw[a1f h2];congr 1;funext hi';congr 1;congr 1;cases mx with
   |none=>rfl
   |some m=>simp only[];rw[h3 m (by simp[a9t])]
  ·rfl
 |slicex sz x lo hi=>simp only[a0a];rw[ha x (by simp[AA])];have h1: ∀y,y∈a9t lo->Al ts y=Al ts2 y:=fun y hy=>ha y (by simp[AA,hy]);have h2: ∀y,y∈a9t hi->Al ts y=Al ts2 y:=fun y hy=>ha y (by simp[AA,hy]);simp only[a1f h1,a1f h2]
 |slarr n x lo hi=>simp only[a0a];rw[ha x (by simp[AA])];have h1: ∀y,y∈a9t lo->Al ts y=Al ts2 y:=fun y hy=>ha y (by simp[AA,hy]);have h2: ∀y,y∈a9t hi->Al ts y=Al ts2 y:=fun y hy=>ha y (by simp[AA,hy]);simp only[a1f h1,a1f h2]
 |slchk sz x lo hi mx=>simp only[a0a];rw[ha x (by simp[AA])];have h1: ∀y,y∈a9t lo->Al ts y=Al ts2 y:=fun y hy=>ha y (by simp[AA,hy]);have h2: ∀y,y∈a9t hi->Al ts y=Al ts2 y:=fun y hy=>ha y (by simp[AA,hy]);have h3: ∀y,y∈a9t mx->Al ts y=Al ts2 y:=fun y hy=>ha y (by simp[AA,hy]);simp only[a4h,a1f h1,a1f h2,a1f h3]
 |pick c a b=>simp only[a0a];rw[ha c (by simp[AA]),ha a (by simp[AA]),ha b (by simp[AA])]
 |store sz a b=>simp only[a0a];rw[ha a (by simp[AA]),ha b (by simp[AA])]
 |bin op a b=>simp only[a0a];rw[ha a (by simp[AA]),ha b (by simp[AA])]
 |binb op a b=>simp only[a0a];rw[ha a (by simp[AA]),ha b (by simp[AA])]
 |aeq n ks a b=>simp only[a0a];rw[ha a (by simp[AA]),ha b (by simp[AA])]
 |aeqw n ks a b=>simp only[a0a];rw[ha a (by simp[AA]),ha b (by simp[AA])]
 |iaddr sz a b=>simp only[a0a];rw[ha a (by simp[AA]),ha b (by simp[AA])]
 |iaddrA n sz a b=>simp only[a0a];rw[ha a (by simp[AA]),ha b (by simp[AA])]
 |lookup wd ks ok a b=>simp only[a0a];rw[ha a (by simp[AA]),ha b (by simp[AA])]
 |lookupv wd ks ok z a b=>simp only[a0a];rw[ha a (by simp[AA]),ha b (by simp[AA])]
 |mapent wd ks z a b=>simp only[a0a];rw[ha a (by simp[AA]),ha b (by simp[AA])]
 |appendP sz by' a b=>simp only[a0a];rw[ha a (by simp[AA]),ha b (by simp[AA])]
 |appendV by' a b=>simp only[a0a];rw[ha a (by simp[AA]),ha b (by simp[AA])]
 |entst a b c=>simp only[a0a];rw[ha a (by simp[AA]),ha b (by simp[AA]),ha c (by simp[AA])]
 |extractF x i=>simp only[a0a];rw[ha x (by simp[AA])]
 |mapupdv wd ks a b c=>simp only[a0a];rw[ha a (by simp[AA]),ha b (by simp[AA]),ha c (by simp[AA])]
 |mapupd wd ks a b c=>simp only[a0a];rw[ha a (by simp[AA]),ha b (by simp[AA]),ha c (by simp[AA])]
 |min a b=>simp only[a0a];rw[ha a (by simp[AA]),ha b (by simp[AA])]
 |bw op a b=>simp only[a0a];rw[ha a (by simp[AA]),ha b (by simp[AA])]
 |max a b=>simp only[a0a];rw[ha a (by simp[AA]),ha b (by simp[AA])]
 |append sz by' a b mu=>simp only[a0a];rw[ha a (by simp[AA]),ha b (by simp[AA])]
 |copy sz a b=>simp only[a0a];rw[ha a (by simp[AA]),ha b (by simp[AA])]
 |appendIn sz a b=>simp only[a0a];rw[ha a (by simp[AA]),ha b (by simp[AA])]
 |appendN sz by' a b mu=>simp only[a0a];rw[ha a (by simp[AA]),ha b (by simp[AA])]
 |ovl a b=>simp only[a0a];rw[ha a (by simp[AA]),ha b (by simp[AA])]
 |clear sz zs x=>simp only[a0a];rw[ha x (by simp[AA])]
 |isnil n x=>simp only[a0a];rw[ha x (by simp[AA])]
 |idxs l x=>simp only[a0a];rw[ha x (by simp[AA])]
 |mv x=>simp only[a0a];rw[ha x (by simp[AA])]
 |box x=>simp only[a0a];rw[ha x (by simp[AA])]
 |load g x=>simp only[a0a];rw[ha x (by simp[AA])]
 |nilchk x=>simp only[a0a];rw[ha x (by simp[AA])]
 |un op x=>simp only[a0a];rw[ha x (by simp[AA])]
 |conv k x=>simp only[a0a];rw[ha x (by simp[AA])]
 |mkslice sz zs b x=>simp only[a0a];rw[ha x (by simp[AA])]
 |faddr off x=>simp only[a0a];rw[ha x (by simp[AA])]
 |field off g x=>simp only[a0a];rw[ha x (by simp[AA])]
 |extract x i=>simp only[a0a];rw[ha x (by simp[AA])]
 |len x=>simp only[a0a];rw[ha x (by simp[AA])]
 |lenm x=>simp only[a0a];rw[ha x (by simp[AA])]
 |cap x=>simp only[a0a];rw[ha x (by simp[AA])]
end
section
variable {P:Program} {A:Ann} {ro:Option Nat} {E:Ent}
theorem b5p {p:Prop}{q r:Prop}(h:q->r)(k:((AN P A ro E)).req p q):((AN P A ro E)).req p r:=⟨k.1,h k.2⟩
theorem a7v {h:List a0f}{v:AV}{K K':Nat->Nat->(Nat->List DV)->Prop}(hK: ∀a b c,K a b c->K' a b c)(hk:b3s (AN P A ro E) h v K):b3s (AN P A ro E) h v K':=by
 unfold b3s at hk⊢;split
 ·exact hK _ _ _ hk
 ·exact hK _ _ _ hk
 ·simp only at hk;split
  ·rename_i e1;rw[e1] at hk;simp only at hk;split at hk
   ·rename_i hc;rw[if_pos hc];exact b5p (hK _ _ _) hk
   ·exact hk.elim
  ·rename_i e1;rw[e1] at hk;simp only at hk;split at hk
   ·rename_i hc;rw[if_pos hc];exact b5p (hK _ _ _) hk
   ·exact hk.elim
  ·rename_i e1 e2;split at hk
   ·rename_i h3;exact absurd h3 (e1 _ _ _)
   ·rename_i h3;exact absurd h3 (e2 _ _ _)
   ·exact hk
 ·rename_i e1 e2 e3;split at hk
  ·exact absurd rfl (e1 _ _ _)
  ·exact absurd rfl (e2 _ _ _)
  ·exact absurd rfl (e3 _ _ _ _ _)
  ·exact hk
theorem a9c {sz:Nat}{h:List a0f}{v:AV}{K K':Nat->Nat->(Nat->List DV)->Prop}(hK: ∀a b c,K a b c->K' a b c)(hk:a8b (AN P A ro E) sz h v K):a8b (AN P A ro E) sz h v K':=by
 unfold a8b at hk⊢;split
 ·exact hK _ _ _ hk
 ·exact hK _ _ _ hk
 ·rename_i e1 e2;split at hk
  ·exact absurd rfl e1
  ·exact absurd rfl (e2 _ _)
  ·exact a7v hK hk
theorem b8k {h:List a0f}{v:AV}{K K':AV->Prop}(hK: ∀v,K v->K' v)(hk:c7s (AN P A ro E) h v K):c7s (AN P A ro E) h v K':=by
 cases v with
 |vsl l off n=>
  simp only[c7s] at hk⊢;split at hk
  ·split at hk
   ·split at hk
    ·exact hK _ hk
    ·exact hk.elim
   ·exact hk.elim
  ·exact hk.elim
 |msl l sz s n f=>simp only[c7s] at hk⊢;exact a7v (fun _ _ _=>hK _) hk
 |dfs sz n e=>exact hK _ hk
 |_=>exact hK _ hk
theorem c5v {h:List a0f}{vs:List AV}: ∀{K K':List AV->Prop},(∀v,K v->K' v)->c5a (AN P A ro E) h vs K->c5a (AN P A ro E) h vs K':=by
 induction vs with
 |nil=>intro K K' hK hk;exact hK _ hk
 |cons v r ih=>intro K K' hK hk;exact b8k (fun _=>ih fun _=>hK _) hk
theorem c5k {h:List a0f}{vs:List AV}: ∀{K K':List AV->Prop},(∀v,K v->K' v)->b0n (AN P A ro E) h vs K->b0n (AN P A ro E) h vs K':=by
 induction vs with
 |nil=>intro K K' hK hk;exact hK _ hk
 |cons v r ih=>
  intro K K' hK hk;cases v
  case agg cs=>exact c5v (fun _=>ih fun _=>hK _) hk
  all_goals exact b8k (fun _=>ih fun _=>hK _) hk
theorem a4z {h:List a0f}{v:AV}{K K':AV->List a0f->Prop}(hK: ∀v h,K v h->K' v h)(hk:a2m (AN P A ro E) h v K):a2m (AN P A ro E) h v K':=by
 unfold a2m at hk⊢;split
 ·simp only at hk;refine a7v (fun a b c hk=> ?_) hk;split
  ·rename_i e1;rw[e1] at hk;exact hK _ _ hk
  ·rename_i e1;split at hk
   ·rename_i h3;exact absurd h3 (e1 _ _ _)
   ·exact hK _ _ hk
 ·exact hK _ _ hk
 ·rename_i e1 e2;split at hk
  ·exact absurd rfl (e1 _ _ _ _ _)
  ·exact absurd rfl (e2 _ _ _)
  ·exact hK _ _ hk
theorem a3a {vs:List AV}: ∀{h:List a0f} {K K':List AV->List a0f->Prop},(∀v h,K v h->K' v h)->a3t (AN P A ro E) h vs K->a3t (AN P A ro E) h vs K':=by
 induction vs with
 |nil=>intro h K K' hK hk;exact hK _ _ hk
 |cons v r ih=>intro h K K' hK hk;exact a4z (fun _ _=>ih fun _ _=>hK _ _) hk
theorem a6r {h:List a0f}{l:Nat}{K K':AV->List a0f->Prop}(hK: ∀v h,K v h->K' v h)(hk:a2p (AN P A ro E) h l K):a2p (AN P A ro E) h l K':=by
 unfold a2p at hk⊢;split at hk
 ·refine a3a (fun cs h' hk=> ?_) hk;split at hk
  ·exact hK _ _ hk
  ·exact hk.elim
 ·exact hk.elim
theorem a9l {vs:List AV}: ∀{h:List a0f} {K K':List AV->List a0f->Prop},(∀v h,K v h->K' v h)->a1w (AN P A ro E) h vs K->a1w (AN P A ro E) h vs K':=by
 induction vs with
 |nil=>intro h K K' hK hk;exact hK _ _ hk
 |cons v r ih=>
  intro h K K' hK hk;cases v
  case agg cs=>exact a3a (fun _ _=>ih fun _ _=>hK _ _) hk
  case ptr l off=>
   cases off with
   |zero=>exact a6r (fun _ _=>ih fun _ _=>hK _ _) hk
   |succ off=>exact a4z (fun _ _=>ih fun _ _=>hK _ _) hk
  all_goals exact a4z (fun _ _=>ih fun _ _=>hK _ _) hk
theorem b9w {v:AV}{h:List a0f}{K K':List DV->List a0f->Prop}(hK: ∀v h,K v h->K' v h)(hk:b0p (AN P A ro E) h v K):b0p (AN P A ro E) h v K':=by
 unfold b0p at hk⊢;refine a3a (fun cs h' hk=> ?_) hk;split
 ·rename_i e1;rw[e1] at hk;exact hK _ _ hk
 ·rename_i e1;rw[e1] at hk;exact hk
theorem b6b {rs:List (List AV)}: ∀{h:List a0f} {K K':List (List DV)->List a0f->Prop},(∀v h,K v h->K' v h)->a4s (AN P A ro E) h rs K->a4s (AN P A ro E) h rs K':=by
 induction rs with
 |nil=>intro h K K' hK hk;exact hK _ _ hk
 |cons v r ih=>
  intro h K K' hK hk;simp only[a4s] at hk⊢;refine a3a (fun cs h' hk=> ?_) hk;split
  ·rename_i e1;rw[e1] at hk;exact ih (fun _ _=>hK _ _) hk
  ·rename_i e1;rw[e1] at hk;exact hk
theorem b1h {ks:List Aw}: ∀{cs:List AV} {K K':List KC->Prop},(∀v,K v->K' v)->a4f (AN P A ro E) ks cs K->a4f (AN P A ro E) ks cs K':=by
 induction ks with
 |nil=>
  intro cs K K' hK hk;cases cs with
  |nil=>exact hK _ hk
  |cons c cs=>exact hk.elim
 |cons k ks ih=>
  intro cs K K' hK hk;cases cs with
  |nil=>exact hk.elim
  |cons c cs=>
   cases c with
   |d x=>
    cases x with
    |int k' x=>
     simp only[a4f] at hk⊢;split
     ·rename_i hc;rw[if_pos hc] at hk;exact b5p (ih fun _=>hK _) hk
     ·rename_i hc;rw[if_neg hc] at hk;exact hk
    |_=>exact hk.elim
   |_=>exact hk.elim
theorem a6y {wide:Bool}{ks:List Aw}{v:AV}{K K':List KC->Prop}(hK: ∀v,K v->K' v)(hk:a2z (AN P A ro E) wide ks v K):a2z (AN P A ro E) wide ks v K':=by
 cases v
 case agg cs=>
  simp only[a2z] at hk⊢;split
  ·rename_i hc;rw[if_pos hc] at hk;exact b1h hK hk
  ·rename_i hc;rw[if_neg hc] at hk;exact hk
 all_goals
  simp only[a2z] at hk⊢;split
  ·rename_i hc;rw[if_pos hc] at hk;exact hk
  ·rename_i hc;rw[if_neg hc] at hk;exact b1h hK hk
theorem a7n {v:AV}{K K':IX->Prop}(hK: ∀n,K n->K' n)(hk:a9r v K):a9r v K':=by
 unfold a9r at hk⊢;split
 ·exact hK _ hk
 ·rename_i e1;split at hk
  ·exact absurd rfl (e1 _)
  ·exact hk
end
section
variable {P:Program} {A:Ann} {ro:Option Nat} {E:Ent}
theorem d3b {op:BinOp}{k:Aw}{x y:IX}{K:DV->Prop}(hk:d0v (AN P A ro E) op k x y K): ∃v,K v/\ ∀{K2:DV->Prop},K2 v->d0v (AN P A ro E) op k x y K2:=by
 cases op<;>cases x<;>cases y<;>first
  |exact hk.elim
  |exact⟨_,hk,fun h=>h⟩
  |exact⟨_,hk.2,fun h=>⟨hk.1,h⟩⟩
  |exact⟨_,hk.2.2,fun h=>⟨hk.1,hk.2.1,h⟩⟩
theorem a4v {v:AV}{K:IX->Prop}(hk:a9r v K): ∃n,K n/\ ∀{K2:IX->Prop},K2 n->a9r v K2:=by
 unfold a9r at hk;split at hk
 ·exact⟨_,hk,fun h=>h⟩
 ·exact hk.elim
theorem b2i {row:List DV}{off:Nat}{g:Option Nat}{K:AV->Prop}(hk:a8i row off g K): ∃v,K v/\ ∀{K2:AV->Prop},K2 v->a8i row off g K2:=by
 cases g with
 |none=>
  simp only[a8i] at hk⊢;split at hk
  ·rename_i e1;exact⟨_,hk,fun h=>by first|exact h|(rw[e1];exact h)⟩
  ·exact hk.elim
 |some m=>
  simp only[a8i] at hk⊢;split at hk
  ·rename_i e1;exact⟨_,hk,fun h=>by first|exact h|(rw[e1];exact h)⟩
  ·exact hk.elim
theorem a2q {ts:List AV}{x:Option a0h}{d:IX}{K:IX->Prop}(hk:b0u ts x d K): ∃n,K n/\ ∀{K2:IX->Prop},K2 n->b0u ts x d K2:=by
 cases x with
 |none=>exact⟨_,hk,fun h=>h⟩
 |some o=>exact a4v hk
theorem b5m {ts:List AV}{sz:Nat}{x:AV}{lo hi mx:Option a0h}{K:AV->Prop}(hk:a1d (AN P A ro E) ts sz x lo hi mx K): ∃v,K v/\ ∀{K2:AV->Prop},K2 v->a1d (AN P A ro E) ts sz x lo hi mx K2:=by
 cases x with
 |msl l sz' s n f=>
  simp only[a1d] at hk⊢;split at hk
  ·rename_i hc;simp only[if_pos hc];obtain⟨a,hk,ha⟩:=a2q hk;obtain⟨b,hk,hb⟩:=a2q hk;obtain⟨h1,h2,h3,hk⟩:=hk;cases mx with
   |none=>
    cases f with
    |true=>exact⟨_,hk.2,fun h=>ha (hb ⟨h1,h2,h3,hk.1,h⟩)⟩
    |false=>exact⟨_,hk,fun h=>ha (hb ⟨h1,h2,h3,h⟩)⟩
   |some m=>obtain⟨c,hk,hc'⟩:=a4v hk;exact⟨_,hk.2,fun h=>ha (hb ⟨h1,h2,h3,hc' ⟨hk.1,h⟩⟩)⟩
  ·exact hk.elim
 |d y=>
  cases y with
  |sl sz' n e=>
   simp only[a1d] at hk⊢;split at hk
   ·rename_i hc;simp only[if_pos hc];obtain⟨a,hk,ha⟩:=a2q hk;obtain⟨b,hk,hb⟩:=a2q hk;obtain⟨h1,h2,h3,hk⟩:=hk;cases mx with
    |none=>exact⟨_,hk,fun h=>ha (hb ⟨h1,h2,h3,h⟩)⟩
    |some m=>obtain⟨c,hk,hc'⟩:=a4v hk;exact⟨_,hk.2,fun h=>ha (hb ⟨h1,h2,h3,hc' ⟨hk.1,h⟩⟩)⟩
   ·exact hk.elim
  |nil=>
   simp only[a1d] at hk⊢;obtain⟨a,hk,ha⟩:=a2q hk;obtain⟨b,hk,hb⟩:=a2q hk;obtain⟨h1,h2,hk⟩:=hk;cases mx with
   |none=>exact⟨_,hk,fun h=>ha (hb ⟨h1,h2,h⟩)⟩
   |some m=>obtain⟨c,hk,hc'⟩:=a4v hk;exact⟨_,hk.2,fun h=>ha (hb ⟨h1,h2,hc' ⟨hk.1,h⟩⟩)⟩
  |_=>exact hk.elim
 |_=>exact hk.elim
theorem b0x {ts:List AV}{sz sz' n:Nat}{lo hi mx:Option a0h}{K:Prop}(hk:a4h (AN P A ro E) ts sz sz' n lo hi mx K):K/\ ∀{K2:Prop},K2->a4h (AN P A ro E) ts sz sz' n lo hi mx K2:=by
 unfold a4h at hk⊢;split at hk
 ·rename_i hc;simp only[if_pos hc];obtain⟨a,hk,ha⟩:=a2q hk;obtain⟨b,hk,hb⟩:=a2q hk;obtain⟨c,hk,hc⟩:=a2q hk;obtain⟨h1,h2,h3,h4,hk⟩:=hk;exact⟨hk,fun h=>ha (hb (hc ⟨h1,h2,h3,h4,h⟩))⟩
 ·exact hk.elim
theorem b4k {sz:Nat}{x:AV}{i:IX}{K:AV->Prop}(hk:a2l (AN P A ro E) sz x i K): ∃v,K v/\ ∀{K2:AV->Prop},K2 v->a2l (AN P A ro E) sz x i K2:=by
 unfold a2l at hk⊢;split at hk
 ·split at hk
  ·rename_i hc;exact⟨_,hk.2,fun h=>by simp only[if_pos hc];exact⟨hk.1,h⟩⟩
  ·exact hk.elim
 ·split at hk
  ·rename_i hc;exact⟨_,hk.2,fun h=>by simp only[if_pos hc];exact⟨hk.1,h⟩⟩
  ·exact hk.elim
 ·split at hk
  ·rename_i hc;exact⟨_,hk.2,fun h=>by simp only[if_pos hc];exact⟨hk.1,h⟩⟩
  ·exact hk.elim
 ·exact hk.elim
theorem c6f {o:IOp}(hkl:o.kl= .i\/o.kl= .p){ts:List AV}{h:List a0f}{mv:List Nat}{K:AV->List a0f->List Nat->Prop}(hk:a0a (AN P A ro E) o ⟨ts,h,mv⟩ K):
 ∃v,K v h []/\ ∀{h2:List a0f} {mv2:List Nat} {K2:AV->List a0f->List Nat->Prop},K2 v h2 []->a0a (AN P A ro E) o ⟨ts,h2,mv2⟩ K2:=by
 cases o with
 |mv x=>exact⟨_,hk,fun h=>h⟩
 |bslice0 sz=>exact⟨_,hk,fun h=>h⟩
 |pick c a b=>
  simp only[a0a] at hk⊢;unfold e0h at hk;split at hk
  ·rename_i b' e1;simp only[e1,e0h];cases b' with
   |true=>exact⟨_,hk,fun h=>h⟩
   |false=>exact⟨_,hk,fun h=>h⟩
  ·exact hk.elim
 |appendP sz by' x y=>
  simp only[a0a] at hk⊢;split at hk
  ·rename_i e1 e2;exact⟨_,hk,fun h=>by first|exact h|(rw[e1,e2];exact h)⟩
  ·rename_i e1 e2;split at hk
   ·rename_i e3;exact⟨_,hk.2,fun h=>by simp only[if_pos e3];exact⟨hk.1,h⟩⟩
   ·exact hk.elim
  ·exact hk.elim
 |bsliceP sz n zs ps=>
  simp only[a0a] at hk⊢;split at hk
  ·rename_i e1;split at hk
   ·rename_i e2;exact⟨_,hk,fun h=>by first|exact h|(rw[e1];simp only[e2];exact h)⟩
   ·exact hk.elim
  ·exact hk.elim
 |build zs ps=>
  simp only[a0a] at hk⊢;split at hk
  ·rename_i e1;exact⟨_,hk,fun h=>by first|exact h|(rw[e1];exact h)⟩
  ·exact hk.elim
 |nilchk x=>
  simp only[a0a] at hk⊢;split at hk
  ·rename_i e1;exact⟨_,hk,fun h=>by rw[if_pos e1];exact h⟩
  ·exact hk.elim
 |bw op x y=>
  simp only[a0a] at hk⊢;split at hk
  ·unfold bwI at hk⊢;split at hk
   ·exact⟨_,hk.2,fun h=>⟨hk.1,h⟩⟩
   ·split at hk
    ·rename_i e3;exact⟨_,hk,fun h=>by rw[if_pos e3];exact h⟩
    ·exact hk.elim
   ·exact hk.elim
  ·exact hk.elim
 |bin op x y=>
  simp only[a0a] at hk⊢;split at hk
  ·rename_i e1 e2;split at hk
   ·rename_i e3;obtain⟨v,hv,hd⟩:=d3b hk;refine⟨_,hv,fun h=> ?_⟩;simp only[if_pos e3];exact hd h
   ·exact hk.elim
  ·cases op<;>first|exact hk.elim|exact⟨_,hk.2,fun h=>⟨hk.1,h⟩⟩
  ·exact hk.elim
 |binb op x y=>
  simp only[a0a] at hk⊢;split at hk
  ·rename_i e1 e2;split at hk
   ·exact⟨_,hk,fun h=>by first|exact h|(rw[e1,e2];exact h)⟩
   ·exact⟨_,hk,fun h=>by first|exact h|(rw[e1,e2];exact h)⟩
   ·exact hk.elim
  ·exact hk.elim
 |aeq n ks x y=>
  simp only[a0a] at hk⊢;split at hk
  ·split at hk
   ·rename_i e1;exact⟨_,hk,fun h=>by first|exact h|(rw[e1];exact h)⟩
   ·exact hk.elim
  ·exact hk.elim
 |aeqw n ks x y=>
  simp only[a0a] at hk⊢;split at hk
  ·split at hk
   ·rename_i e1;exact⟨_,hk,fun h=>by first|exact h|(rw[e1];exact h)⟩
   ·exact hk.elim
  ·exact hk.elim
 |un op x=>
  simp only[a0a] at hk⊢;split at hk
  ·rename_i e1;exact⟨_,hk,fun h=>by first|exact h|(rw[e1];exact h)⟩
  ·rename_i e1;exact⟨_,hk,fun h=>by first|exact h|(rw[e1];exact h)⟩
  ·rename_i e1;exact⟨_,hk.2,fun h=>by first|exact⟨hk.1,h⟩|(rw[e1];exact⟨hk.1,h⟩)⟩
  ·exact hk.elim
 |conv k x=>
  simp only[a0a] at hk⊢;split at hk
  ·rename_i e1;exact⟨_,hk,fun h=>by first|exact h|(rw[e1];exact h)⟩
  ·exact hk.elim
 |mkfn f l m=>exact⟨_,hk,fun h=>h⟩
 |slice sz x lo hi mx=>simp only[a0a] at hk⊢;obtain⟨v,hk,hv⟩:=b5m hk;exact⟨v,hk,fun h=>hv h⟩
 |slarr n x lo hi=>
  simp only[a0a] at hk⊢;split at hk
  ·obtain⟨a,hk,ha⟩:=a2q hk;obtain⟨b,hk,hb⟩:=a2q hk;obtain⟨h1,h2,h3,hk⟩:=hk;split at hk
   ·rename_i e1;exact⟨_,hk,fun h=>ha (hb ⟨h1,h2,h3,by first|exact h|(rw[e1];exact h)⟩)⟩
   ·rename_i e1;exact⟨_,hk,fun h=>ha (hb ⟨h1,h2,h3,by first|exact h|(rw[e1];exact h)⟩)⟩
  ·exact hk.elim
 |isnil neg x=>
  simp only[a0a] at hk⊢;split at hk
  ·rename_i e1;exact⟨_,hk,fun h=>by first|exact h|(rw[e1];exact h)⟩
  ·rename_i e1;exact⟨_,hk.2,fun h=>by first|exact⟨hk.1,h⟩|(rw[e1];exact⟨hk.1,h⟩)⟩
  ·rename_i e1;exact⟨_,hk.2,fun h=>by first|exact⟨hk.1,h⟩|(rw[e1];exact⟨hk.1,h⟩)⟩
  ·rename_i e1;exact⟨_,hk.2,fun h=>by first|exact⟨hk.1,h⟩|(rw[e1];exact⟨hk.1,h⟩)⟩
  ·rename_i e1;exact⟨_,hk,fun h=>by first|exact h|(rw[e1];exact h)⟩
  ·rename_i e1;exact⟨_,hk,fun h=>by first|exact h|(rw[e1];exact h)⟩
  ·exact hk.elim
 |idxs l x=>
  simp only[a0a] at hk⊢;split at hk
  ·rename_i e1;exact⟨_,hk.2,fun h=>by first|exact⟨hk.1,h⟩|(rw[e1];exact⟨hk.1,h⟩)⟩
  ·exact hk.elim
 |slchk sz x lo hi mx=>
  simp only[a0a] at hk⊢;split at hk
  ·obtain⟨hk,hd⟩:=b0x hk;exact⟨_,hk,fun h=>hd h⟩
  ·obtain⟨hk,hd⟩:=b0x hk;exact⟨_,hk,fun h=>hd h⟩
  ·exact hk.elim
 |faddr off x=>
  simp only[a0a] at hk⊢;split at hk
  ·rename_i e1;exact⟨_,hk,fun h=>by first|exact h|(rw[e1];exact h)⟩
  ·rename_i e1;exact⟨_,hk,fun h=>by first|exact h|(rw[e1];exact h)⟩
  ·rename_i e1;exact⟨_,hk,fun h=>by first|exact h|(rw[e1];exact h)⟩
  ·exact hk.elim
 |field off g x=>
  simp only[a0a] at hk⊢;split at hk
  ·cases g with
   |none=>
    simp only at hk⊢;split at hk
    ·rename_i e2;exact⟨_,hk,fun h=>by first|exact h|(rw[e2];exact h)⟩
    ·exact hk.elim
   |some m=>
    simp only at hk⊢;split at hk
    ·rename_i e2;exact⟨_,hk,fun h=>by first|exact h|(rw[e2];exact h)⟩
    ·exact hk.elim
  ·exact hk.elim
 |iaddr sz x i=>obtain⟨n,hk,hn⟩:=a4v hk;obtain⟨v,hk,hv⟩:=b4k hk;exact⟨v,hk,fun h=>hn (hv h)⟩
 |iaddrA n sz x i=>
  obtain⟨m,hk,hn⟩:=a4v hk;simp only at hk;split at hk
  ·rename_i e1;split at hk
   ·split at hk
    ·rename_i e2;refine⟨_,hk,fun h=> ?_⟩;refine hn ?_;simp only[e1,if_pos e2];exact h
    ·exact hk.elim
   ·refine⟨_,hk.2,fun h=> ?_⟩;refine hn ?_;simp only[e1];exact⟨hk.1,h⟩
  ·exact hk.elim
 |extract x i=>
  simp only[a0a] at hk⊢;split at hk
  ·split at hk
   ·rename_i e2;exact⟨_,hk,fun h=>by first|exact h|(rw[e2];exact h)⟩
   ·exact hk.elim
  ·exact hk.elim
 |len x=>
  simp only[a0a] at hk⊢;split at hk
  ·rename_i e1;exact⟨_,hk,fun h=>by first|exact h|(rw[e1];exact h)⟩
  ·rename_i e1;exact⟨_,hk,fun h=>by first|exact h|(rw[e1];exact h)⟩
  ·rename_i e1;exact⟨_,hk,fun h=>by first|exact h|(rw[e1];exact h)⟩
  ·rename_i e1;exact⟨_,hk,fun h=>by first|exact h|(rw[e1];exact h)⟩
  ·rename_i e1;exact⟨_,hk,fun h=>by first|exact h|(rw[e1];exact h)⟩
  ·exact hk.elim
 |min x y=>
  simp only[a0a] at hk⊢;split at hk
  ·rename_i e1 e2;split at hk
   ·rename_i e3;exact⟨_,hk,fun h=>by simp only[if_pos e3];exact h⟩
   ·exact hk.elim
  ·exact hk.elim
 |max x y=>
  simp only[a0a] at hk⊢;split at hk
  ·rename_i e1 e2;split at hk
   ·rename_i e3;exact⟨_,hk,fun h=>by simp only[if_pos e3];exact h⟩
   ·exact hk.elim
  ·exact hk.elim
 |call f as m=>
  cases m with
  |data=>
   simp only[a0a] at hk⊢;split at hk
   ·split at hk
    ·rename_i e2;obtain⟨r,hp,hk⟩:=hk;exact⟨r,hk,fun h=>by rw[if_pos e2];exact⟨r,hp,h⟩⟩
    ·exact hk.elim
   ·simp at hk
   ·exact hk.elim
  |_=>simp[Au] at hkl
 |_=>simp[Au] at hkl
theorem d0s {h:List a0f}{p:AV}{g:Option Nat}{K:AV->Prop}(hk:a8s (AN P A ro E) h p g K):
 ∃v,K v/\ ∀{h2:List a0f} {K2:AV->Prop},(∀l,tgt p=AC l->a1a h2 l=a1a h l)->K2 v->a8s (AN P A ro E) h2 p g K2:=by
 cases p with
 |ptr l off=>
  simp only[a8s] at hk⊢;split at hk
  ·rename_i e0;cases g with
   |none=>
    simp only at hk⊢;split at hk
    ·rename_i e1;exact⟨_,hk,fun hh h=>by rw[hh l rfl,e0];simp only;first|exact h|(rw[e1];exact h)⟩
    ·exact hk.elim
   |some n=>
    simp only at hk⊢;split at hk
    ·rename_i e1;exact⟨_,hk,fun hh h=>by rw[hh l rfl,e0];simp only;first|exact h|(rw[e1];exact h)⟩
    ·exact hk.elim
  ·exact hk.elim
 |aptr l sz i off=>
  simp only[a8s] at hk⊢;split at hk
  ·rename_i e0;split at hk
   ·rename_i hc;obtain⟨v,hv,hd⟩:=b2i hk.2;exact⟨v,hv,fun hh h=>by rw[hh l rfl,e0];simp only[if_pos hc];exact⟨hk.1,hd h⟩⟩
   ·exact hk.elim
  ·rename_i e0;split at hk
   ·rename_i hc;obtain⟨v,hv,hd⟩:=b2i hk.2;exact⟨v,hv,fun hh h=>by rw[hh l rfl,e0];simp only[if_pos hc];exact⟨hk.1,hd h⟩⟩
   ·exact hk.elim
  ·rename_i e0;split at hk
   ·rename_i hc;cases g with
    |none=>
     simp only at hk;split at hk
     ·rename_i e1;exact⟨_,hk,fun hh h=>by rw[hh l rfl,e0];simp only[if_pos hc,e1];exact h⟩
     ·exact hk.elim
    |some n=>exact hk.elim
   ·exact hk.elim
  ·exact hk.elim
 |dptr row off=>obtain⟨v,hv,hd⟩:=b2i hk;exact⟨v,hv,fun _ h=>hd h⟩
 |_=>exact hk.elim
theorem b2w {ks:List Aw}: ∀{cs:List AV} {K:List KC->Prop},a4f (AN P A ro E) ks cs K-> ∃v,K v/\ ∀{K2:List KC->Prop},K2 v->a4f (AN P A ro E) ks cs K2:=by
 induction ks with
 |nil=>
  intro cs K hk;cases cs with
  |nil=>exact⟨_,hk,fun h=>h⟩
  |cons c cs=>exact hk.elim
 |cons k ks ih=>
  intro cs K hk;cases cs with
  |nil=>exact hk.elim
  |cons c cs=>
   cases c with
   |d x=>
    cases x with
    |int k' x=>
     simp only[a4f] at hk⊢;split at hk
     ·rename_i hc;simp only[if_pos hc];obtain⟨v,hv,hd⟩:=ih hk.2;exact⟨_,hv,fun h=>⟨hk.1,hd h⟩⟩
     ·exact hk.elim
    |_=>exact hk.elim
   |_=>exact hk.elim
theorem b3l {wide:Bool}{ks:List Aw}{v:AV}{K:List KC->Prop}(hk:a2z (AN P A ro E) wide ks v K): ∃x,K x/\ ∀{K2:List KC->Prop},K2 x->a2z (AN P A ro E) wide ks v K2:=by
 cases v
 case agg cs=>
  simp only[a2z] at hk⊢;split at hk
  ·rename_i hc;simp only[if_pos hc];exact b2w hk
  ·exact hk.elim
 all_goals
  simp only[a2z] at hk⊢;split at hk
  ·exact hk.elim
  ·rename_i hc;simp only[if_neg hc];exact b2w hk
theorem b7h {o:IOp}(hkl:o.kl= .r){ts:List AV}{h:List a0f}{mv:List Nat}{K:AV->List a0f->List Nat->Prop}(hk:a0a (AN P A ro E) o ⟨ts,h,mv⟩ K):
 ∃v,K v h []/\ ∀{h2:List a0f} {mv2:List Nat} {K2:AV->List a0f->List Nat->Prop},(∀x l,o.at=AC x->tgt (Al ts x)=AC l->a1a h2 l=a1a h l)->K2 v h2 []->a0a (AN P A ro E) o ⟨ts,h2,mv2⟩ K2:=by
 cases o with
 |load g x=>obtain⟨v,hv,hd⟩:=d0s hk;exact⟨v,hv,fun hh h=>hd (fun l=>hh x l rfl) h⟩
 |lookup wide ks ok m k=>
  simp only[a0a] at hk⊢;split at hk
  ·rename_i e1;split at hk
   ·rename_i e0;split at hk
    ·rename_i hc;obtain⟨v,hv,hd⟩:=b3l hk;cases ok with
     |true=>exact⟨_,hv,fun hh h=>by simp only[hh m _ rfl (by rw[e1];rfl),e0,if_pos hc];exact hd h⟩
     |false=>exact⟨_,hv,fun hh h=>by simp only[hh m _ rfl (by rw[e1];rfl),e0,if_pos hc];exact hd h⟩
    ·exact hk.elim
   ·exact hk.elim
  ·exact hk.elim
 |lookupv wide ks ok z m k=>
  simp only[a0a] at hk⊢;split at hk
  ·rename_i e1;split at hk
   ·rename_i e0;split at hk
    ·rename_i hc;obtain⟨kc,hv,hd⟩:=b3l hk;split at hv
     ·rename_i e2;cases ok with
      |true=>exact⟨_,hv,fun hh h=>by simp only[hh m _ rfl (by rw[e1];rfl),e0,if_pos hc];exact hd (by simp only[e2];exact h)⟩
      |false=>exact⟨_,hv,fun hh h=>by simp only[hh m _ rfl (by rw[e1];rfl),e0,if_pos hc];exact hd (by simp only[e2];exact h)⟩
     ·rename_i e2;cases ok with
      |true=>exact⟨_,hv,fun hh h=>by simp only[hh m _ rfl (by rw[e1];rfl),e0,if_pos hc];exact hd (by simp only[e2];exact h)⟩
      |false=>exact⟨_,hv,fun hh h=>by simp only[hh m _ rfl (by rw[e1];rfl),e0,if_pos hc];exact hd (by simp only[e2];exact h)⟩
    ·exact hk.elim
   ·exact hk.elim
  ·exact hk.elim
 |lenm x=>
  simp only[a0a] at hk⊢;split at hk
  ·rename_i e1;split at hk
   ·rename_i e0;exact⟨_,hk,fun hh h=>by simp only[hh x _ rfl (by rw[e1];rfl),e0];exact h⟩
   ·exact hk.elim
  ·exact hk.elim
 |call f as m=>cases m<;>simp[Au] at hkl
 |_=>simp[Au] at hkl
theorem b7p {l:Nat}{o:IOp}{ts:List AV}{h:List a0f}{mv:List Nat}{K:AV->a0f->Prop}(hk:a4a (AN P A ro E) l o ⟨ts,h,mv⟩ K):
 ∃v ob,K v ob/\ ∀{ts2:List AV} {h2:List a0f} {mv2:List Nat} {K2:AV->a0f->Prop},(∀x,x∈o.opds->Al ts2 x=Al ts x)->K2 v ob->a4a (AN P A ro E) l o ⟨ts2,h2,mv2⟩ K2:=by
 cases o with
 |alloc zs=>exact⟨_,_,hk,fun _ h=>h⟩
 |bnew sz=>exact⟨_,_,hk,fun _ h=>h⟩
 |mkmap wide ks=>exact⟨_,_,hk,fun _ h=>h⟩
 |mkmapv wide ks=>exact⟨_,_,hk,fun _ h=>h⟩
 |box x=>
  simp only[a4a] at hk⊢;split at hk
  ·rename_i hc;refine⟨_,_,hk,fun ha h=> ?_⟩;rw[ha x (by simp[AA]),if_pos hc];exact h
  ·exact hk.elim
 |mkslice sz zs b n=>obtain⟨m,hk,hm⟩:=a4v hk;refine⟨_,_,hk.2.2,fun ha h=> ?_⟩;simp only[a4a];rw[ha n (by simp[AA])];exact hm ⟨hk.1,hk.2.1,h⟩
 |_=>exact hk.elim
end
section
variable {P:Program} {A:Ann} {ro:Option Nat} {E:Ent}
theorem a0j.callb_mono {own:Bool}{f:BV}{args:List AV}{K K':AV->Prop}(hK: ∀v,K v->K' v)(hk:((AN P A ro E)).callb own f args K):((AN P A ro E)).callb own f args K':=by obtain⟨r,h1,h2⟩:=hk;exact⟨r,h1,hK _ h2⟩
theorem e0c.mono {f:BV}{args:List AV}{K K':AV->List a0f->Prop}(hK: ∀v h,K v h->K' v h)(hk:e0c P f args K):e0c P f args K':=by refine⟨hk.1,fun w S vs hS hv=>(hk.2 w S vs hS hv).mono fun e w' h=> ?_⟩;obtain⟨v,x,os,S',ρ',h1,h2,h3⟩:=h;exact⟨v,x,os,S',ρ',h1,hK _ _ h2,h3⟩
theorem a1h.mono {f:BV}{args:List AV}{h:List a0f}{K K':List Nat->AV->List a0f->Prop}(hK: ∀p v h,K p v h->K' p v h)(hk:a1h P f args h K):a1h P f args h K':=by refine⟨hk.1,fun w S ρ vs hs hv=>(hk.2 w S ρ vs hs hv).mono fun e w' h=> ?_⟩;obtain⟨v,x,pg,h',S',ρ',h1,h2,h3⟩:=h;exact⟨v,x,pg,h',S',ρ',h1,hK _ _ _ h2,h3⟩
theorem YieldAt.mono' {l:Nat}{args:Array Af}{w:AZ}{R R':Bu->AZ->Prop}(h:YieldAt Ai 0 P l args w R)(hR: ∀e w',R e w'->R' e w'):YieldAt Ai 0 P l args w R':=by obtain⟨fn,tmps,assign,body,h1,h2⟩:=h;exact⟨fn,tmps,assign,body,h1,h2.mono hR⟩
theorem b5d.mono {l:Nat}{args:List AV}{h:List a0f}{K K':List Nat->AV->List a0f->Prop}(hK: ∀p v h,K p v h->K' p v h)(hk:b5d P l args h K):b5d P l args h K':=by intro w S ρ vs b C hs hv hρ;refine YieldAt.mono' (hk w S ρ vs b C hs hv hρ) fun e w' h=> ?_;obtain⟨v,x,pg,h',S',ρ',h1,h2,h3⟩:=h;exact⟨v,x,pg,h',S',ρ',h1,hK _ _ _ h2,h3⟩
theorem b4j {h:List a0f}{sz:Nat}{x y:AV}{K K':AV->List a0f->Prop}(hK: ∀v h,K v h->K' v h)(hk:a5z (AN P A ro E) h sz x y K):a5z (AN P A ro E) h sz x y K':=by
 unfold a5z at hk⊢;refine a9c (fun sz2 m e2 hk=> ?_) hk;split at hk
 ·rename_i hc;rw[if_pos hc];split at hk
  ·split at hk
   ·rename_i hc2;simp only[if_pos hc2];split at hk
    ·split at hk
     ·rename_i hc3;simp only[if_pos hc3];exact⟨hk.1,hK _ _ hk.2⟩
     ·exact hk.elim
    ·exact hk
   ·exact hk.elim
  ·split at hk
   ·rename_i hc2;simp only[if_pos hc2];split at hk
    ·split at hk
     ·split at hk
      ·exact hK _ _ hk
      ·exact hk
     ·exact hk
    ·exact hk
   ·exact hk.elim
  ·exact hk
 ·exact hk.elim
theorem b2t {h:List a0f}{sz:Nat}{x y:AV}{K K':AV->List a0f->Prop}(hK: ∀v h,K v h->K' v h)(hk:a4o (AN P A ro E) h sz x y K):a4o (AN P A ro E) h sz x y K':=by
 unfold a4o at hk⊢;refine a9c (fun sz2 m e2 hk=> ?_) hk;split at hk
 ·rename_i hc;rw[if_pos hc];split at hk
  ·split at hk
   ·rename_i hc2;simp only[if_pos hc2];split at hk
    ·split at hk
     ·rename_i hc3;simp only[if_pos hc3];exact⟨hk.1,hK _ _ hk.2⟩
     ·exact hk.elim
    ·exact hk
   ·exact hk.elim
  ·exact hk
 ·exact hk.elim
theorem b6j {ts:List AV}{x:Option a0h}{d:IX}{K K':IX->Prop}(hK: ∀n,K n->K' n)(hk:b0u ts x d K):b0u ts x d K':=by
 cases x with
 |none=>exact hK _ hk
 |some o=>exact a7n hK hk
theorem b9g {h:List a0f}{p v:AV}{sz:Nat}{K K':List a0f->Prop}(hK: ∀h,K h->K' h)(hk:a6o (AN P A ro E) h p v sz K):a6o (AN P A ro E) h p v sz K':=by
 cases p with
 |ptr l off=>
  simp only[a6o] at hk⊢;split at hk
  ·rename_i hc;rw[if_pos hc];split at hk
   ·split at hk
    ·exact hK _ hk
    ·exact hk
   ·exact hk
  ·exact hk.elim
 |aptr l sz' i off=>
  simp only[a6o] at hk⊢;split at hk
  ·rename_i hc;rw[if_pos hc];split at hk
   ·split at hk
    ·rename_i hc2;simp only[if_pos hc2];split at hk
     ·exact⟨hk.1,hK _ hk.2⟩
     ·exact hk
    ·exact hk.elim
   refine b9w (fun new h' hk=> ?_) hk;split at hk
   ·split at hk
    ·rename_i hc';simp only[if_pos hc'];refine⟨hk.1,?_⟩;have hk:=hk.2;split at hk
     ·exact hK _ hk
     ·exact hk
    ·exact hk.elim
   ·exact hk
  ·exact hk.elim
 |_=>exact hk.elim
theorem i0c {h:List a0f}{y:AV}{K K':List AV->Prop}(hK: ∀l,K l->K' l)(hk:h9v h y K):h9v h y K':=by
 unfold h9v at hk⊢;split at hk
 ·exact hK _ hk
 ·split at hk
  ·exact hK _ hk
  ·exact hk
 ·split at hk
  ·split at hk
   ·exact hK _ hk
   ·exact hk
  ·exact hk
 ·exact hk
theorem h5z {h:List a0f}{x y:AV}{K K':AV->List a0f->List Nat->Prop}(hK: ∀v h p,K v h p->K' v h p)(hk:h4i (AN P A ro E) h x y K):h4i (AN P A ro E) h x y K':=by
 unfold h4i at hk⊢;refine i0c (fun new hk=> ?_) hk;split at hk
 ·split at hk
  ·exact⟨hk.1,hk.2.1,hk.2.2.1,hK _ _ _ hk.2.2.2⟩
  ·exact hk
 ·exact hk
theorem a5u {h:List a0f}{sz:Nat}{x y:AV}{mu:Bool}{K K':AV->List a0f->List Nat->Prop}(hK: ∀v h p,K v h p->K' v h p)(hk:a2g (AN P A ro E) h sz x y mu K):a2g (AN P A ro E) h sz x y mu K':=by
 unfold a2g at hk⊢;refine a9c (fun sz2 m e2 hk=> ?_) hk;split at hk
 ·rename_i hc;rw[if_pos hc];split at hk
  ·refine⟨hk.1,?_⟩;have hk:=hk.2;cases mu<;>exact hK _ _ _ hk
  ·split at hk
   ·rename_i hc2;simp only[if_pos hc2];refine⟨hk.1,hk.2.1,?_⟩;have hk:=hk.2.2;cases mu<;>exact hK _ _ _ hk
   ·exact hk.elim
  ·split at hk
   ·rename_i hc2;simp only[if_pos hc2];split at hk
    ·split at hk
     ·rename_i hc3;simp only[if_pos hc3];exact⟨hk.1,hk.2.1,hK _ _ _ hk.2.2⟩
     ·exact hk.elim
    ·exact hk
   ·exact hk.elim
  ·split at hk
   ·rename_i hc2;simp only[if_pos hc2];refine a7v (fun _ n e hk=> ?_) hk;refine⟨hk.1,hk.2.1,?_⟩;have hk:=hk.2.2;cases mu<;>exact hK _ _ _ hk
   ·exact hk.elim
  ·exact hk
 ·exact hk.elim
theorem a4n {o:IOp}{st:St}{K K':AV->List a0f->List Nat->Prop}(hK: ∀v h p,K v h p->K' v h p)(hk:a0a (AN P A ro E) o st K):a0a (AN P A ro E) o st K':=by
 by_cases h1:o.kl= .i\/o.kl= .p
 ·obtain⟨v,hv,hd⟩:=c6f h1 hk;exact hd (hK _ _ _ hv)
 by_cases h2:o.kl= .r
 ·obtain⟨v,hv,hd⟩:=b7h h2 hk;exact hd (fun _ _ _ _=>rfl) (hK _ _ _ hv)
 cases o with
 |newnil sz=>exact hK _ _ _ hk
 |alloc zs=>exact hK _ _ _ hk
 |mkmap wide ks=>exact hK _ _ _ hk
 |mkmapv wide ks=>exact hK _ _ _ hk
 |mapupdv wide ks m k x=>
  simp only[a0a] at hk⊢;split at hk
  ·split at hk
   ·split at hk
    ·rename_i hc;rw[if_pos hc];refine a6y (fun kc hk=> ?_) hk;split at hk
     ·exact hK _ _ _ hk
     ·exact hK _ _ _ hk
    ·exact hk.elim
   ·exact hk
  ·exact hk
 |box x=>
  simp only[a0a] at hk⊢;split at hk
  ·rename_i hc;rw[if_pos hc];exact hK _ _ _ hk
  ·exact hk.elim
 |mkslice sz zs b n=>exact a7n (fun n hk=>⟨hk.1,hk.2.1,hK _ _ _ hk.2.2⟩) hk
 |bslice sz n zs ps mu=>
  simp only[a0a] at hk⊢;split at hk
  ·refine b6b (fun _ _ hk=> ?_) hk;cases mu<;>exact hK _ _ _ hk
  ·exact hk
 |store sz a x=>simp only[a0a] at hk⊢;exact b9g (K:=fun h'=>K .und h' []) (fun _=>hK _ _ _) hk
 |mapupd wide ks m k x=>
  simp only[a0a] at hk⊢;split at hk
  ·split at hk
   ·split at hk
    ·rename_i hc;rw[if_pos hc];exact a6y (fun _=>a7n fun _=>hK _ _ _) hk
    ·exact hk.elim
   ·exact hk
  ·exact hk
 |call f as m=>
  simp only[a0a] at hk⊢;split at hk
  ·cases m with
   |data=>simp[Au] at h1
   |borrow=>
    refine c5k (fun vs hk=> ?_) hk;split at hk
    ·rename_i hc;rw[if_pos hc];exact a0j.callb_mono (fun _=>hK _ _ _) hk
    ·exact hk.elim
   |share=>
    refine a9l (fun vs h hk=> ?_) hk;split at hk
    ·rename_i hc;rw[if_pos hc];exact a0j.callb_mono (fun _=>hK _ _ _) hk
    ·exact hk.elim
   |fresh=>
    refine a9l (fun vs h hk=> ?_) hk;split at hk
    ·rename_i hc;rw[if_pos hc];exact e0c.mono (fun _ _=>hK _ _ _) hk
    ·exact hk.elim
   |raw=>exact a1h.mono (fun _ _ _=>hK _ _ _) hk
  ·split at hk
   ·rename_i hc;rw[if_pos hc];exact b5d.mono (fun _ _ _=>hK _ _ _) hk
   ·exact hk.elim
  ·exact hk
 |cap x=>
  simp only[a0a] at hk⊢;split at hk
  ·split at hk
   ·split at hk
    ·rename_i hc;rw[if_pos hc];split at hk
     ·rename_i hc;rw[if_pos hc];exact hK _ _ _ hk
     ·rename_i hc;rw[if_neg hc];exact hK _ _ _ hk
    ·exact hk.elim
   ·exact hk
  ·exact hk
 |append sz b x y mu=>exact a5u hK hk
 |copy sz x y=>simp only[a0a] at hk⊢;exact b4j (fun _ _=>hK _ _ _) hk
 |appendIn sz x y=>simp only[a0a] at hk⊢;exact b2t (fun _ _=>hK _ _ _) hk
 |appendN sz b x y mu=>
  simp only[a0a] at hk⊢;split at hk
  ·exact hK _ _ _ hk
  ·exact hK _ _ _ hk
  ·exact a5u hK hk
 |bnew sz=>exact hK _ _ _ hk
 |bnewv=>exact hK _ _ _ hk
 |bnewm sz=>exact hK _ _ _ hk
 |appendV b x y=>simp only[a0a] at hk⊢;exact h5z hK hk
 |extractF x i=>
  simp only[a0a] at hk⊢;split at hk
  ·split at hk
   ·exact a3a (fun _ _ hk=>hK _ _ _ hk) hk
   ·exact a6r (fun _ _ hk=>hK _ _ _ hk) hk
   ·exact a4z (fun _ _ hk=>hK _ _ _ hk) hk
   ·exact hk.elim
  ·exact hk.elim
 |mapent wide ks z m k=>
  simp only[a0a] at hk⊢;split at hk
  ·split at hk
   ·split at hk
    ·rename_i hc;rw[if_pos hc];refine a6y (fun kc hk=> ?_) hk;split at hk
     ·split at hk
      ·exact hK _ _ _ hk
      ·exact hk.elim
     ·exact hK _ _ _ hk
    ·exact hk.elim
   ·exact hk
  ·exact hk
 |entst m s x=>
  simp only[a0a] at hk⊢;split at hk
  ·split at hk
   ·exact a7n (fun n hk=>⟨hk.1,hK _ _ _ hk.2⟩) hk
   ·exact hk
  ·exact hk
 |bad=>exact hk.elim
 |clear sz zs x=>
  simp only[a0a] at hk⊢;split at hk
  ·split at hk
   ·rename_i hc;simp only[if_pos hc];split at hk
    ·split at hk
     ·rename_i hc2;simp only[if_pos hc2];exact⟨hk.1,hK _ _ _ hk.2⟩
     ·exact hk.elim
    ·exact hk
   ·exact hk.elim
  ·exact hk
 |slicex sz x lo hi=>
  simp only[a0a] at hk⊢;split at hk
  ·split at hk
   ·rename_i hc;simp only[if_pos hc];split at hk
    ·split at hk
     ·rename_i hc2;simp only[if_pos hc2];exact b6j (fun _=>b6j fun _ hk=>⟨hk.1,hk.2.1,hk.2.2.1,hK _ _ _ hk.2.2.2⟩) hk
     ·exact hk.elim
    ·exact hk
   ·exact hk.elim
  ·exact hk
 |ovl x y=>
  simp only[a0a] at hk⊢;split at hk
  ·split at hk
   ·exact hk.elim
   ·rename_i hc;rw[if_neg hc];refine⟨hk.1,hk.2.1,?_⟩;have hk:=hk.2.2;split at hk
    ·exact⟨hk.1,hK _ _ _ hk.2⟩
    ·exact hk
  ·exact hk
 |load|lookup|lookupv|lenm=>simp[Au] at h2
 |_=>simp[Au] at h1
theorem b7s {sz:Nat}{a x:a0h}{ts:List AV}{h:List a0f}{mv mv2:List Nat}{K:AV->List a0f->List Nat->Prop}{l l' off:Nat}{ob:a0f}(ha:Al ts a= .ptr l' off)(hne:l'≠l)
 (hk:a0a (AN P A ro E) (.store sz a x) ⟨ts,a2x h l ob,mv⟩ K): ∃h',h'.length=h.length/\K .und (a2x h' l ob) []/\ ∀{K2:AV->List a0f->List Nat->Prop},K2 .und h' []->a0a (AN P A ro E) (.store sz a x) ⟨ts,h,mv2⟩ K2:=by
 simp only[a0a,ha,a6o] at hk⊢;split at hk
 ·rename_i hc;simp only[if_pos hc];have e:a1a (a2x h l ob) l'=a1a h l':=by rw[a0i,a0l,a0i,AK (A7 hne)]
  rw[e] at hk;split at hk
  ·split at hk
   ·rename_i cs' e2;refine⟨a2x h l' (.var cs'),by simp[a0l],?_,fun h=>h⟩;rw[show a2x (a2x h l' (.var cs')) l ob=a2x (a2x h l ob) l' (.var cs') by simp only[a0l];exact (BC _ _ hne)];exact hk
   ·exact hk.elim
  ·exact hk.elim
 ·exact hk.elim
end
theorem a1o {i:Nat}: ∀{l:List Nat},b2l i l=AM↔i∈l:=by
 intro l
 induction l with
 |nil=>simp[b2l]
 |cons j l ih=>
  simp only[b2l];split
  ·rename_i h;have:=BK h;simp[this]
  ·rename_i h;have:i≠j:=fun e=>h (by subst e;simp);simp[ih,this]
theorem a4r {base l:Nat}: ∀{av:List Nat},a5c base l av=AM-> ∀s,s∈av->l≠base+s:=by
 intro av
 induction av with
 |nil=>simp
 |cons s r ih=>
  intro h;simp only[a5c] at h;split at h
  ·cases h
  ·rename_i hc;intro s' hs';rcases AE.1 hs' with rfl|hs'
   ·intro e;subst e;simp at hc
   ·exact ih h s' hs'
def AgU (o:a1c)(ts ts2:List AV):Prop:= ∀t,t∈o.uses->a1a ts t=a1a ts2 t
theorem AgU.symm {o:a1c}{ts ts2:List AV}(h:AgU o ts ts2):AgU o ts2 ts:=fun t ht=>(h t ht).symm
theorem b3c {x:Nat}: ∀{l:List a0h},a0h.t x∈l->x∈b2h l:=by
 intro l
 induction l with
 |nil=>simp
 |cons y l ih=>
  intro h;cases y with
  |t i=>
   simp only[b2h,AE];rcases AE.1 h with h|h
   ·cases h;exact .inl rfl
   ·exact .inr (ih h)
  |c v=>
   simp only[b2h];rcases AE.1 h with h|h
   ·cases h
   ·exact ih h
theorem AgU.opds {o:a1c}{ts ts2:List AV}(h:AgU o ts ts2): ∀x,x∈o.op.opds->Al ts x=Al ts2 x:=by
 intro x hx;cases x with
 |c v=>rfl
 |t i=>
  simp only[Al];rw[h i];unfold a1c.uses;split
  ·exact b3c hx
  ·exact AO _ (b3c hx)
theorem AgU.put {o:a1c}{st:St}{dst:Option Nat}{v:AV}(h: ∀t,dst=AC t->t∉o.uses):AgU o st.ts (st.put dst v).ts:=by
 intro t ht;cases dst with
 |none=>rfl
 |some d=>simp only[Am,a0i,a0l];rw[AK];intro e;subst e;exact h _ rfl ht
def gst (o:a1c)(ts:List AV):Option Bool:=
 match o.guard with
 |none=>AC AM
 |some (j,want)=>match a1a ts j with
  |some (.d (.bool b))=>AC (b==want)
  |some .und=>AC AS
  |_=>AQ
theorem d6r {st:St}{j:Nat}{b:Bool}(h:a1a st.ts j=AC (.d (.bool b))):st.setb j b=st:=by obtain⟨ts,hh,mv⟩:=st;simp only[St.setb,Am,Ar,and_true];rw[a0i] at h;rw[a0l];obtain⟨h1,h2⟩:=AF.1 h;rw[<-h2];exact Ap h1
theorem b3t {o:a1c}{st:St}{off on:St->Prop}:a2t o st off on=(match gst o st.ts with|some AM=>on st|some AS=>off st|none=>False):=by
 cases hg:o.guard with
 |none=>simp only[a2t,gst,hg]
 |some p=>
  obtain⟨j,want⟩:=p;simp only[a2t,gst,hg];cases hb:a1a st.ts j with
  |none=>rfl
  |some v=>
   cases v with
   |d x=>
    cases x with
    |bool b=>cases b<;>cases want<;>simp[d6r hb]
    |_=>rfl
   |_=>rfl
theorem a3d {o:a1c}{ts ts2:List AV}(h:AgU o ts ts2):gst o ts=gst o ts2:=by
 unfold gst;split
 ·rfl
 ·rename_i j want hg;rw[h j (by simp[a1c.uses,hg])]
theorem a8r {base:Nat}{d:a0m}{ts ts2:List AV}(h:AgU d.o ts ts2):c2n base d ts=c2n base d ts2:=by
 unfold c2n;split
 ·rfl
 ·split
  ·rename_i x hx;have:x∈d.o.op.opds:=by cases ho:d.o.op<;>rw[ho] at hx<;>simp[IOp.at] at hx<;>subst hx<;>simp[AA]
   rw[h.opds x this]
  ·rfl
theorem b7k {base:Nat}{d:a0m}{ts:List AV}(h:c2n base d ts=AM){x:a0h}{l:Nat}(hx:d.o.op.at=AC x)(hl:tgt (Al ts x)=AC l): ∀s,s∈d.av->l≠base+s:=by
 unfold c2n at h;split at h
 ·rename_i e;rw[e];simp
 ·rw[hx] at h;simp only at h;split at h
  ·rename_i e;rw[e] at hl;cases hl;exact a4r h
  ·rename_i e;rw[e] at hl;cases hl;split at h
   ·exact a4r h
   ·cases h
  ·rename_i e;rw[e] at hl;cases hl;split at h
   ·exact a4r h
   ·cases h
  ·rename_i e;rw[e] at hl;cases hl
  ·cases h
def eff (st:St)(δ:Option (Nat×a0f))(dst:Option Nat)(v:AV):St:=
 match δ with
 |none=>st.put dst v
 |some (l,ob)=>(st.setH (a2x st.h l ob)).put dst v
theorem a6v {st:St}{dst:Option Nat}{v:AV}:(st.put dst v).h=st.h:=by cases dst<;>rfl
theorem e2q {st:St}{dst:Option Nat}{v:AV}:(st.put dst v).mv=st.mv:=by cases dst<;>rfl
theorem a6f {st:St}{dst:Option Nat}{v:AV}{h:List a0f}:(st.put dst v).setH h=(st.setH h).put dst v:=by cases dst<;>rfl
theorem a4u {st:St}{d d':Option Nat}{v v':AV}(h: ∀t,d=AC t->d'≠AC t):(st.put d v).put d' v'=(st.put d' v').put d v:=by
 cases d with
 |none=>cases d'<;>rfl
 |some t=>
  cases d' with
  |none=>rfl
  |some t'=>simp only[Am,a0l,Ar,and_true];exact BC _ _ fun e=>h t rfl (by rw[e])
theorem c9h {st:St}{d:Option Nat}{v v':AV}:(st.put d v).put d v'=st.put d v':=by
 cases d with
 |none=>rfl
 |some t=>simp[Am,a0l]
section
variable {P:Program} {A:Ann} {ro:Option Nat} {E:Ent} {base:Nat}
theorem a4t {F:List a0m}{d:a0m}{st:St}{K:St->Prop}:b1f (AN P A ro E) base F d st K=(match gst d.o st.ts with|some AM=>evD (AN P A ro E) base F d st K|some AS=>K (st.put d.o.dst .und)|none=>False):=by unfold b1f;rw[b3t]
theorem b1d {o:IOp}{st:St}{K:AV->List a0f->List Nat->Prop}:a0a (AN P A ro E) o st K=a0a (AN P A ro E) o ⟨st.ts,st.h,st.mv⟩ K:=rfl
theorem det {F:List a0m}{d:a0m}{st:St}{K:St->Prop}(hkl:d.o.op.kl≠ .m)(hk:b1f (AN P A ro E) base F d st K):
 ∃v δ,(δ=AQ\/(d.o.op.kl= .a/\ ∃ob,δ=AC (base+d.slot,ob)))/\(gst d.o st.ts=AC AS->v= .und)/\K (eff st δ d.o.dst v)/\
  ∀{st2:St} {F2:List a0m} {K2:St->Prop},AgU d.o st.ts st2.ts->(d.o.op.kl= .r-> ∀l,(∀s,s∈d.av->l≠base+s)->a1a st2.h l=a1a st.h l)->K2 (eff st2 δ d.o.dst v)->b1f (AN P A ro E) base F2 d st2 K2:=by
 rw[a4t] at hk;split at hk
 ·rename_i hg;unfold evD at hk;split at hk
  ·rename_i ha;obtain⟨v,ob,hk,hd⟩:=b7p hk;refine⟨v,AC (base+d.slot,ob),.inr ⟨ha,ob,rfl⟩,(fun h=>by rw[hg] at h;cases h),hk,fun hag _ h2=> ?_⟩;rw[a4t,<-a3d hag,hg];simp only[evD,ha];exact hd (fun x hx=>(hag.opds x hx).symm) h2
  ·rename_i ha;exact absurd ha hkl
  ·rename_i ha;split at hk
   ·rename_i hav;obtain⟨v,hv,hd⟩:=b7h ha hk;refine⟨v,AQ,.inl rfl,(fun h=>by rw[hg] at h;cases h),hv,fun {st2} F2 K2 hag hh h2=> ?_⟩;rw[a4t,<-a3d hag,hg];simp only[evD,ha];rw[<-a8r hag,if_pos hav,b1d,<-a3c (mv:=st.mv) hag.opds];exact hd (fun x l hx hl=>hh ha l (b7k hav hx hl)) h2
   ·exact hk.elim
  ·rename_i h1 h2 h3;have hip:d.o.op.kl= .i\/d.o.op.kl= .p:=by
    cases hx:d.o.op.kl
    ·exact .inl rfl
    ·exact absurd hx h3
    ·exact absurd hx h1
    ·exact .inr rfl
    ·exact absurd hx h2
   obtain⟨v,hv,hd⟩:=c6f hip hk;refine⟨v,AQ,.inl rfl,(fun h=>by rw[hg] at h;cases h),hv,fun {st2} F2 K2 hag _ h2'=> ?_⟩;rw[a4t,<-a3d hag,hg];have:evD (AN P A ro E) base F2 d st2 K2=a0a (AN P A ro E) d.o.op st2 fun v _ _=>K2 (st2.put d.o.dst v):=by
    unfold evD;rcases hip with e|e<;>rw[e]
   simp only[];rw[this,b1d,<-a3c (mv:=st.mv) hag.opds];exact hd h2'
 ·rename_i hg;refine⟨.und,AQ,.inl rfl,fun _=>rfl,hk,fun hag _ h2=> ?_⟩;rw[a4t,<-a3d hag,hg];exact h2
 ·exact hk.elim
structure May (a b:a0m):Prop where
 d1: ∀t,b.o.dst=AC t->t∉a.o.uses
 d2: ∀t,a.o.dst=AC t->t∉b.o.uses
 d3: ∀t,a.o.dst=AC t->b.o.dst≠AC t
 self: ∀t,a.o.dst=AC t->t∉a.o.uses
 al:b.alone=AS
 am:a.o.op.kl≠ .m
 ra:a.o.op.kl= .r->b.o.op.kl= .a->b.slot∈a.av
 rm:b.o.op.kl= .m->b2l a.i b.bef=AS
 wt:b.o.op.kl= .m->a.watch=AM
 ar:a.o.op.kl= .a->b.o.op.kl= .r->a.slot∈b.av
 amm:a.o.op.kl= .a->b.o.op.kl= .m->a.slot∈b.av
 aa:a.o.op.kl= .a->b.o.op.kl= .a->a.slot≠b.slot
structure e6o (r p:a0m):Prop where
 d1: ∀t,p.o.dst=AC t->t∉r.o.uses
 d2: ∀t,p.o.dst=AC t->r.o.dst≠AC t
 av:r.o.op.kl= .r->p.o.op.kl= .a->p.slot∈r.av
theorem b6t {st:St}{δ:Option (Nat×a0f)}{dst:Option Nat}{v:AV}:(eff st δ dst v).ts=(st.put dst v).ts:=by
 cases δ with
 |none=>rfl
 |some p=>cases dst<;>rfl
theorem AgU.eff {o:a1c}{st:St}{δ:Option (Nat×a0f)}{dst:Option Nat}{v:AV}(h: ∀t,dst=AC t->t∉o.uses):AgU o st.ts (Vf.eff st δ dst v).ts:=by rw[b6t];exact AgU.put h
theorem c9k {st:St}{δ:Option (Nat×a0f)}{dst:Option Nat}{v:AV}:(eff st δ dst v).h=match δ with|none=>st.h|some (l,ob)=>a2x st.h l ob:=by
 cases δ with
 |none=>exact a6v
 |some p=>cases dst<;>rfl
theorem c1z {st:St}{δ δ':Option (Nat×a0f)}{d d':Option Nat}{v v':AV}(h: ∀t,d=AC t->d'≠AC t)(hδ: ∀l ob l' ob',δ=AC (l,ob)->δ'=AC (l',ob')->l≠l'):
 eff (eff st δ d v) δ' d' v'=eff (eff st δ' d' v') δ d v:=by
 cases δ with
 |none=>
  cases δ' with
  |none=>exact a4u h
  |some p'=>obtain⟨l',ob'⟩:=p';simp only[eff,a6v,a6f];exact a4u h
 |some p=>
  obtain⟨l,ob⟩:=p;cases δ' with
  |none=>simp only[eff,a6v,a6f];exact a4u h
  |some p'=>obtain⟨l',ob'⟩:=p';have hne:=hδ l ob l' ob' rfl rfl;simp only[eff,a6v,a6f];rw[a4u h];congr 1;congr 1;simp only[BJ,Ar,true_and,and_true,a0l];exact BC _ _ hne
theorem d3j {F F':List a0m}{p j:a0m}{st:St}{K:St->Prop}(hm:May p j)(hj:j.o.op.kl≠ .m)(hk:b1f (AN P A ro E) base F p st fun st1=>b1f (AN P A ro E) base F' j st1 K):
 b1f (AN P A ro E) base F j st fun st1=>b1f (AN P A ro E) base F p st1 K:=by
 obtain⟨v,δ,hδ,_,hk,hd⟩:=det hm.am hk;obtain⟨v',δ',hδ',_,hk,hd'⟩:=det hj hk;refine hd' (AgU.eff hm.d2).symm (fun hr l hl=> ?_) (hd (AgU.eff hm.d1) (fun hr l hl=> ?_) ?_)
 ·rw[c9k];rcases hδ with rfl|⟨ha,ob,rfl⟩
  ·rfl
  ·simp only[a0i,a0l];rw[AK];exact fun e=>hl p.slot (hm.ar ha hr) e.symm
 ·rw[c9k];rcases hδ' with rfl|⟨ha,ob,rfl⟩
  ·rfl
  ·simp only[a0i,a0l];rw[AK];exact fun e=>hl j.slot (hm.ra hr ha) e.symm
 ·rw[c1z (δ:=δ') (δ':=δ)]
  ·exact hk
  ·intro t ht e;exact hm.d3 t e ht
  ·rintro l ob l' ob' rfl rfl;rcases hδ with h|⟨ha,ob,h⟩
   ·cases h
   ·rcases hδ' with h'|⟨ha',ob',h'⟩
    ·cases h'
    ·cases h;cases h';have:=hm.aa ha ha';omega
end
section
variable {P:Program} {A:Ann} {ro:Option Nat} {E:Ent} {base:Nat}
theorem a2i {st:St}{k:Prop}{r:a0m}{rs:List a0m}:a1b (AN P A ro E) base st k (r::rs)=(if r.o.op.kl= .r then (match gst r.o st.ts with
 |some AM=>if c2n base r st.ts then a0a (AN P A ro E) r.o.op st fun v _ _=>match r.o.dst with
   |some d=>v=Al st.ts (.t d)/\a1b (AN P A ro E) base st k rs
   |none=>a1b (AN P A ro E) base st k rs
  else False
 |some AS=>a1b (AN P A ro E) base st k rs
 |none=>False) else a1b (AN P A ro E) base st k rs):=by
 conv=>lhs;unfold a1b
 rw[b3t];rfl
theorem a5g {st st2:St}{k k2:Prop}(hkk:k->k2): ∀{rs:List a0m},a1b (AN P A ro E) base st k rs->
 (∀r,r∈rs->r.o.op.kl= .r->AgU r.o st.ts st2.ts/\(∀t,r.o.dst=AC t->a1a st.ts t=a1a st2.ts t)/\ ∀l,(∀s,s∈r.av->l≠base+s)->a1a st2.h l=a1a st.h l)->a1b (AN P A ro E) base st2 k2 rs:=by
 intro rs
 induction rs with
 |nil=>intro hk _;exact hkk hk
 |cons r rs ih=>
  intro hk h;have ih:=fun hk=>ih hk fun r hr=>h r (by simp[hr]);rw[a2i] at hk⊢;by_cases hkl:r.o.op.kl= .r
  ·obtain⟨hag,hdst,hh⟩:=h r (by simp) hkl;rw[if_pos hkl] at hk⊢;rw[<-a3d hag];split at hk
   ·split at hk
    ·rename_i hav;rw[<-a8r hag,if_pos hav,b1d,<-a3c (mv:=st.mv) hag.opds];obtain⟨v,hv,hd⟩:=b7h hkl hk;refine hd (fun x l hx hl=>hh l (b7k hav hx hl)) ?_;cases hr:r.o.dst with
     |none=>rw[hr] at hv;exact ih hv
     |some d=>rw[hr] at hv;refine⟨hv.1.trans ?_,ih hv.2⟩;simp only[Al,hdst d hr]
    ·exact hk.elim
   ·exact ih hk
   ·exact hk
  ·rw[if_neg hkl] at hk⊢;exact ih hk
theorem b5e {F:List a0m}{st:St}{k:Prop}{r:a0m}{rs:List a0m}(hkl:r.o.op.kl= .r)(hk:a1b (AN P A ro E) base st k (r::rs))
 (hg:gst r.o st.ts=AC AS->st.put r.o.dst .und=st):b1f (AN P A ro E) base F r st fun st1=>st1=st/\a1b (AN P A ro E) base st k rs:=by
 rw[a2i,if_pos hkl] at hk;rw[a4t];split at hk
 ·rename_i h
  try rw[h]
  split at hk
  ·rename_i hav;simp only[evD,hkl,if_pos hav];refine a4n (fun v _ _ hk=> ?_) hk;cases hr:r.o.dst with
   |none=>rw[hr] at hk;exact⟨rfl,hk⟩
   |some d=>
    rw[hr] at hk;refine⟨?_,hk.2⟩;rw[hk.1];obtain⟨ts,hh,mv⟩:=st;simp only[Am,Al,Ar,and_true];rw[a0l,a0i];cases hd:ts[d]? with
    |none=>simp only[];exact BB (by rw[List.getElem?_eq_none_iff] at hd;exact hd)
    |some v=>simp only[];obtain⟨h1,h2⟩:=AF.1 hd;rw[<-h2];exact Ap h1
  ·exact hk.elim
 ·rename_i h;try rw[h]
  exact⟨hg h,hk⟩
 ·exact hk.elim
theorem a1t {m:Nat}: ∀{pg:List Nat},a3u m pg=AM-> ∀l,l∈pg->Nat.beq l m=AS:=by
 intro pg
 induction pg with
 |nil=>simp
 |cons l pg ih=>
  intro h;simp only[a3u] at h;split at h
  ·cases h
  ·rename_i hb;intro l' hl';rcases AE.1 hl' with rfl|hl'
   ·exact Bool.eq_false_iff.2 hb
   ·exact ih h l' hl'
mutual
theorem a9q {l:Nat}{pg:List Nat}(hl:l∈pg): ∀(v:AV),a1u pg v=AM->v.forget l AS=v
 | .agg cs,h=>by simp only[a1u] at h;simp only[Ag];rw[a2k hl cs h]
 | .tuple cs,h=>by simp only[a1u] at h;simp only[Ag];rw[a2k hl cs h]
 | .fn f us cs,h=>by
   simp only[a1u] at h;split at h
   ·rename_i h1;simp only[Ag];rw[a2k hl us h1,a2k hl cs h]
   ·cases h
 | .ptr m _,h=>by simp only[a1u] at h;simp[Ag,a1t h l hl]
 | .aptr m _ _ _,h=>by simp only[a1u] at h;simp[Ag,a1t h l hl]
 | .msl m _ _ _ _,h=>by simp only[a1u] at h;simp[Ag,a1t h l hl]
 | .vsl m _ _,h=>by simp only[a1u] at h;simp[Ag,a1t h l hl]
 | .map m,h=>by simp only[a1u] at h;simp[Ag,a1t h l hl]
 | .yl m,h=>by simp only[a1u] at h;simp[Ag,a1t h l hl]
 | .d _,_=>rfl
 | .any,_=>rfl
 | .und,_=>rfl
 | .dptr _ _,_=>rfl
 | .dfs _ _ _,_=>rfl
 | .ge _,_=>rfl
theorem a2k {l:Nat}{pg:List Nat}(hl:l∈pg): ∀(vs:List AV),a6n pg vs=AM->Bl l AS vs=vs
 |[],_=>rfl
 |v::r,h=>by
  simp only[a6n] at h;split at h
  ·rename_i h1;simp only[Bl];rw[a9q hl v h1,a2k hl r h]
  ·cases h
end
theorem a8c {v:AV}: ∀{pg pg':List Nat},(∀l,l∈pg'->l∈pg)->a1u pg v=AM->a3g pg' v=v:=by
 intro pg pg'
 induction pg' with
 |nil=>intro _ _;rfl
 |cons l pg' ih=>intro hs h;simp only[a3g];rw[a9q (hs l (by simp)) v h];exact ih (fun m hm=>hs m (by simp[hm])) h
theorem b3v {pg:List Nat}{ts:List AV}: ∀{l:List Nat},a4g pg ts l=AM-> ∀t,t∈l-> ∀v,a1a ts t=AC v->a1u pg v=AM:=by
 intro l
 induction l with
 |nil=>simp
 |cons t l ih=>
  intro h;simp only[a4g] at h;intro t' ht' v hv;cases hv0:a1a ts t with
  |none=>
   simp only[hv0,if_true] at h;rcases AE.1 ht' with rfl|ht'
   ·rw[hv0] at hv;cases hv
   ·exact ih h t' ht' v hv
  |some u=>
   simp only[hv0] at h;split at h
   ·rename_i h1;rcases AE.1 ht' with rfl|ht'
    ·rw[hv0] at hv;cases hv;exact h1
    ·exact ih h t' ht' v hv
   ·cases h
theorem a9j {pg:List Nat}{ts ts2:List AV}: ∀{l:List Nat},(∀t,t∈l->a1a ts t=a1a ts2 t)->a4g pg ts l=a4g pg ts2 l:=by
 intro l
 induction l with
 |nil=>intro _;rfl
 |cons t l ih=>intro h;simp only[a4g];rw[h t (by simp),ih fun t ht=>h t (by simp[ht])]
theorem c8v {st:St}{pg:List Nat}{t:Nat}:a1a (st.purge pg).ts t=(a1a st.ts t).map (a3g pg):=by rw[a0i,a0i,(a1r pg st).1,List.getElem?_map]
theorem c7l {pg:List Nat}{st:St}{dst:Option Nat}{v:AV}(hv:a1u pg v=AM):(st.put dst v).purge pg=(st.purge pg).put dst v:=by
 have h1:=a1r pg (st.put dst v);have h2:=a1r pg st;have hm: ∀(pg:List Nat) (st1 st2:St),st1.mv=st2.mv->(st1.purge pg).mv=(st2.purge pg).mv:=by
  intro pg
  induction pg with
  |nil=>intro st1 st2 h;exact h
  |cons l pg ih=>intro st1 st2 h;exact ih _ _ (by simp[h])
 have h3:=hm pg (st.put dst v) st e2q;cases hst:(st.put dst v).purge pg with
 |mk ts h mv=>
  rw[hst] at h1 h3;cases hst2:st.purge pg with
  |mk ts2 hh2 mv2=>
   rw[hst2] at h2 h3;simp only at h1 h2 h3;cases dst with
   |none=>simp only[Am] at h1⊢;rw[h1.1,h1.2,h2.1,h2.2,h3]
   |some d=>simp only[Am,a0l] at h1⊢;rw[h1.1,h1.2,h2.1,h2.2,h3,List.map_set,a8c (fun _ h=>h) hv]
theorem a7m {d r:a0m}{F:List a0m}(h:r∈a4b d F):r∈F:=by
 induction F with
 |nil=>simp[a4b] at h
 |cons x F ih=>
  simp only[a4b] at h;split at h
  ·exact AO _ (ih h)
  ·rcases AE.1 h with rfl|h
   ·exact List.mem_cons_self
   ·exact AO _ (ih h)
theorem e7w {o:IOp}(h:o.kl= .m){x:a0h}(hx:o.at=AC x): ∃sz y,o= .store sz x y:=by
 cases o with
 |store sz a y=>simp[IOp.at] at hx;subst hx;exact⟨sz,y,rfl⟩
 |load|lookup|lookupv|lenm=>simp[Au] at h
 |_=>simp[IOp.at] at hx
theorem a8g {st:St}{dst:Option Nat}{v:AV}{t:Nat}(h:dst≠AC t):a1a (st.put dst v).ts t=a1a st.ts t:=by
 cases dst with
 |none=>rfl
 |some d=>simp only[Am,a0i,a0l];rw[AK];intro e;subst e;exact h rfl
theorem c7d {pg:List Nat}{ts:List AV}: ∀{F:List a0m},a7a pg ts F=AM-> ∀r,r∈F->a4g pg ts r.o.uses=AM/\a4g pg ts (e4t r.o)=AM:=by
 intro F
 induction F with
 |nil=>simp
 |cons x F ih=>
  intro h;simp only[a7a] at h;split at h
  ·rename_i h1;split at h
   ·rename_i h2;intro r hr;rcases AE.1 hr with rfl|hr
    ·exact⟨h1,h2⟩
    ·exact ih h r hr
   ·cases h
  ·cases h
theorem b9f {pg:List Nat}{ts ts2:List AV}: ∀{F:List a0m},(∀r,r∈F->AgU r.o ts ts2/\ ∀t,r.o.dst=AC t->a1a ts t=a1a ts2 t)->a7a pg ts F=a7a pg ts2 F:=by
 intro F
 induction F with
 |nil=>intro _;rfl
 |cons x F ih=>
  intro h;obtain⟨h1,h2⟩:=h x (by simp);simp only[a7a];rw[a9j h1,ih fun r hr=>h r (by simp[hr])];congr 2;unfold e4t;cases hd:x.o.dst with
  |none=>rfl
  |some d=>
   have:a4g pg ts [d]=a4g pg ts2 [d]:=a9j fun t ht=>by simp at ht;subst ht;exact h2 t hd
   simp only[this]
theorem b4u {st:St}{d:Nat}{v u:AV}(h:a1a (st.put (AC d) v).ts d=AC u):u=v:=by
 simp only[Am,a0i,a0l,BU] at h;split at h
 ·split at h
  ·simpa using h.symm
  ·cases h
 ·rename_i h1;exact absurd trivial h1
theorem e4b {F:List a0m}{p j:a0m}{st:St}{K:St->Prop}(hm:May p j)(hj:j.o.op.kl= .m)(hF: ∀r,r∈F->e6o r p)
 (hk:b1f (AN P A ro E) base F p st fun st1=>b1f (AN P A ro E) base (a8e p F) j st1 K):b1f (AN P A ro E) base F j st fun st1=>b1f (AN P A ro E) base F p st1 K:=by
 obtain⟨v,δ,hδ,hund,hk,hd⟩:=det hm.am hk;have hag:AgU j.o st.ts (eff st δ p.o.dst v).ts:=AgU.eff hm.d2;have eF:a8e p F=p::F:=by unfold a8e;rw[if_pos (hm.wt hj)]
 have eA:a4b j (a8e p F)=p::a4b j F:=by rw[eF,a4b,if_neg (by rw[hm.rm hj];simp)]
 rw[a4t] at hk⊢;rw[<-a3d hag] at hk;split at hk
 ·rename_i hg;simp only[evD,hj] at hk⊢;rw[<-a8r hag] at hk;rw[eA] at hk;split at hk
  ·rename_i hav;rw[if_pos hav];rcases hδ with rfl|⟨ha,ob,rfl⟩
   ·
    rw[b1d,<-a3c (mv:=st.mv) hag.opds,c9k] at hk;refine a4n (fun vj h' pg hk=> ?_) hk;have fin: ∀(st2:St),AgU p.o st.ts st2.ts->a1b (AN P A ro E) base (st2.put p.o.dst v) (K (st2.put p.o.dst v)) (p::a4b j F)->
     a1b (AN P A ro E) base st2 (b1f (AN P A ro E) base F p st2 K) (a4b j F):=by
     intro st2 ag2 hk;have tr: ∀r,r∈F->r.o.op.kl= .r->AgU r.o (st2.put p.o.dst v).ts st2.ts/\(∀t,r.o.dst=AC t->a1a (st2.put p.o.dst v).ts t=a1a st2.ts t)/\
      ∀l,(∀s,s∈r.av->l≠base+s)->a1a st2.h l=a1a (st2.put p.o.dst v).h l:=
      fun r hr _=>⟨(AgU.put (hF r hr).d1).symm,fun t ht=>a8g fun e=>(hF r hr).d2 t e ht,fun l _=>by rw[a6v]⟩
     by_cases hp:p.o.op.kl= .r
     ·have hgp:gst p.o (st2.put p.o.dst v).ts=gst p.o st.ts:=by rw[<-a3d (AgU.put (st:=st2) (v:=v) hm.self),a3d ag2]
      have hk:=b5e (F:=F) hp hk (fun hg'=>by
       rw[hgp] at hg';rw[hund hg',c9h])
      obtain⟨v2,δ2,hδ2,_,⟨h1,h2⟩,hd2⟩:=det hm.am hk;rcases hδ2 with rfl|⟨ha,_⟩
      ·refine a5g (fun hk=> ?_) h2 fun r hr=>tr r (a7m hr);refine hd2 (AgU.put hm.self).symm (fun _ l _=>by rw[a6v]) ?_;have:eff st2 AQ p.o.dst v2=st2.put p.o.dst v:=by rw[<-h1];simp only[eff,c9h]
       rw[this];exact hk
      ·rw[hp] at ha;cases ha
     ·rw[a2i,if_neg hp] at hk;refine a5g (fun hk=> ?_) hk fun r hr=>tr r (a7m hr);exact hd ag2 (fun h=>absurd h hp) hk
    cases pg with
    |cons x pg=>
     simp only at hk⊢;rw[hm.al] at hk⊢;simp only[Bool.false_eq_true,if_false] at hk⊢;split at hk
     ·rename_i hlt;rw[if_pos hlt];split at hk
      ·rename_i hcalm;obtain⟨hc1,hc2⟩:=c7d hcalm p (by simp);have hcr:a7a (x::pg) st.ts (a4b j F)=AM:=by
        rw[b9f (ts2:=(eff st AQ p.o.dst v).ts) fun r hr=> ?_]
        ·have h9:=hcalm;simp only[a7a,hc1,hc2,if_true] at h9;exact h9
        ·have hr:=hF r (a7m hr);rw[b6t];exact⟨AgU.put hr.d1,fun t ht=>(a8g fun e=>hr.d2 t e ht).symm⟩
       rw[if_pos hcr];have hag2:AgU p.o st.ts (((st.setH h').purge (x::pg)).put j.o.dst vj).ts:=by
        intro t ht;rw[a8g (fun e=>hm.d1 t e ht),c8v];show a1a st.ts t=(a1a st.ts t).map _;cases hv:a1a st.ts t with
        |none=>rfl
        |some u=>
         have hcl:a1u (x::pg) u=AM:=by refine b3v hc1 t ht u ?_;rw[b6t,a8g fun e=>hm.self t e ht];exact hv
         simp only[Ay];rw[a8c (fun _ h=>h) hcl]
       have hst:((((eff st AQ p.o.dst v).setH h').purge (x::pg)).put j.o.dst vj)=(((st.setH h').purge (x::pg)).put j.o.dst vj).put p.o.dst v:=by
        simp only[eff,a6f];cases hpd:p.o.dst with
        |none=>rfl
        |some d=>
         by_cases hin: ∃u,a1a (st.put (AC d) v).ts d=AC u
         ·obtain⟨u,hu⟩:=hin;have hcv:a1u (x::pg) v=AM:=by have:=b4u hu;subst this;refine b3v hc2 d (by simp[e4t,hpd]) u ?_;rw[b6t,hpd];exact hu
          rw[c7l hcv];exact a4u fun t ht=>hm.d3 t (by rw[hpd];exact ht)
         ·have hnone:st.ts.length<=d:=by refine Nat.le_of_not_lt fun hlt=>hin ⟨v,?_⟩;simp[Am,a0i,a0l,hlt]
          have e1: ∀(s2:St),s2.ts.length<=d->s2.put (AC d) v=s2:=by intro s2 h;cases s2;simp only[Am,a0l,Ar,and_true];exact BB h
          rw[e1 (st.setH h') hnone,e1];have hl:((st.setH h').purge (x::pg)).ts.length=st.ts.length:=by rw[(a1r _ _).1];simp[BJ]
          cases j.o.dst with
          |none=>show ((st.setH h').purge (x::pg)).ts.length<=d;omega
          |some dj=>simp only[Am,a0l,List.length_set];omega
       rw[hst] at hk;exact fin _ hag2 hk
      ·exact hk.elim
     ·exact hk.elim
    |nil=>
     simp only at hk⊢;have e1:((eff st AQ p.o.dst v).setH h').put j.o.dst vj=((st.setH h').put j.o.dst vj).put p.o.dst v:=by simp only[eff,a6f];exact a4u hm.d3
     rw[e1] at hk;exact fin _ (AgU.put hm.d1:AgU p.o (st.setH h').ts _) hk
   ·
    have hnr:p.o.op.kl≠ .r:=by rw[ha];simp
    have hslot:=hm.amm ha hj;have hx: ∃sz x y l' off,j.o.op= .store sz x y/\Al st.ts x= .ptr l' off/\l'≠base+p.slot:=by
     have hav':=hav;unfold c2n at hav';split at hav'
     ·rename_i e;rw[e] at hslot;simp at hslot
     ·split at hav'
      ·rename_i x hx;obtain⟨sz,y,hst⟩:=e7w hj hx;split at hav'
       ·rename_i l' off e3;exact⟨sz,x,y,l',off,hst,e3,a4r hav' _ hslot⟩
       ·rw[hj] at hav';simp at hav'
       ·rw[hj] at hav';simp at hav'
       ·rw[hj] at hav';simp at hav'
       ·cases hav'
      ·cases hav'
    obtain⟨sz,x,y,l',off,hst,hx,hne⟩:=hx;rw[b1d,<-a3c (mv:=st.mv) hag.opds,c9k,hst] at hk;obtain⟨h',hlen,hk,hd3⟩:=b7s hx hne hk;rw[hst];refine hd3 ?_;simp only at hk⊢;rw[a2i,if_neg hnr] at hk;have e1:((eff st (AC (base+p.slot,ob)) p.o.dst v).setH (a2x h' (base+p.slot) ob)).put j.o.dst .und=eff ((st.setH h').put j.o.dst .und) (AC (base+p.slot,ob)) p.o.dst v:=by simp only[eff,a6f,a6v];exact a4u hm.d3
    rw[e1] at hk;generalize hst2:(st.setH h').put j.o.dst .und=st2 at hk⊢;have ag2:AgU p.o st.ts st2.ts:=by subst hst2;exact (AgU.put hm.d1:AgU p.o (st.setH h').ts _)
    refine a5g (fun hk=>hd ag2 (fun h=>absurd h hnr) hk) hk fun r hr hrk=> ?_;have hr:=hF r (a7m hr);refine⟨(AgU.eff hr.d1).symm,fun t ht=> ?_,fun l hl=> ?_⟩
    ·rw[b6t];exact a8g fun e=>hr.d2 t e ht
    ·rw[c9k];simp only[a0i,a0l];rw[AK];exact fun e=>hl p.slot (hr.av hrk ha) e.symm
  ·exact hk.elim
 ·rename_i hg;refine hd (AgU.put hm.d1) (fun _ l _=>by rw[a6v]) ?_;have:eff (st.put j.o.dst .und) δ p.o.dst v=(eff st δ p.o.dst v).put j.o.dst .und:=by have:=c1z (st:=st) (δ:=AQ) (δ':=δ) (d:=j.o.dst) (d':=p.o.dst) (v:= .und) (v':=v) (fun t ht e=>hm.d3 t e ht) (by rintro l ob l' ob' h _;cases h);exact this
  rw[this];exact hk
 ·exact hk
end
section
variable {P:Program} {A:Ann} {ro:Option Nat} {E:Ent} {base:Nat}
theorem b1l {st:St}{k k2:Prop}(hkk:k->k2){F F':List a0m}(hs:F'.Sublist F):a1b (AN P A ro E) base st k F->a1b (AN P A ro E) base st k2 F':=by
 induction hs with
 |slnil=>intro hk;exact hkk hk
 |cons r hs ih=>
  intro hk;rw[a2i] at hk;by_cases hkl:r.o.op.kl= .r
  ·rw[if_pos hkl] at hk;split at hk
   ·split at hk
    ·obtain⟨v,hv,_⟩:=b7h hkl hk;cases hr:r.o.dst with
     |none=>rw[hr] at hv;exact ih hv
     |some d=>rw[hr] at hv;exact ih hv.2
    ·exact hk.elim
   ·exact ih hk
   ·exact hk.elim
  ·rw[if_neg hkl] at hk;exact ih hk
 |cons_cons r hs ih=>
  intro hk;rw[a2i] at hk⊢;by_cases hkl:r.o.op.kl= .r
  ·rw[if_pos hkl] at hk⊢;split at hk
   ·split at hk
    ·rename_i hav;simp only[if_pos hav];refine a4n (fun v _ _ hk=> ?_) hk;cases hr:r.o.dst with
     |none=>rw[hr] at hk;exact ih hk
     |some d=>rw[hr] at hk;exact⟨hk.1,ih hk.2⟩
    ·exact hk.elim
   ·exact ih hk
   ·exact hk.elim
  ·rw[if_neg hkl] at hk⊢;exact ih hk
theorem c8p {pg:List Nat}{ts:List AV}{F F':List a0m}(hs:F'.Sublist F):a7a pg ts F=AM->a7a pg ts F'=AM:=by
 induction hs with
 |slnil=>exact id
 |cons r hs ih=>
  intro h;simp only[a7a] at h;split at h
  ·split at h
   ·exact ih h
   ·cases h
  ·cases h
 |cons_cons r hs ih=>
  intro h;simp only[a7a] at h⊢;split at h
  ·rename_i h1;rw[if_pos h1];split at h
   ·rename_i h2;rw[if_pos h2];exact ih h
   ·cases h
  ·cases h
theorem b0w {d:a0m}{F F':List a0m}(hs:F'.Sublist F):(a4b d F').Sublist (a4b d F):=by
 induction hs with
 |slnil=>exact .slnil
 |cons r hs ih=>
  simp only[a4b];split
  ·exact ih
  ·exact .cons _ ih
 |cons_cons r hs ih=>
  simp only[a4b];split
  ·exact ih
  ·exact .cons_cons _ ih
theorem c8t {d:a0m}{F F':List a0m}(hs:F'.Sublist F):(a8e d F').Sublist (a8e d F):=by
 unfold a8e;split
 ·exact .cons_cons _ hs
 ·exact hs
theorem b1m {d:a0m}{F F':List a0m}(hs:F'.Sublist F){st:St}{K K':St->Prop}(hK: ∀st,K st->K' st)(hk:b1f (AN P A ro E) base F d st K):b1f (AN P A ro E) base F' d st K':=by
 rw[a4t] at hk⊢;split at hk
 ·unfold evD at hk⊢;split at hk
  ·obtain⟨v,ob,hv,hd⟩:=b7p hk;exact hd (fun _ _=>rfl) (hK _ hv)
  ·split at hk
   ·rename_i hav;simp only[if_pos hav];refine a4n (fun v h pg hk=> ?_) hk;cases pg with
    |nil=>exact b1l (hK _) (b0w hs) hk
    |cons x pg=>
     simp only at hk⊢;split at hk
     ·rename_i ha;rw[if_pos ha];exact hK _ hk
     ·rename_i ha;rw[if_neg ha];split at hk
      ·rename_i hb;rw[if_pos hb];split at hk
       ·rename_i hc;rw[if_pos (c8p (b0w hs) hc)];exact b1l (hK _) (b0w hs) hk
       ·exact hk.elim
      ·exact hk.elim
   ·exact hk.elim
  ·split at hk
   ·rename_i hav;simp only[if_pos hav];exact a4n (fun v h pg hk=>hK _ hk) hk
   ·exact hk.elim
  ·exact a4n (fun v h pg hk=>hK _ hk) hk
 ·exact hK _ hk
 ·exact hk.elim
theorem d1d {K K':St->Prop}(hK: ∀st,K st->K' st): ∀{ds F F':List a0m},F'.Sublist F-> ∀{st:St},evR (AN P A ro E) base F ds st K->evR (AN P A ro E) base F' ds st K':=by
 intro ds
 induction ds with
 |nil=>intro F F' _ st hk;exact hK _ hk
 |cons d ds ih=>intro F F' hs st hk;exact b1m hs (fun st hk=>ih (c8t hs) hk) hk
theorem e2s {K:St->Prop}{j:a0m}{post:List a0m}: ∀{pre F:List a0m} {st:St},(∀p,p∈pre->May p j)->(j.o.op.kl= .m-> ∀r,r∈F-> ∀p,p∈pre->e6o r p)->
 (j.o.op.kl= .m->pre.Pairwise e6o)->evR (AN P A ro E) base F (pre++j::post) st K->b1f (AN P A ro E) base F j st fun st1=>evR (AN P A ro E) base F (pre++post) st1 K:=by
 intro pre
 induction pre with
 |nil=>
  intro F st _ _ _ hk;refine b1m (AT _) (fun st hk=> ?_) hk;refine d1d (fun _ h=>h) ?_ hk;unfold a8e;split
  ·exact .cons _ (AT _)
  ·exact AT _
 |cons p pre ih=>
  intro F st hm hF hp hk;have hk:b1f (AN P A ro E) base F p st fun st1=>b1f (AN P A ro E) base (a8e p F) j st1 fun st2=>evR (AN P A ro E) base (a8e p F) (pre++post) st2 K:=by
   refine b1m (AT _) (fun st hk=> ?_) hk;refine ih (fun q hq=>hm q (AO _ hq)) (fun hj r hr q hq=> ?_) (fun hj=>(AJ.1 (hp hj)).2) hk;unfold a8e at hr;split at hr
   ·rcases AE.1 hr with rfl|hr
    ·exact (AJ.1 (hp hj)).1 q hq
    ·exact hF hj r hr q (AO _ hq)
   ·exact hF hj r hr q (AO _ hq)
  by_cases hj:j.o.op.kl= .m
  ·exact e4b (hm p (by simp)) hj (fun r hr=>hF hj r hr p (by simp)) hk
  ·exact d3j (hm p (by simp)) hj hk
end
theorem Sim.at {w:AZ}{S:Nat->Prop}{ρ:Bn}{h:List a0f}(s:Bp w S ρ h){l:Nat}(hl:l<h.length)(hρl:ρ l=AQ)(o:Obj)(ao:a0f)(C:Nat)
 (ho: ∀w':AZ,w'.heap=w.heap.push o->a0z w' S ρ w.heap.size C ao):
 Bp {w with heap:=w.heap.push o} S (fun m=>if m=l then AC (AC w.heap.size,C) else ρ m) (h.set l ao)/\
  Ext w S ρ {w with heap:=w.heap.push o} S (fun m=>if m=l then AC (AC w.heap.size,C) else ρ m):=by
 have hold: ∀b,b<w.heap.size->(w.heap.push o)[b]? =w.heap[b]? :=fun b hb=>by rw[AY,if_neg (by omega)]
 have hρ: ∀m p,ρ m=AC p->(if m=l then AC (AC w.heap.size,C) else ρ m)=AC p:=by intro m p hm;rw[if_neg (fun e=>by subst e;simp[hρl] at hm)];exact hm
 refine⟨⟨fun b hb=> ?_,fun m ob C' hm=> ?_,fun m m' b C1 C2 h1 h2=> ?_,fun m b C' ao' hm hao hf=> ?_⟩,⟨rfl,⟨rfl,AR _⟩,rfl,by simp,fun _ h=>h,fun b hb=>hold b (s.sblk b hb),fun _ h=> .inl h,fun b hb _=>hold b hb,fun m b C' hm=> ?_⟩⟩
 ·have:=s.sblk b hb;simp;omega
 ·by_cases e:m=l
  ·rw[if_pos e] at hm;cases hm;refine⟨ao,by simp[e,hl],?_⟩;show a0z _ _ _ _ _ _;exact (ho {w with heap:=w.heap.push o} rfl).mono (fun _ h=>h) (fun _ _=>rfl) hρ rfl
  ·rw[if_neg e] at hm;obtain⟨o',h1,h2⟩:=s.obj m ob C' hm;refine⟨o',by rw[AK (A7 e)];exact h1,?_⟩;cases ob with
   |none=>exact h2
   |some b=>exact a0z.mono (fun _ h=>h) (fun b hb=>hold b (s.sblk b hb)) hρ (hold b (s.blk hm)) h2
 ·by_cases e1:m=l<;>by_cases e2:m'=l
  ·rw[e1,e2]
  ·rw[if_pos e1] at h1;rw[if_neg e2] at h2;cases h1;have:=s.blk h2;omega
  ·rw[if_neg e1] at h1;rw[if_pos e2] at h2;cases h2;have:=s.blk h1;omega
  ·rw[if_neg e1] at h1;rw[if_neg e2] at h2;exact s.inj m m' b C1 C2 h1 h2
 ·by_cases e:m=l
  ·rw[if_pos e] at hm;cases hm;intro hs;have:=s.sblk _ hs;omega
  ·rw[if_neg e] at hm;rw[AK (A7 e)] at hao;exact s.own m b C' ao' hm hao hf
 ·by_cases e:m=l
  ·rw[if_pos e] at hm;cases hm;exact .inl (AR _)
  ·rw[if_neg e] at hm;exact .inr ⟨m,C',hm⟩
section
variable {P:Program} {A:Ann} {ro:Option Nat} {E:Ent} {c:Nat} {o:A6} {io:IOp} {st:St}
 {a:Bk} {w:AZ} {S:Nat->Prop} {ρ:Bn} {l:Nat} {K:AV->a0f->Prop}
def d6l (P:Program)(o:A6)(a:Bk)(w:AZ)(S:Nat->Prop)(ρ:Bn)(l:Nat)(K:AV->a0f->Prop):Prop:=
 ∃v oo C x ob,(BQ a.eval o).run P w= .ok (.value v) {w with heap:=w.heap.push oo}/\K x ob/\(∀w':AZ,w'.heap=w.heap.push oo->a0z w' S ρ w.heap.size C ob)/\
  ∀(w':AZ) (S':Nat->Prop) (ρ':Bn),ρ' l=AC (AC w.heap.size,C)->VR w' S' ρ' x v
theorem d6s {t:BF}(hop:o.op= .alloc t)(hc:a0y P c o=AC io)(hk:a4a (AN P A ro E) l io st K):d6l P o a w S ρ l K:=by
 simp[a0y,hop,AB] at hc;obtain⟨zs,hz,rfl⟩:=hc;obtain⟨i,z,hi,hz0,hd⟩:=a5f hz;obtain⟨hl,hv⟩:=a4y hd;simp only[a4a,a5m] at hk;refine⟨.pointer (AC ⟨w.heap.size,0,AQ⟩),.cells z.cells t,0,_,_,?_,hk,fun w' hw'=>⟨z.cells,t,?_,by simp[hl],?_⟩,fun w' S' ρ' h=> .ptr _ 0 _ _ h⟩
 ·simp[BQ,hop,Instr.alloc,newVar,Bh,a3m hi hz0,BW]
 ·rw[hw'];simp
 ·intro j x u hx hu;simp at hx;obtain⟨y,hy,rfl⟩:=hx;exact .d (hv _ _ j y u hy hu)
theorem e8t {t:BF}{X:Bo}(hop:o.op= .box t X)(hc:a0y P c o=AC io)(hk:a4a (AN P A ro E) l io st K)(hr:Ax E st a w S ρ):d6l P o a w S ρ l K:=by
 simp[a0y,hop,AB] at hc;obtain⟨x,hx,rfl⟩:=hc;have h0:=a0t hr.ts hx;simp only[a4a] at hk;split at hk
 ·rename_i h1;obtain⟨hl,hv⟩:=a7d h0 h1;refine⟨.pointer (AC ⟨w.heap.size,0,AQ⟩),.cells (a.eval X).cells t,0,_,_,?_,hk,fun w' hw'=>⟨(a.eval X).cells,t,?_,hl.symm,?_⟩,fun w' S' ρ' h=> .ptr _ 0 _ _ h⟩
  ·simp[BQ,hop,Instr.box,newVar,Bh,BW]
  ·rw[hw'];simp
  ·intro j y u hy hu;refine (hv j y u hy hu).mono (fun _ h=>h) (fun b hb=> ?_) (fun _ _ h=>h);rw[hw',AY,if_neg];have:=hr.sim.sblk b hb;omega
 ·exact hk.elim
theorem d8t {t:BF}(hop:o.op= .makeMap t AQ){wide:Bool}{ks:List Aw}(hk:a4a (AN P A ro E) l (.mkmap wide ks) st K):d6l P o a w S ρ l K:=by simp only[a4a] at hk;refine⟨.map (AC w.heap.size),.map #[] 0,0,_,_,?_,hk,fun w' hw'=>⟨#[],0,by rw[hw'];simp,⟨rfl,by simp,by simp,fun k=>rfl,by simp⟩⟩,fun w' S' ρ' h=> .map _ _ _ h⟩;simp[BQ,hop,Instr.makeMap]
theorem c2e {t:BF}(hop:o.op= .makeMap t AQ){wide:Bool}{ks:List Aw}(hk:a4a (AN P A ro E) l (.mkmapv wide ks) st K):d6l P o a w S ρ l K:=by simp only[a4a] at hk;refine⟨.map (AC w.heap.size),.map #[] 0,0,_,_,?_,hk,fun w' hw'=>⟨#[],0,by rw[hw'];simp,⟨rfl,by simp,by simp,by simp,by simp⟩,⟨rfl,rfl⟩,by simp⟩,fun w' S' ρ' h=> .map _ _ _ h⟩;simp[BQ,hop,Instr.makeMap]
theorem b7z {t:BF}{N M:Bo}(hop:o.op= .makeSlice t N M)(hNM:a.eval N=a.eval M){e:BF}(he:P.underlying t=AC (.slice e)){sz b:Nat}{zs:List DV}(hsz:a1x P e=AC sz)
 (hz:a5d P e=AC zs) (hb:a5j P e=AC b) (hzl:zs.length=sz) (hb':b<=250) {x:a0h} (hx:a0g N=AC x)
 (hk:a4a (AN P A ro E) l (.mkslice sz zs b x) st K) (hr:Ax E st a w S ρ):d6l P o a w S ρ l K:=by
 obtain⟨hn0,hszr⟩:=a1s hsz;obtain⟨i,z,hi,hz0,hd⟩:=a5f hz;obtain⟨i',hi',hbi⟩:=b4v hb;rw[hi] at hi';cases hi';have h0:=a0t hr.ts hx;simp only[a4a] at hk;obtain⟨n,hn,hk⟩:=a6l h0 hk;obtain⟨h1,h2,hk⟩:(0<=n.val)/\(n.val<=(big:Nat))/\_:=hk;rw[a0o] at hk;simp only[big] at h2;obtain⟨hl,hv⟩:=a4y hd;have hw:IntKind.i64.wrap n.val=n.val:=b3n h1 (by omega);have hnn:((n.val.toNat:Nat):Int)=n.val:=Int.toNat_of_nonneg h1;have hbn:((b:Nat):Int)*n.val<=281474976710656:=by
  have hb0:(0:Int)<=(b:Int):=Int.natCast_nonneg _;have hb1:(b:Int)<=250:=by omega
  have h3:=Int.mul_le_mul_of_nonneg_right hb1 h1;omega
 refine⟨.slice (AC ⟨w.heap.size,0,AQ⟩) n.val.toNat n.val.toNat,.cells ((BI (n.val.toNat*sz)).map (z.cells[· % z.cells.size]!)) e,n.val.toNat,_,_,?_,hk,
  fun w' hw'=>⟨(BI (n.val.toNat*sz)).map (z.cells[· % z.cells.size]!),e,by rw[hw'];simp,by simp,AR _,fun i hi=>by rw[show (AN P A ro E).rep n.val.toNat zs i=zs from if_pos hi];exact⟨hzl,fun j y u hy hu=>a2r hd hzl _ S w' i hi j y u hy hu⟩⟩,
  fun w' S' ρ' h=> .msl _ _ AQ _ AS (AC w.heap.size) n.val.toNat _ _ h (by simp) (by simp) (by simp)⟩
 have hti:(typeInfo e).run P w= .ok i w:=by simp[typeInfo,hi]
 simp only[BQ,hop,<-hNM,hn,Instr.makeSlice,Ao,run_underlying he,Ac,asInt,asIntOf,BG,hti,hw,hbi];rw[if_neg (by
  simp only[Ab,decide_eq_true_eq];omega)]
 simp only[Ac,Ao,run_askRoom,hszr];have r0: ∀f:Nat->Af,(BI 0).map f= #[]:=fun f=>by apply Bg;simp
 by_cases hm:n.val.toNat*sz=0
 ·simp[hm,Bh,r0]
 ·simp[hm,Bh,a3m hi hz0]
theorem e1o {t e:BF}{ps:Array (Nat×Bo)}(hop:o.op= .buildSlice t 0 ps)(hps:ps.toList=[])(ht:P.underlying t=AC (.slice e)){sz:Nat}(hsz:a1x P e=AC sz)
 (hk:a4a (AN P A ro E) l (.bnew sz) st K):d6l P o a w S ρ l K:=by
 simp only[a4a] at hk;refine⟨.slice (AC ⟨w.heap.size,0,AQ⟩) 0 0,.cells #[] e,0,_,_,d0l hop hps ht hsz,hk,fun w' hw'=>⟨#[],e,by rw[hw'];simp,by simp,AR _,fun i hi=>by omega⟩,
  fun w' S' ρ' h=> .msl _ _ AQ _ AS (AC w.heap.size) 0 _ _ h (by simp) (by simp) (by simp)⟩
end
section
variable {P:Program} {A:Ann} {ro:Option Nat} {E:Ent} {c:Nat} {o:A6} {io:IOp} {st:St}
 {a:Bk} {w:AZ} {S:Nat->Prop} {ρ:Bn} {l:Nat} {K:AV->a0f->Prop}
section
variable {Q:Exit->Bk->AZ->Prop}
theorem Rel.put (r:Ax E st a w S ρ)(dst:Option Nat){x:AV}{v:Af}(hv:VR w S ρ x v):Ax E (st.put dst x) (a.put dst v) w S ρ:=
 r.step (Chg.refl r.sim) dst hv
theorem Rel.setb (r:Ax E st a w S ρ){j:Nat}{b:Bool}(h:a1a st.ts j=AC (.d (.bool b))):Ax E (st.setb j b) a w S ρ/\a.tmps[j]? =AC (.bool b):=by
 rw[a0i] at h;have hlt:=(AF.1 h).1;have hlt':j<a.tmps.size:=by rw[<-r.ts.1];exact hlt
 have hv:=r.ts.2 j _ a.tmps[j] h (by simp[hlt']);have hb:=hv.bool;have hj:a.tmps[j]? =AC (.bool b):=by rw[<-hb];simp[hlt']
 refine⟨?_,hj⟩;have:=r.put (AC j) hv;have e:a.put (AC j) a.tmps[j]=a:=by
  cases a with
  |mk tmps defers=>
   simp only[Act.put];congr 1;apply Bg;have hj':j<tmps.toList.length:=by simpa using hlt'
   simp only[Array.toList_setIfInBounds];rw[show tmps[j]=tmps.toList[j] by simp];exact Ap hj'
 rw[e] at this;exact this
theorem b1v {ops:Array A6}{tmps:Array Af}{j d:Nat}{oj:A6}(h:ops[j]? =AC oj)(hd:oj.dst=AC d):Av ops tmps j=match tmps[d]? with|some (.bool b)=>AC b|_=>AQ:=by simp[Av,h,hd];rfl
end
theorem i2d {base lim:Nat}: ∀{pg:List Nat},h6l.go base lim pg=AM-> ∀l,l∈pg->l<base\/lim<=l:=by
 intro pg
 induction pg with
 |nil=>intro _ l h;cases h
 |cons x pg ih=>
  intro h l hl;simp only[h6l.go] at h;split at h
  ·rename_i hx;rcases AE.1 hl with rfl|hl
   ·exact .inl (by simpa [Bi] using hx)
   ·exact ih h l hl
  ·split at h
   ·rename_i hx;rcases AE.1 hl with rfl|hl
    ·exact .inr (As hx)
    ·exact ih h l hl
   ·cases h
theorem h8q {base s:Nat}{pg:List Nat}(h:h6l base s pg=AM): ∀l,l∈pg->l<base\/base+s<=l:=by
 unfold h6l at h;split at h
 ·intro l _;omega
 ·exact fun l hl=>i2d h l hl
theorem d6w {f:a0h}{as:List a0h}{m:Mode}:(IOp.call f as m).kl≠ .a:=by cases m<;>simp[Au]
theorem c0p (hc:b7f P c o=AC io)(hkl:io.kl= .a)(hk:a4a (AN P A ro E) l io st K)(hr:Ax E st a w S ρ):d6l P o a w S ρ l K/\ ∀c,o.op≠ .defer c:=by
 unfold b7f at hc;split at hc
 case h_2=>cases hc;cases hkl
 rename_i io' hc1;cases hc;have hc:=hc1;have hc0:=hc;unfold a0y at hc;split at hc
 case h_7 t n ps heq=>
  simp only[AG,AB,AP] at hc;obtain⟨e,he,sz,hsz,zs,hz,hc⟩:=hc;split at hc
  ·rename_i hcond;simp only[AB] at hc;obtain⟨l,hl,hc⟩:=hc;split at hc
   ·split at hc
    ·cases hc;cases hkl
    ·cases hc
   split at hc
   ·split at hc
    ·cases hc;cases hkl
    ·cases hc
   split at hc
   ·rename_i hn;split at hc
    ·rename_i hle;cases hc;obtain⟨rfl,_⟩:=hn;have hps:ps.toList=[]:=by
      have hle:l=[]:=by simpa using hle
      subst hle;cases hp:ps.toList with
      |nil=>rfl
      |cons q qs=>rw[hp] at hl;simp[AB] at hl
     exact⟨e1o heq hps (a0n he) hsz hk,fun c h=>by rw[heq] at h;cases h⟩
    ·cases hc
   split at hc
   ·split at hc
    ·cases hc;cases hkl
    ·cases hc
   ·split at hc
    ·cases hc;cases hkl
    ·cases hc;cases hkl
  ·cases hc
 case h_4 heq=>exact⟨d6s heq hc0 hk,fun c h=>by rw[heq] at h;cases h⟩
 case h_5 heq=>exact⟨e8t heq hc0 hk hr,fun c h=>by rw[heq] at h;cases h⟩
 case h_15 t heq=>
  simp only[AG,AB,AP,AD] at hc;obtain⟨⟨k,e⟩,hm,⟨wide,ks⟩,hk0,hc⟩:=hc;split at hc
  ·cases hc;exact⟨c2e heq hk,fun c h=>by rw[heq] at h;cases h⟩
  split at hc
  ·cases hc;exact⟨d8t heq hk,fun c h=>by rw[heq] at h;cases h⟩
  ·cases hc;exact⟨c2e heq hk,fun c h=>by rw[heq] at h;cases h⟩
 case h_16 t N M heq=>
  simp only[AG,AB] at hc;obtain⟨e,he,sz,hsz,zs,hz,b,hb,x,hx,hc⟩:=hc;split at hc
  ·split at hc
   ·rename_i i j hcond;cases hc;exact⟨b7z heq (by rw[hcond.1]) (a0n he) hsz hz hb hcond.2.1 hcond.2.2 hx hk hr,fun c h=>by rw[heq] at h;cases h⟩
   ·cases hc
  ·split at hc
   ·rename_i i j hcond;cases hc;exact⟨b7z heq (by rw[hcond.1]) (a0n he) hsz hz hb hcond.2.1 hcond.2.2 hx hk hr,fun c h=>by rw[heq] at h;cases h⟩
   ·cases hc
  ·cases hc
 all_goals exfalso
 all_goals try unfold b0f at hc
 all_goals try unfold d6q at hc
 all_goals try simp only[AG,AB,AP,AD] at hc
 all_goals repeat' first
  |(cases hkl;done)
  |(cases hc;done)
  |(subst hc)
  |(obtain⟨_,_,hc⟩:=hc)
  |(split at hc)
  |(simp only[AB,AD] at hc)
  |(unfold c0x at hkl;split at hkl<;>cases hkl;done)
  |(unfold b6q at hc;simp only[AG,AP] at hc)
  |exact absurd hkl d6w
theorem c4i (hl:Bq P){r base i:Nat}{ops:Array A6}{d:a0m}{F:List a0m}{K:St->Prop}{next:Bk->AZ->Prop}{Q:Exit->Bk->AZ->Prop}(hc:c0z P A r ops i o=AC d.o)(hk:b1f (AN P A ro E) base F d st K)(hr:Ax E st a w S ρ)
 (hF:F=[]) (hsl:d.o.op.kl= .a->ρ (base+d.slot)=AQ/\base+d.slot<st.h.length) (hb:E.base<=base)
 (hn: ∀st' a' w' S' ρ',K st'->Ax E st' a' w' S' ρ'->st.h.length<=st'.h.length->((d.o.op.kl= .m->d.alone=AS)-> ∀m,base<=m->m<st.h.length->(d.o.op.kl= .m->m<base+d.slot)->(d.o.op.kl= .a->m≠base+d.slot)->ρ' m=ρ m)->next a' w'):
 if AH o (Av ops a.tmps) then o.wpIn (a3i ro) 0 P a w next Q else (∀f,o.about P w a.eval=AC f->(a3i ro).fn f)/\next (a.put o.dst Aj) w:=by
 subst hF;simp only[c0z,AG,AB] at hc;obtain⟨op,hop,hc⟩:=hc;have e0:d.o.dst=o.dst/\d.o.op=op:=by
  split at hc
  ·simp at hc;rw[<-hc];exact⟨rfl,rfl⟩
  ·simp only[AB,AP,AD] at hc;obtain⟨oj,hj,dd,hd,hc⟩:=hc;rw[<-hc];exact⟨rfl,rfl⟩
 obtain⟨e1,e2⟩:=e0;have run:evD (AN P A ro E) base [] d st K->o.wpIn (a3i ro) 0 P a w next Q:=by
  intro hk;unfold evD at hk;rw[e1,e2] at hk;split at hk
  ·rename_i ha;obtain⟨⟨v,oo,C,x,ob,hrun,hk,hh,hv⟩,hnd⟩:=c0p hop ha hk hr;obtain⟨h1,h2⟩:=hsl (by rw[e2];exact ha);obtain⟨h3,h4⟩:=hr.sim.at h2 h1 oo ob C hh;refine⟨fun f _=>a5w ro f,?_⟩;rw[a5a,Oper.semAt_eq ro a.eval o hnd,hrun];refine hn _ _ _ S (fun m=>if m=base+d.slot then AC (AC w.heap.size,C) else ρ m) hk ?_ (by rw[a6v];simp[BJ,a0l]) (fun _ m _ hm _ hne=>by rw[if_neg (hne (by rw[e2];exact ha))]);have hvr:VRs {w with heap:=w.heap.push oo} S (fun m=>if m=base+d.slot then AC (AC w.heap.size,C) else ρ m) st.ts a.tmps:=by refine⟨hr.ts.1,fun i y u hy hu=>(hr.ts.2 i y u hy hu).mono h4.mono h4.cell fun m p hm=> ?_⟩;rw[if_neg (fun e=>by subst e;rw[h1] at hm;cases hm)];exact hm
   have r1:Ax E (st.setH (a2x st.h (base+d.slot) ob)) a {w with heap:=w.heap.push oo} S (fun m=>if m=base+d.slot then AC (AC w.heap.size,C) else ρ m):=by refine⟨hvr,hr.ds.ext h4,by simp only[BJ,a0l];exact h3,hr.ext.trans h4,fun m hm hnm=> ?_,by simpa [BJ,a0l] using hr.len⟩;rw[if_neg (by omega)];exact hr.keep m hm hnm
   exact r1.put o.dst (hv _ S _ (by simp))
  ·rename_i hmm;split at hk
   ·refine a6e hl hop hk hr fun x h' pg v w' S' ρ' hk hc hv=> ?_;have rr:=hr.step hc o.dst hv;cases pg with
    |nil=>have rr:Ax E ((st.setH h').put o.dst x) (a.put o.dst v) w' S' ρ':=rr;have hk:K ((st.setH h').put o.dst x):=hk;exact hn _ _ _ _ _ hk rr (by rw[a6v];exact hc.len) fun _ m _ hm _ _=>hc.low m hm (by simp)
    |cons y pg=>
     simp only at hk;split at hk
     ·rename_i hal;refine hn _ _ _ _ _ hk rr ?_ fun h=> ?_
      ·rw[a6v,(a1r _ _).2];exact hc.len
      ·rw[e2] at h;rw[h hmm] at hal;cases hal
     ·split at hk
      ·rename_i hlt;split at hk
       ·have hk:K ((((st.setH h').purge (y::pg))).put o.dst x):=hk;refine hn _ _ _ _ _ hk rr (by rw[a6v,(a1r _ _).2];exact hc.len) fun _ m hb hm hs _=>hc.low m hm fun hmem=> ?_;have h1:=h8q hlt m hmem;have h2:=hs (by rw[e2];exact hmm);omega
       ·exact hk.elim
      ·exact hk.elim
   ·exact hk.elim
  ·rename_i hrr;split at hk
   ·obtain⟨v0,hk,hd⟩:=b7h hrr hk;have hk:a0a (AN P A ro E) op st fun v h' pg=>h'=st.h/\pg=[]/\K (st.put o.dst v):=hd (fun _ _ _ _=>rfl) ⟨rfl,rfl,hk⟩;refine a6e hl hop hk hr fun x h' pg v w' S' ρ' hk hc hv=> ?_;obtain⟨rfl,rfl,hk⟩:=hk;exact hn _ _ _ _ _ hk (hr.step hc o.dst hv) (by rw[a6v];exact AR _) fun _ m _ hm _ _=>hc.low m hm (by simp)
   ·exact hk.elim
  ·rename_i h1 h2 h3;have hip:op.kl= .i\/op.kl= .p:=by
    cases hx:op.kl
    ·exact .inl rfl
    ·exact absurd hx h3
    ·exact absurd hx h1
    ·exact .inr rfl
    ·exact absurd hx h2
   obtain⟨v0,hk,hd⟩:=c6f hip hk;have hk:a0a (AN P A ro E) op st fun v h' pg=>h'=st.h/\pg=[]/\K (st.put o.dst v):=hd ⟨rfl,rfl,hk⟩;refine a6e hl hop hk hr fun x h' pg v w' S' ρ' hk hc hv=> ?_;obtain⟨rfl,rfl,hk⟩:=hk;exact hn _ _ _ _ _ hk (hr.step hc o.dst hv) (by rw[a6v];exact AR _) fun _ m _ hm _ _=>hc.low m hm (by simp)
 have skp:K (st.put o.dst .und)->(∀f,o.about P w a.eval=AC f->(a3i ro).fn f)/\next (a.put o.dst Aj) w:=
  fun hk=>⟨fun f _=>a5w ro f,hn _ _ _ S ρ hk (hr.put o.dst .und) (by rw[a6v];exact AR _) fun _ _ _ _ _ _=>rfl⟩
 rw[a4t,e1] at hk;split at hc
 ·rename_i hg;simp at hc;have:gst d.o st.ts=AC AM:=by simp[gst,<-hc]
  rw[this] at hk;have:AH o (Av ops a.tmps)=AM:=by simp[AH,hg]
  rw[if_pos this];exact run hk
 ·rename_i j want hg;simp only[AB,AP,AD] at hc;obtain⟨oj,hj,dd,hd,hc⟩:=hc;have hgs:gst d.o st.ts=match a1a st.ts dd with|some (.d (.bool b))=>AC (b==want)|some .und=>AC AS|_=>AQ:=by rw[<-hc];rfl
  have hy:=b1v (tmps:=a.tmps) hj hd;rw[hgs] at hk;cases hb:a1a st.ts dd with
  |none=>rw[hb] at hk;exact hk.elim
  |some z=>
   rw[hb] at hk;have hlt:dd<a.tmps.size:=by rw[<-hr.ts.1];rw[a0i] at hb;exact (AF.1 hb).1
   have hv:=hr.ts.2 dd z a.tmps[dd] (by rw[<-a0i];exact hb) (by simp[hlt]);cases z with
   |d x=>
    cases x with
    |bool b=>
     have hbt:a.tmps[dd]? =AC (.bool b):=by rw[<-hv.bool];simp[hlt]
     rw[hbt] at hy;simp only at hy hk;cases hbw:(b==want) with
     |true=>rw[hbw] at hk;rw[if_pos (by simp[AH,hg,hy];simpa using hbw)];exact run hk
     |false=>rw[hbw] at hk;rw[if_neg (by simp[AH,hg,hy];simpa using hbw)];exact skp hk
    |_=>exact hk.elim
   |und=>
    have hu:a.tmps[dd]? =AC Aj:=by generalize hx:a.tmps[dd]=v at hv;cases hv;rw[A5 hlt,hx]
    rw[hu] at hy;have hy:Av ops a.tmps j=AQ:=hy;rw[if_neg (by simp[AH,hg,hy])];exact skp hk
   |_=>exact hk.elim
end
theorem a8o {o:a1c}{l:List Nat}(h:c9v o l=AS): ∀t,o.dst=AC t->t∉l:=by intro t ht hm;unfold c9v at h;rw[ht] at h;simp only at h;rw[a1o.2 hm] at h;cases h
theorem b7j {a b:a1c}(h:c0q a b=AS): ∀t,a.dst=AC t->b.dst≠AC t:=by intro t ha hb;unfold c0q at h;rw[ha,hb] at h;simp at h
theorem b3o {a b:a0m}(h:c1c a b=AM):(∀t,b.o.dst=AC t->t∉a.o.uses)/\ ∀t,a.o.dst=AC t->b.o.dst≠AC t:=by simp[c1c] at h;exact⟨a8o h.1,b7j h.2⟩
structure d7t (cl:List (List Nat))(a b:a0m):Prop where
 w:a.watch=AM->b.watch=AM->c1c a b=AM/\(a.o.op.kl= .r->b.o.op.kl= .a->b.slot∈a.av)
 aa:a.o.op.kl= .a->b.o.op.kl= .a->a.slot≠b.slot
 al:a.alone=AM->b.o.op.kl≠ .a
 ma:a.o.op.kl= .m->b.o.op.kl= .a->b.slot<a.slot
 am:a.o.op.kl= .a->b.o.op.kl= .m->a.slot<b.slot
 o:a.i∈cl.getD b.i []\/(c1c a b=AM/\e5x a b=AM)
theorem c5u {cl:List (List Nat)}{a b:a0m}(h:d7c cl a b=AM):d7t cl a b:=by
 unfold d7c at h;simp only[AX,Ab,Ad,beq_eq_false_iff_ne,ne_eq,Bool.and_eq_false_iff] at h;obtain⟨⟨⟨⟨⟨h1,h2⟩,h5⟩,h6⟩,h3⟩,h4⟩:=h;refine⟨fun ha hb=> ?_,fun ha hb=> ?_,fun hal hb=> ?_,fun ha hb=> ?_,fun ha hb=> ?_,?_⟩
 ·rcases h1 with h1|h1
  ·rcases h1 with h1|h1
   ·rw[ha] at h1;cases h1
   ·rw[hb] at h1;cases h1
  ·refine⟨h1.1,fun hr hb=> ?_⟩;rcases h1.2 with (h|h)|h
   ·exact absurd hr h
   ·exact absurd hb h
   ·exact a1o.1 h
 ·rcases h2 with h|h
  ·rcases h with h|h
   ·exact absurd hb h
   ·exact absurd ha h
  ·intro e;rw[e] at h;simp at h
 ·rcases h3 with h|h
  ·rw[hal] at h;cases h
  ·exact absurd hb h
 ·rcases h5 with (h|h)|h
  ·exact absurd ha h
  ·exact absurd hb h
  ·exact As h
 ·rcases h6 with (h|h)|h
  ·exact absurd ha h
  ·exact absurd hb h
  ·exact As h
 ·rcases h4 with h|h
  ·exact .inl (a1o.1 h)
  ·exact .inr h
theorem d7t.past {cl:List (List Nat)}{a b:a0m}(h:d7t cl a b)(ha:a.watch=AM)(hb:b.watch=AM):e6o a b:=by obtain⟨h1,h2⟩:=h.w ha hb;obtain⟨h3,h4⟩:=b3o h1;exact⟨h3,fun t hb ha=>h4 t ha hb,h2⟩
theorem d7t.may {cl:List (List Nat)}{a b:a0m}(h:d7t cl a b)(hn:a.i∉cl.getD b.i [])(hself: ∀t,a.o.dst=AC t->t∉a.o.uses):May a b:=by
 obtain⟨h1,h2⟩:c1c a b=AM/\e5x a b=AM:=by
  rcases h.o with h|h
  ·exact absurd h hn
  ·exact h
 obtain⟨h3,h4⟩:=b3o h1;unfold e5x at h2;simp only[AX,Ab,Ad] at h2;obtain⟨⟨⟨h5,h6⟩,h8⟩,h7⟩:=h2;have hm:b.o.op.kl= .m->a.watch=AM/\b2l a.i b.bef=AS:=fun e=>by
  rcases h8 with h8|h8
  ·rw[e] at h8;simp at h8
  ·exact h8
 refine⟨h3,a8o h5,h4,hself,h6,fun e=> ?_,fun e1 e2=> ?_,fun e2=>(hm e2).2,fun e2=>(hm e2).1,fun e1 e2=> ?_,fun e1 e2=> ?_,h.aa⟩
 ·rw[e] at h7;cases h7
 ·rw[e1] at h7;simp only[e2] at h7;exact a1o.1 h7
 ·rw[e1] at h7;simp only[e2] at h7;exact a1o.1 h7
 ·rw[e1] at h7;simp only[e2] at h7;exact a1o.1 h7
def plP (ops:Array A6)(L:Nat->Prop):List a0m->Prop
 |[]=>True
 |d::ds=>(∀o,ops[d.i]? =AC o-> ∀k,k∈a6u o->L k)/\plP ops (fun k=>L k\/k=d.i) ds
theorem b0c {ops:Array A6}: ∀{ds:List a0m} {L L':Nat->Prop},(∀k,L k->L' k)->plP ops L ds->plP ops L' ds:=by
 intro ds
 induction ds with
 |nil=>intro _ _ _ _;trivial
 |cons d ds ih=>intro L L' h hp;exact⟨fun o ho k hk=>h k (hp.1 o ho k hk),ih (fun k hk=>hk.imp (h k) id) hp.2⟩
theorem c5j {ops:Array A6}{j:a0m}{post:List a0m}: ∀{pre:List a0m} {L:Nat->Prop},plP ops L (pre++j::post)->plP ops (fun k=>L k\/k=j.i) (pre++post):=by
 intro pre
 induction pre with
 |nil=>intro L hp;exact hp.2
 |cons d pre ih=>
  intro L hp;refine⟨fun o ho k hk=> .inl (hp.1 o ho k hk),b0c (fun k hk=> ?_) (ih hp.2)⟩;rcases hk with (h|h)|h
  ·exact .inl (.inl h)
  ·exact .inr h
  ·exact .inl (.inr h)
structure d1p (P:Program)(A:Ann)(r:Nat)(ops:Array A6)(cl:List (List Nat))(listed:Array Bool)(ds:List a0m):Prop where
 size:listed.size=ops.size
 mem: ∀i,i<ops.size->(listed[i]? =AC AS↔ ∃d,d∈ds/\d.i=i)
 nd:ds.Pairwise (fun a b=>a.i≠b.i)
 comp: ∀d,d∈ds-> ∃o,ops[d.i]? =AC o/\c0z P A r ops d.i o=AC d.o
 pair:ds.Pairwise (d7t cl)
 pl:plP ops (fun k=>listed[k]? =AC AM) ds
 down: ∀k,listed[k]? =AC AM-> ∀p,p∈cl.getD k []->listed[p]? =AC AM
 self: ∀d,d∈ds-> ∀t,d.o.dst=AC t->t∉d.o.uses
theorem a6d {ops:Array A6}{listed:Array Bool}(hsz:listed.size=ops.size){i:Nat}:i∈BA .any ops listed↔listed[i]? =AC AS/\ ∃o,ops[i]? =AC o/\ ∀k,k∈a6u o->listed[k]? =AC AM:=by
 unfold BA;simp only[A3,At,AX,Ad];have e1: ∀k,listed.getD k AS=AM↔listed[k]? =AC AM:=by
  intro k;simp only[Ah];cases listed[k]? with
  |none=>simp
  |some b=>simp
 constructor
 ·rintro⟨hi,h1,h2⟩;have h3:listed[i]? =AC AS:=by
   simp only[Ah] at h1;cases h:listed[i]? with
   |none=>rw[Array.getElem?_eq_none_iff] at h;omega
   |some b=>rw[h] at h1;simp at h1;rw[h1]
  refine⟨h3,ops[i],by simp[hi],fun k hk=> ?_⟩;have ho:ops[i]? =AC ops[i]:=by simp[hi]
  rw[ho] at h2;simp only[Ay,BN] at h2;rw[BM] at h2;simp only[a6u,BE,A3] at hk;obtain⟨e,⟨he,hb⟩,rfl⟩:=hk;have:=h2 e (by simpa using he);rw[hb] at this;simp only[Bc,Bd] at this;exact (e1 _).1 this
 ·rintro⟨h1,o,ho,h2⟩;have hi:i<ops.size:=by rw[<-hsz];exact (AI.1 h1).1
  refine⟨hi,by simp[Ah,h1],?_⟩;rw[ho];simp only[Ay,BN];rw[BM];intro e he;cases hb:Region.binds .any e with
  |false=>simp
  |true=>simp only[Bc,Bd];exact (e1 _).2 (h2 _ (by simp only[a6u,BE,A3];exact⟨e,⟨by simpa using he,hb⟩,rfl⟩))
section
variable {P:Program} {A:Ann} {ro:Option Nat} {E:Ent} {base r:Nat} {ops:Array A6} {cl:List (List Nat)}
theorem d1p.lt {listed:Array Bool}{ds:List a0m}(l:d1p P A r ops cl listed ds){d:a0m}(hd:d∈ds):d.i<ops.size:=by obtain⟨o,ho,_⟩:=l.comp d hd;exact (AI.1 ho).1
theorem d1p.ready {listed:Array Bool}{d:a0m}{ds:List a0m}(l:d1p P A r ops cl listed (d::ds)):d.i∈BA .any ops listed:=by obtain⟨o,ho,_⟩:=l.comp d (by simp);rw[a6d l.size];exact⟨(l.mem d.i (l.lt (by simp))).2 ⟨d,by simp,rfl⟩,o,ho,l.pl.1 o ho⟩
theorem b5y {listed:Array Bool}{i k:Nat}(hi:i<listed.size):(listed.setIfInBounds i AM)[k]? =if k=i then AC AM else listed[k]? :=by
 rw[Az];by_cases h:k=i
 ·subst h;simp[hi]
 ·rw[if_neg h,if_neg (fun e=>h e.symm)]
theorem d1p.next {listed:Array Bool}{pre post:List a0m}{d:a0m}(l:d1p P A r ops cl listed (pre++d::post))(hcl:a9f ops.toList cl=AM)(hr:d.i∈BA .any ops listed):
 d1p P A r ops cl (listed.setIfInBounds d.i AM) (pre++post):=by
 have hlt:d.i<listed.size:=by rw[l.size];exact l.lt (by simp)
 have hsub:(pre++post).Sublist (pre++d::post):=(AT pre).append (.cons _ (AT _));obtain⟨_,o,ho,hdir⟩:=(a6d l.size).1 hr;have hnd:=BL.1 l.nd;have hne: ∀x,x∈pre++post->x.i≠d.i:=by
  intro x hx;rcases Aa.1 hx with hx|hx
  ·exact hnd.2.2 x hx d (by simp)
  ·exact ((AJ.1 hnd.2.1).1 x hx).symm
 refine⟨by simp[l.size],fun i hi=> ?_,l.nd.sublist hsub,fun x hx=>l.comp x (hsub.subset hx),l.pair.sublist hsub,?_,fun k hk p hp=> ?_,fun x hx=>l.self x (hsub.subset hx)⟩
 ·rw[b5y hlt];by_cases h:i=d.i
  ·rw[if_pos h];constructor
   ·intro h;cases h
   ·rintro⟨x,hx,rfl⟩;exact absurd h (hne x hx)
  ·rw[if_neg h,l.mem i hi];constructor
   ·rintro⟨x,hx,rfl⟩;refine⟨x,?_,rfl⟩;rcases Aa.1 hx with hx|hx
    ·exact AU _ hx
    ·rcases AE.1 hx with rfl|hx
     ·exact absurd rfl h
     ·exact BH _ hx
   ·rintro⟨x,hx,rfl⟩;exact⟨x,hsub.subset hx,rfl⟩
 ·refine b0c (fun k hk=> ?_) (c5j l.pl);rw[b5y hlt];rcases hk with hk|hk
  ·by_cases h:k=d.i
   ·rw[if_pos h]
   ·rw[if_neg h];exact hk
  ·rw[if_pos hk]
 ·have up: ∀q,listed[q]? =AC AM->(listed.setIfInBounds d.i AM)[q]? =AC AM:=fun q hq=>by
   rw[b5y hlt];split
   ·rfl
   ·exact hq
  rw[b5y hlt] at hk;by_cases h:k=d.i
  ·subst h;have hmem:d.i<ops.size:=l.lt (by simp);unfold a9f at hcl;simp only[AW,At] at hcl;have h1:=hcl d.i (by simpa using hmem) p hp;rw[show ops.toList[d.i]? =AC o by rw[Ae];exact ho] at h1;simp only[Ab,BX] at h1;rcases h1 with h1|⟨q,hq,h1⟩
   ·exact up p (hdir p (a1o.1 h1))
   ·exact up p (l.down q (hdir q hq) p (a1o.1 h1))
  ·rw[if_neg h] at hk;exact up p (l.down k hk p hp)
theorem c6u {α:Type}{x:α}: ∀{l:List α},x∈l-> ∃pre post,l=pre++x::post:=by
 intro l
 induction l with
 |nil=>intro h;cases h
 |cons y l ih=>
  intro h;rcases AE.1 h with rfl|h
  ·exact⟨[],l,rfl⟩
  ·obtain⟨p,q,rfl⟩:=ih h;exact⟨y::p,q,rfl⟩
theorem d4h (hlay:Bq P){K:St->Prop}{Q:Exit->Bk->AZ->Prop}(hcl:a9f ops.toList cl=AM)(hb:E.base<=base)(hn: ∀st a w S ρ,K st->Ax E st a w S ρ->Q .normal a w):
 ∀(n:Nat) (ds:List a0m) (listed:Array Bool) (st:St) (a:Bk) (w:AZ) (S:Nat->Prop) (ρ:Bn),ds.length=n->d1p P A r ops cl listed ds->evR (AN P A ro E) base [] ds st K->Ax E st a w S ρ->
  (∀d,d∈ds->d.o.op.kl= .a->ρ (base+d.slot)=AQ/\base+d.slot<st.h.length)->wpAnyIn (a3i ro) 0 P .any ops Q n listed a w:=by
 intro n
 induction n with
 |zero=>intro ds listed st a w S ρ hlen l hk hr _;have:ds=[]:=List.length_eq_zero_iff.1 hlen;subst this;refine⟨?_,hn st a w S ρ hk hr⟩;refine List.eq_nil_iff_forall_not_mem.2 fun i hi=> ?_;obtain⟨h1,o,ho,_⟩:=(a6d l.size).1 hi;obtain⟨x,hx,_⟩:=(l.mem i (AI.1 ho).1).1 h1;cases hx
 |succ n ih=>
  intro ds listed st a w S ρ hlen l hk hr hsl;refine⟨fun h=> ?_,fun i hi=> ?_⟩
  ·cases ds with
   |nil=>cases hlen
   |cons d ds=>have:=l.ready;rw[h] at this;cases this
  ·obtain⟨h1,o,ho,hdir⟩:=(a6d l.size).1 hi;obtain⟨d,hd,rfl⟩:=(l.mem i (AI.1 ho).1).1 h1;obtain⟨pre,post,rfl⟩:=c6u hd;have hpw:=BL.1 l.pair;have hmay: ∀p,p∈pre->May p d:=by
    intro p hp;refine (hpw.2.2 p hp d (by simp)).may (fun hin=> ?_) (l.self p (AU _ hp));have hpl:listed[p.i]? =AC AS:=(l.mem p.i (l.lt (AU _ hp))).2 ⟨p,AU _ hp,rfl⟩;unfold a9f at hcl;simp only[AW,At] at hcl;have h2:=hcl d.i (by simpa using l.lt hd) p.i hin;rw[show ops.toList[d.i]? =AC o by rw[Ae];exact ho] at h2;simp only[Ab,BX] at h2;have h3:listed[p.i]? =AC AM:=by
     rcases h2 with h2|⟨q,hq,h2⟩
     ·exact hdir p.i (a1o.1 h2)
     ·exact l.down q (hdir q hq) p.i (a1o.1 h2)
    rw[hpl] at h3;cases h3
   have hk:=e2s hmay (fun _ r hr=>by cases hr) (fun hj=>hpw.1.imp_of_mem fun {a b} ha hb h=>h.past ((hmay a ha).wt hj) ((hmay b hb).wt hj)) hk;have l':=l.next hcl hi;obtain⟨o',ho',hc⟩:=l.comp d hd;rw[ho] at ho';cases ho';unfold wpOpIn;rw[ho];refine c4i hlay hc hk hr rfl (hsl d hd) hb fun st' a' w' S' ρ' hk' hr' hlen' hρ'=> ?_;refine ih (pre++post) _ st' a' w' S' ρ' (by simp at hlen⊢;omega) l' hk' hr' fun x hx hxa=> ?_;have hx':x∈pre++d::post:=by
    rcases Aa.1 hx with hx|hx
    ·exact AU _ hx
    ·exact BH _ (AO _ hx)
   obtain⟨h4,h5⟩:=hsl x hx' hxa;refine⟨?_,Nat.lt_of_lt_of_le h5 hlen'⟩;rw[hρ' (fun hm=> ?_) _ (Nat.le_add_right _ _) h5 (fun hm=> ?_) (fun ha=> ?_)]
   ·exact h4
   ·rcases Aa.1 hx with hx|hx
    ·exact (hmay x hx).al
    ·have:=(AJ.1 hpw.2.1).1 x hx;cases hal:d.alone with
     |false=>rfl
     |true=>exact absurd hxa (this.al hal)
   ·rcases Aa.1 hx with hx|hx
    ·have:=(hpw.2.2 x hx d (by simp)).am hxa hm;omega
    ·have:=((AJ.1 hpw.2.1).1 x hx).ma hm hxa;omega
   ·have:x.slot≠d.slot:=by
     rcases Aa.1 hx with hx|hx
     ·exact (hpw.2.2 x hx d (by simp)).aa hxa ha
     ·exact ((AJ.1 hpw.2.1).1 x hx).aa ha hxa|>.symm
    omega
end
section
variable {P:Program} {A:Ann} {ro:Option Nat} {E:Ent} {r:Nat} {ops:Array A6}
theorem c0l: ∀{l:List A6} {k:Nat} {l':List a1c},a3w P A r ops l k=AC l'-> ∀(i:Nat) (io:a1c),l'[i]? =AC io-> ∃o,l[i]? =AC o/\c0z P A r ops (k+i) o=AC io:=by
 intro l
 induction l with
 |nil=>intro k l' h i io hi;simp[a3w] at h;subst h;simp at hi
 |cons o l ih=>
  intro k l' h i io hi;simp only[a3w,AG,AB,AP,AD] at h;obtain⟨x,hx,xs,hxs,rfl⟩:=h;cases i with
  |zero=>simp at hi;subst hi;exact⟨o,rfl,hx⟩
  |succ i=>simp only[An] at hi⊢;obtain⟨o',ho',hc⟩:=ih hxs i io hi;exact⟨o',ho',by rw[show k+(i+1)=k+1+i by omega];exact hc⟩
theorem b6v {l:List A6}(hl:l=ops.toList): ∀{ds:List a0m} {done:List Nat},b4q l done ds=AM->ds.Pairwise (fun a b=>a.i≠b.i)/\(∀d,d∈ds->d.i∉done)/\plP ops (fun k=>k∈done) ds:=by
 subst hl;intro ds
 induction ds with
 |nil=>intro done _;exact⟨.nil,by simp,trivial⟩
 |cons d ds ih=>
  intro done h;simp only[b4q,AX,Ad] at h;obtain⟨⟨h1,h2⟩,h3⟩:=h;obtain⟨h4,h5,h6⟩:=ih h3;refine⟨AJ.2 ⟨fun x hx e=>h5 x hx (by simp[e]),h4⟩,fun x hx=> ?_,fun o ho k hk=> ?_,b0c (fun k hk=> ?_) h6⟩
  ·rcases AE.1 hx with rfl|hx
   ·intro hm;rw[a1o.2 hm] at h2;cases h2
   ·intro hm;exact h5 x hx (AO _ hm)
  ·rw[show ops.toList[d.i]? =AC o by rw[Ae];exact ho] at h1;simp only[AW] at h1;exact a1o.1 (h1 k hk)
  ·rcases AE.1 hk with h|h
   ·exact .inr h
   ·exact .inl h
theorem c0c {cl:List (List Nat)}: ∀{ds:List a0m},c2x cl ds=AM->ds.Pairwise (d7t cl):=by
 intro ds
 induction ds with
 |nil=>intro _;exact .nil
 |cons d ds ih=>intro h;simp only[c2x,AX,AW] at h;exact AJ.2 ⟨fun x hx=>c5u (h.1 x hx),ih h.2⟩
theorem b4d {ios:List a1c}{n:Nat}{ds:List a0m}(hios:a3w P A r ops ops.toList 0=AC ios)(h:b0j ops.toList ios=AC (n,ds)):
 ds.length=ops.size/\a9f ops.toList (b4c ops.toList [])=AM/\d1p P A r ops (b4c ops.toList []) (BY ops.size AS) ds/\ ∀d,d∈ds->d.o.op.kl= .a->d.slot<n:=by
 unfold b0j at h;simp only at h;split at h
 ·rename_i hc;obtain⟨h1,h2,h3,h4,h5,h6⟩:=hc;simp only[AD,Prod.mk.injEq] at h;obtain⟨rfl,rfl⟩:=h;obtain⟨h7,_,h8⟩:=b6v rfl h5;simp only[AW,AX,Ad,Ab] at h6;simp only[AW,At] at h2;refine⟨by simpa using h1,h3,⟨by simp,fun i hi=> ?_,h7,fun d hd=> ?_,c0c h4,b0c (fun k hk=>by cases hk) h8,fun k hk=> ?_,fun d hd=>a8o (h6 d hd).1⟩,fun d hd ha=> ?_⟩
  ·constructor
   ·intro _;have:=a1o.1 (h2 i (by simpa using hi));simp only[BE] at this;exact this
   ·intro _;simp[hi]
  ·have:ios[d.i]? =AC d.o:=by
    unfold d5j at hd;simp only[List.mem_filterMap] at hd;obtain⟨j,_,hj⟩:=hd;split at hj
    ·cases hj
    ·rename_i o ho;simp only[AD] at hj;subst hj;exact ho
   obtain⟨o,ho,hg⟩:=c0l hios d.i d.o this;rw[Nat.zero_add] at hg;exact⟨o,by rw[<-Ae];exact ho,hg⟩
  ·rw[A9] at hk;split at hk<;>cases hk
  ·rcases (h6 d hd).2 with h|h
   ·rw[ha] at h;simp at h
   ·exact of_decide_eq_true (by simpa [Bi] using h)
 ·cases h
theorem Sim.grow {w:AZ}{S:Nat->Prop}{ρ:Bn}{h:List a0f}(s:Bp w S ρ h)(m:List a0f):Bp w S ρ (h++m) where
 sblk:=s.sblk
 obj l ob C hl:=by obtain⟨o,h1,h2⟩:=s.obj l ob C hl;exact⟨o,by rw[A8 (AF.1 h1).1];exact h1,h2⟩
 inj:=s.inj
 own l b C o hl ho hf:=by obtain⟨o',h1,_⟩:=s.obj l _ C hl;rw[A8 (AF.1 h1).1] at ho;exact s.own l b C o hl ho hf
theorem d2p {α:Type}(x:α): ∀n,(b8q x n).length=n:=by
 intro n
 induction n with
 |zero=>rfl
 |succ n ih=>simp[b8q,ih]
theorem Rel.drawn {st:St}{a:Bk}{w:AZ}{S:Nat->Prop}{ρ:Bn}(hr:Ax E st a w S ρ):Ax E st a {w with drawn:=w.drawn+1} S ρ:=by have k:Chg w S ρ st.h {w with drawn:=w.drawn+1} S ρ st.h []:=(Chg.refl hr.sim).world rfl rfl ⟨rfl,Nat.le_succ _⟩ rfl;exact hr.step k AQ (x:= .any) (v:= .bool AM) (.any _)
theorem c4p {id:Nat}{n:Nat}{ds:List a0m}{ios:List a1c}(hm:P.follows .mixedOrders=AM)(hlay:Bq P)(hios:a3w P A id ops ops.toList 0=AC ios)(hd:b0j ops.toList ios=AC (n,ds))
 {Q:Lv->St->Prop} {st:St} (h:ev (AN P A ro E) (.draw n ds) Q st):AWP P ro E (.region id ops AM) Q st:=by
 intro a w S ρ hr;obtain⟨h1,h2,h3,h4⟩:=b4d hios hd;refine wpIn_region_any hm ?_;rw[<-h1];simp only[ev] at h;have hr:=hr.drawn;have hb:E.base<=a3q st.h:=by rw[a0u];exact hr.len
 refine d4h hlay (K:=Q .normal) h2 hb (fun st a w S ρ hk hr=>⟨.normal,st,S,ρ,rfl,hk,hr⟩) _ ds _ _ a _ S ρ rfl (by rw[h1];exact h3) h ?_ fun d hd ha=> ?_
 ·refine⟨hr.ts,hr.ds,?_,hr.ext,hr.keep,?_⟩
  ·show Bp _ S ρ (a2u st.h _);rw[a0r];exact hr.sim.grow _
  ·show E.base<=(a2u st.h _).length;rw[a0r,BO];have:=hr.len;omega
 ·refine⟨hr.sim.fresh (by rw[a0u];omega),?_⟩;show _<(a2u st.h _).length;rw[a0r,a0u,BO,d2p];have:=h4 d hd ha;omega
end
section
variable {P:Program} {A:Ann} {ro:Option Nat} {E:Ent} {st:St} {a:Bk} {w:AZ} {S:Nat->Prop} {ρ:Bn} {Q:Exit->Bk->AZ->Prop}
theorem c0w (hl:Bq P){r:Nat}{ops:Array A6}{i:Nat}{o:A6}{io:a1c}{K:St->Prop}{next:Bk->AZ->Prop}(hc:c0z P A r ops i o=AC io)(hk:c4b (AN P A ro E) io st K)(hr:Ax E st a w S ρ)
 (hn: ∀st' a' w' S' ρ',K st'->Ax E st' a' w' S' ρ'->next a' w'):
 if AH o (Av ops a.tmps) then o.wpIn (a3i ro) 0 P a w next Q else (∀f,o.about P w a.eval=AC f->(a3i ro).fn f)/\next (a.put o.dst Aj) w:=by
 simp only[c0z,AG,AB] at hc;obtain⟨op,hop,hc⟩:=hc;have run: ∀{st:St},Ax E st a w S ρ->e0g (AN P A ro E) ⟨o.dst,AQ,op⟩ st K->o.wpIn (a3i ro) 0 P a w next Q:=by intro st hr hk;refine a6e hl hop hk hr fun x h' pg v w' S' ρ' hk hc hv=> ?_;exact hn _ _ _ S' ρ' hk (hr.step hc o.dst hv)
 have skp: ∀{st:St},Ax E st a w S ρ->K (st.put o.dst .und)->(∀f,o.about P w a.eval=AC f->(a3i ro).fn f)/\next (a.put o.dst Aj) w:=
  fun hr hk=>⟨fun f _=>a5w ro f,hn _ _ _ S ρ hk (hr.put o.dst .und)⟩
 split at hc
 ·rename_i hg;simp at hc;subst hc;have:AH o (Av ops a.tmps)=AM:=by simp[AH,hg]
  rw[if_pos this];exact run hr hk
 ·rename_i j want hg;simp only[AB,AP,AD] at hc;obtain⟨oj,hj,d,hd,rfl⟩:=hc;simp only[c4b] at hk;have hy:=b1v (tmps:=a.tmps) hj hd;split at hk
  ·rename_i b hb;obtain⟨hr',hbt⟩:=hr.setb hb;rw[hbt] at hy;simp only at hy;cases b with
   |true=>
    simp only at hk;cases want with
    |true=>rw[if_pos (by simp[AH,hg,hy])];exact run hr' hk
    |false=>rw[if_neg (by simp[AH,hg,hy])];exact skp hr' hk
   |false=>
    simp only at hk;cases want with
    |true=>rw[if_neg (by simp[AH,hg,hy])];exact skp hr' hk
    |false=>rw[if_pos (by simp[AH,hg,hy])];exact run hr' hk
  ·rename_i hb;rw[a0i] at hb;have hlt':d<a.tmps.size:=by rw[<-hr.ts.1];exact (AF.1 hb).1
   have hv:=hr.ts.2 d _ a.tmps[d] hb (by simp[hlt']);have hu:a.tmps[d]? =AC Aj:=by generalize hx:a.tmps[d]=v at hv;cases hv;rw[A5 hlt',hx]
   rw[hu] at hy;have hy:Av ops a.tmps j=AQ:=hy;rw[if_neg (by simp[AH,hg,hy])];exact skp hr hk
  ·exact hk.elim
theorem c1b (hl:Bq P){r:Nat}{ops:Array A6}{K:St->Prop}(hn: ∀st' a' w' S' ρ',K st'->Ax E st' a' w' S' ρ'->Q .normal a' w'): ∀(l:List A6) (i:Nat) (l':List a1c),ops.toList.drop i=l->a3w P A r ops l i=AC l'->
 ∀{st:St} {a:Bk} {w:AZ} {S:Nat->Prop} {ρ:Bn},d2r (AN P A ro E) l' st K->Ax E st a w S ρ->Bm (a3i ro) 0 P ops Q (List.range' i l.length) a w:=by
 intro l
 induction l with
 |nil=>intro i l' hd hc st a w S ρ hk hr;simp[a3w] at hc;subst hc;simp only[List.length_nil,List.range'_zero,Bm];exact hn _ _ _ _ _ hk hr
 |cons o l ih=>
  intro i l' hd hc st a w S ρ hk hr;simp only[a3w,AG,AB,AP,AD] at hc;obtain⟨io,hio,ls,hls,rfl⟩:=hc;have hoi:ops[i]? =AC o:=by
   have:(ops.toList.drop i)[0]? =AC o:=by rw[hd];rfl
   simpa using this
  have hd':ops.toList.drop (i+1)=l:=by rw[<-List.drop_drop,hd];rfl
  simp only[List.length_cons,List.range'_succ,Bm,hoi];exact c0w hl hio hk hr fun st' a' w' S' ρ' hk' hr'=>ih (i+1) ls hd' hls hk' hr'
theorem a4x (hm:P.follows .mixedOrders=AM)(hlay:Bq P): ∀(c:Bf) (ic:a0c),comp P A c=AC ic-> ∀{Q:Lv->St->Prop} {st:St},ev (AN P A ro E) ic Q st->AWP P ro E c Q st:=by
 intro c
 induction c with
 |skip=>intro ic hc Q st h a w S ρ hr;simp[comp] at hc;subst hc;exact wpIn_skip ⟨.normal,st,S,ρ,rfl,h,hr⟩
 |region id ops draw=>
  intro ic hc Q st h a w S ρ hr;cases draw with
  |false=>simp[comp,AB] at hc;obtain⟨l,hl,rfl⟩:=hc;refine wpIn_region ?_;rw[List.range_eq_range'];have:=c1b hlay (P:=P) (A:=A) (ro:=ro) (E:=E) (Q:=c7n E Q) (ops:=ops) (K:=fun st=>Q .normal st) (fun st' a' w' S' ρ' hk hr'=>⟨.normal,st',S',ρ',rfl,hk,hr'⟩) ops.toList 0 l rfl hl h hr;simpa using this
  |true=>simp[comp,AB] at hc;obtain⟨l,hl,n,ds,hd,rfl⟩:=hc;exact c4p hm hlay hl hd h a w S ρ hr
 |seq x y ihx ihy=>
  intro ic hc Q st h a w S ρ hr;simp[comp,AB] at hc;obtain⟨ix,hx,iy,hy,rfl⟩:=hc;refine wpIn_seq (Aq (ihx ix hx h a w S ρ hr) fun e a' w' hp=> ?_);obtain⟨lv,st',S',ρ',h1,h2,h3⟩:=hp;cases lv with
  |normal=>cases e<;>simp[a9d] at h1;exact ihy iy hy h2 a' w' S' ρ' h3
  |exit i=>cases e<;>simp[a9d] at h1;subst h1;exact⟨_,st',S',ρ',rfl,h2,h3⟩
  |ret=>cases e<;>simp[a9d] at h1;exact⟨_,st',S',ρ',rfl,h2,h3⟩
 |cond cx x y ihx ihy=>
  intro ic hc Q st h a w S ρ hr;simp[comp,AB] at hc;obtain⟨c',hc',ix,hx,iy,hy,rfl⟩:=hc;simp only[ev] at h;split at h
  ·rename_i b hb;have hv:=a0t hr.ts hc';rw[hb] at hv;have hset: ∀b',b=b'->Ax E (st.setc c' b') a w S ρ:=by
    rintro b' rfl;cases c' with
    |c v=>exact hr
    |t j=>
     simp only[Al] at hb;cases hg:a1a st.ts j with
     |none=>simp[hg] at hb
     |some v=>simp[hg] at hb;subst hb;exact (hr.setb hg).1
   cases b with
   |true=>exact wpIn_cond_true hv.bool (ihx ix hx h a w S ρ (hset _ rfl))
   |false=>exact wpIn_cond_false hv.bool (ihy iy hy h a w S ρ (hset _ rfl))
  ·exact h.elim
 |block id x ih=>
  intro ic hc Q st h a w S ρ hr;simp[comp,AB] at hc;obtain⟨ix,hx,rfl⟩:=hc;refine wpIn_block (Aq (ih ix hx h a w S ρ hr) fun e a' w' hp=> ?_);obtain⟨lv,st',S',ρ',h1,h2,h3⟩:=hp;cases lv with
  |normal=>cases e<;>simp[a9d] at h1;exact⟨_,st',S',ρ',rfl,h2,h3⟩
  |exit i=>
   cases e<;>simp[a9d] at h1;subst h1;simp only[c3t] at h2;simp only[Exit.inBlock];split at h2
   ·rename_i hi;have:=BK hi;subst this;rw[if_pos rfl];exact⟨_,st',S',ρ',rfl,h2,h3⟩
   ·rename_i hi;rw[if_neg (fun e=>by subst e;simp at hi)];exact⟨_,st',S',ρ',rfl,h2,h3⟩
  |ret=>cases e<;>simp[a9d] at h1;exact⟨_,st',S',ρ',rfl,h2,h3⟩
 |loop x ih=>intro ic hc Q st h;simp[comp,AB] at hc;obtain⟨ix,hx,rfl⟩:=hc;exact h x hx
 |rangeFunc f ps x y ihx ihy=>intro ic hc Q st h;simp[comp,AB] at hc;obtain⟨f',hf,ix,hx,iy,hy,rfl⟩:=hc;exact h f ps x y hf rfl hx hy
 |exit id=>intro ic hc Q st h a w S ρ hr;simp[comp] at hc;subst hc;exact wpIn_exit ⟨_,st,S,ρ,rfl,h,hr⟩
 |scope x ih=>intro ic hc Q st h a w S ρ hr;simp[comp,AB] at hc;obtain⟨ix,hx,rfl⟩:=hc;obtain⟨htop,h⟩:(ro=AQ)/\_:=h;subst htop;have h1:=ih ix hx h a w S ρ hr;refine wpIn_wide.2 (wp_scope_straight (wp_mono (wpIn_wide.1 h1) fun e a' w' hp=> ?_));obtain⟨lv,st',S',ρ',h1,h2,h3⟩:=hp;cases e<;>simp[a9d] at h1<;>exact⟨lv,st',S',ρ',by simp[a9d,h1],h2,h3⟩
 |label l=>intro ic hc Q st h a w S ρ hr;simp[comp] at hc;subst hc;exact wpIn_label ⟨.normal,st,S,ρ,rfl,h,hr⟩
 |goto l=>intro ic hc;simp[comp] at hc
 |ret=>intro ic hc Q st h a w S ρ hr;simp[comp] at hc;subst hc;exact wpIn_ret ⟨_,st,S,ρ,rfl,h,hr⟩
 |refuse why=>intro ic hc;simp[comp] at hc
end
def c1d (S:Sig)(st:St):List c5p->(List AV->Prop)->Prop
 |[],K=>K []
 | .t i::rs,K=>c1d S st rs fun vs=>K (Al st.ts (.t i)::vs)
 | .c i ag::rs,K=>a8s S st.h (Al st.ts (.t i)) ag fun v=>c1d S st rs fun vs=>K (v::vs)
def a5t:List AV->AV
 |[v]=>v
 |vs=> .tuple vs
def a0x (x y:AV):Prop:= ∀(w:AZ) (S:Nat->Prop) (ρ:Bn) (v:Af),VR w S ρ x v->VR w S ρ y v
theorem a0x.refl (x:AV):a0x x x:=fun _ _ _ _ h=>h
theorem a0x.sl {sz n:Nat}{e e':Nat->List DV}(h: ∀i,i<n->e i=e' i):a0x (.d (.sl sz n e)) (.d (.sl sz n e')):=by
 intro w S ρ v hv;cases hv with
 |d hd=>
  cases hd with
  |sl0 sz e a cap=>exact .d (.sl0 _ _ _ _)
  |sl sz n e b off cap f hb hc hl hv hr=>exact .d (.sl sz n e' b off cap f hb hc (fun i hi=>by rw[<-h i hi];exact hl i hi) hv (fun i hi j x hx=>hr i hi j x (by rw[h i hi];exact hx)))
theorem a0x.int {k:Aw}{x y:IX}(h:x.val=y.val):a0x (.d (.int k x)) (.d (.int k y)):=by intro w S ρ v hv;rw[hv.int,h];exact .d (.int k y)
theorem a0x.cells {cs ds:List AV}(hl:cs.length=ds.length)(h: ∀(i:Nat) (x y:AV),cs[i]? =AC x->ds[i]? =AC y->a0x x y){w:AZ}{S:Nat->Prop}{ρ:Bn}{vs:Array Af}
 (hv: ∀(i:Nat) (x:AV) (v:Af),cs[i]? =AC x->vs[i]? =AC v->VR w S ρ x v): ∀(i:Nat) (x:AV) (v:Af),ds[i]? =AC x->vs[i]? =AC v->VR w S ρ x v:=by
 intro i y v hy hu;have hlt:=(AF.1 hy).1;have hx:cs[i]? =AC (cs[i]'(by omega)):=List.getElem?_eq_getElem _;exact h i _ y hx hy w S ρ v (hv i _ v hx hu)
theorem a0x.agg {cs ds:List AV}(hl:cs.length=ds.length)(h: ∀(i:Nat) (x y:AV),cs[i]? =AC x->ds[i]? =AC y->a0x x y):a0x (.agg cs) (.agg ds):=by
 intro w S ρ v hv;cases hv with
 |agg _ vs h1 h2=>exact .agg ds vs (by omega) (a0x.cells hl h h2)
theorem a0x.tuple {cs ds:List AV}(hl:cs.length=ds.length)(h: ∀(i:Nat) (x y:AV),cs[i]? =AC x->ds[i]? =AC y->a0x x y):a0x (.tuple cs) (.tuple ds):=by
 intro w S ρ v hv;cases hv with
 |tuple _ vs h1 h2=>exact .tuple ds vs (by omega) (a0x.cells hl h h2)
inductive a3x:List AV->List AV->Prop
 |nil:a3x [] []
 |cons {x y:AV} {xs ys:List AV} (h:a0x x y) (hs:a3x xs ys):a3x (x::xs) (y::ys)
theorem a3x.get {xs ys:List AV}(h:a3x xs ys):xs.length=ys.length/\ ∀(i:Nat) (x y:AV),xs[i]? =AC x->ys[i]? =AC y->a0x x y:=by
 induction h with
 |nil=>simp
 |cons h hs ih=>
  refine⟨by simp[ih.1],fun i x y hx hy=> ?_⟩;cases i with
  |zero=>simp at hx hy;subst hx;subst hy;exact h
  |succ i=>simp at hx hy;exact ih.2 i x y hx hy
theorem a3x.agg {xs ys:List AV}(h:a3x xs ys):a0x (.agg xs) (.agg ys):=a0x.agg h.get.1 h.get.2
theorem a3x.tuple {xs ys:List AV}(h:a3x xs ys):a0x (.tuple xs) (.tuple ys):=a0x.tuple h.get.1 h.get.2
section
variable {P:Program} {A:Ann} {ro:Option Nat} {E:Ent} {st:St} {a:Bk} {w:AZ} {S:Nat->Prop} {ρ:Bn}
theorem c3z {pa:Addr}:(Bs (.pointer (AC pa))).run P w= .ok pa w:=rfl
theorem e3h {rs:List ResultVar}: ∀{irs:List c5p} {K:List AV->Prop},(rs.mapM fun| .tmp t=>AC (.t t)| .cell a t=>do pure (.c a (<-d3e P t)))=AC irs->Ax E st a w S ρ->c1d (AN P A ro E) st irs K->
 ∃xs vs,K xs/\xs.length=vs.length/\(∀(i:Nat) (x:AV) (v:Af),xs[i]? =AC x->vs[i]? =AC v->VR w S ρ x v)/\
  (rs.mapM fun| .tmp t=>pure (a.tmps.getD t Aj)| .cell x t=>do loadVar t (<-Bs (a.tmps.getD x Aj)):Sem (List Af)).run P w= .ok vs w:=by
 induction rs with
 |nil=>intro irs K h hr hk;simp at h;subst h;exact⟨[],[],hk,rfl,by simp,by simp⟩
 |cons r rs ih=>
  intro irs K h hr hk;simp only[A4,AG,AB,AP,AD] at h;obtain⟨ir,hir,irs',hirs,rfl⟩:=h;cases r with
  |tmp t=>
   simp at hir;subst hir;simp only[c1d] at hk;obtain⟨xs,vs,hk,hl,hv,hrun⟩:=ih hirs hr hk;have h0:VR w S ρ (Al st.ts (.t t)) (a.tmps.getD t Aj):=a0t (X:= .tmp t) hr.ts rfl;refine⟨_,a.tmps.getD t Aj::vs,hk,by simp[hl],fun i x v hx hv'=> ?_,?_⟩
   ·cases i with
    |zero=>simp only[BD,AD] at hx hv';subst hx;subst hv';exact h0
    |succ i=>simp only[An] at hx hv';exact hv i x v hx hv'
   ·simp only[A4,Ao,BG,Ac,hrun]
  |cell x t=>
   simp only[AB,AD] at hir;obtain⟨ag,hag,rfl⟩:=hir;simp only[c1d] at hk;have h0:VR w S ρ (Al st.ts (.t x)) (a.tmps.getD x Aj):=a0t (X:= .tmp x) hr.ts rfl;obtain⟨y,v,pa,hp,hlv,hvr,hk⟩:=c1s hr.sim h0 hag hk;obtain⟨xs,vs,hk,hl,hv,hrun⟩:=ih hirs hr hk;refine⟨_,v::vs,hk,by simp[hl],fun i z u hz hu=> ?_,?_⟩
   ·cases i with
    |zero=>simp only[BD,AD] at hz hu;subst hz;subst hu;exact hvr
    |succ i=>simp only[An] at hz hu;exact hv i z u hz hu
   ·simp only[A4,Ao,hp,c3z,BG,Ac,hlv,hrun]
theorem b7e {fn:Bt}{irs:List c5p}{K:List AV->Prop}(h:b0m P fn=AC irs)(hr:Ax E st a w S ρ)(hk:c1d (AN P A ro E) st irs K):
 ∃xs v,K xs/\(results fn a.tmps).run P w= .ok v w/\VR w S ρ (a5t xs) v/\
  ∃vs:List Af,xs.length=vs.length/\(∀(i:Nat) (x:AV) (v:Af),xs[i]? =AC x->vs[i]? =AC v->VR w S ρ x v)/\v=(if h:vs.toArray.size=1 then vs.toArray[0] else .tuple vs.toArray):=by
 obtain⟨xs,vs,hk,hl,hv,hrun⟩:=e3h h hr hk;refine⟨xs,_,hk,?_,?_,vs,hl,hv,rfl⟩
 ·have:(fn.results.mapM fun| .tmp t=>pure (a.tmps.getD t Aj)| .cell x t=>do loadVar t (<-Bs (a.tmps.getD x Aj)):Sem (Array Af)).run P w= .ok vs.toArray w:=by rw[Array.mapM_eq_mapM_toList];simp only[Sem.run_map,hrun,Ac]
  unfold results;simp only[Ao];generalize hm:(Array.mapM _ fn.results:Sem (Array Af))=m;have h2:m.run P w= .ok vs.toArray w:=by rw[<-hm];exact this
  rw[h2];rfl
 ·match xs,vs,hl,hv with
  |[],[],_,_=>exact .tuple [] #[] rfl (by simp)
  |[x],[v],_,hv=>simpa [a5t] using hv 0 x v (by simp) (by simp)
  |x::y::xs,u::v::vs,hl,hv=>
   have: ¬(u::v::vs).toArray.size=1:=by simp
   rw[dif_neg this];exact .tuple _ _ (by simpa using hl) (fun i x v hx hv'=>hv i x v hx (by simpa using hv'))
def d8h (Sg:Sig)(irs:List c5p)(r:AV):Lv->St->Prop
 | .exit _,_=>False
 |_,st=>c1d Sg st irs fun vs=>a1w Sg st.h vs fun vs' _=>a3z vs'=AM/\a0x (a5t vs') r
def a9g (args:List AV)(n:Nat):List AV:=a2u args (b8q .und n)
theorem c2q {args:List AV}{vs:Array Af}{h:List a0f}{n nt:Nat}(hs:Bp w S ρ h)(hv:VRs w S ρ args vs)(hn:nt=vs.size+n):
 Ax ⟨w,S,ρ,h.length,[]⟩ ⟨a9g args n,h,[]⟩ {tmps:=vs++BY (nt-vs.size) Aj,defers:=[]} w S ρ where
 ts:=by
  rw[a9g,a0r,a7i];refine VRs.app hv ⟨by simp;omega,fun i x v hx hv=> ?_⟩;rw[List.getElem?_replicate] at hx;rw[A9] at hv;split at hx
  ·cases hx;split at hv
   ·cases hv;exact .und
   ·cases hv
  ·cases hx
 ds:=b4p.nil _ _ _ _ _
 sim:=hs
 ext:= .refl _ _ _
 keep:=fun _ _ _=>rfl
 len:=AR _
theorem c0r {vs:List AV}(hf:a3z vs=AM){us:List Af}(hl:vs.length=us.length)(hv: ∀(i:Nat) (x:AV) (v:Af),vs[i]? =AC x->us[i]? =AC v->VR w S ρ x v):
 VR w S a2j (a5t vs) (if h:us.toArray.size=1 then us.toArray[0] else .tuple us.toArray):=by
 have hv':=b4t hf hv
 match vs,us,hl,hv' with
 |[],[],_,_=>exact .tuple [] #[] rfl (by simp)
 |[x],[v],_,hv=>simpa [a5t] using hv 0 x v (by simp) (by simp)
 |x::y::xs,u::v::vs,hl,hv=>
  have: ¬(u::v::vs).toArray.size=1:=by simp
  rw[dif_neg this];exact .tuple _ _ (by simpa using hl) (fun i x v hx hv'=>hv i x v hx (by simpa using hv'))
theorem Rel.take {D:Nat}{ds:List Bj}(hr:Ax E st a w S ρ)(hm:d4q w S ρ E.w.heap.size D)(hds:b4p (w.putObj D (.deferred AQ)) S ρ E.w.heap.size E.ds ds):
 Ax E st {a with defers:=ds} (w.putObj D (.deferred AQ)) S ρ:=by
 have hne: ∀b,b≠D->(w.putObj D (.deferred AQ)).heap[b]? =w.heap[b]? :=fun b hb=>Ak hb;have hS: ∀b,S b->(w.putObj D (.deferred AQ)).heap[b]? =w.heap[b]? :=fun b hb=>hne b fun e=>hm.imm (e▸hb);have hsz:(w.putObj D (.deferred AQ)).heap.size=w.heap.size:=by simp[Ba]
 refine⟨⟨hr.ts.1,fun i x v hx hv=>(hr.ts.2 i x v hx hv).mono (fun _ h=>h) hS (fun _ _ h=>h)⟩,hds,⟨fun b hb=>by rw[hsz];exact hr.sim.sblk b hb,fun l ob C hl=> ?_,hr.sim.inj,hr.sim.own⟩,
  ⟨hr.ext.os,hr.ext.tape,hr.ext.output,by rw[hsz];exact hr.ext.size,hr.ext.mono,fun b hb=>(hS b (hr.ext.mono b hb)).trans (hr.ext.cell b hb),hr.ext.news,fun b hb hn=>(hne b fun e=> ?_).trans (hr.ext.frame b hb hn),hr.ext.owned⟩,hr.keep,hr.len⟩
 ·obtain⟨oo,h1,h2⟩:=hr.sim.obj l ob C hl;refine⟨oo,h1,?_⟩;cases ob with
  |none=>exact h2
  |some b=>exact a0z.mono (fun _ h=>h) hS (fun _ _ h=>h) (hne b fun e=>hm.out l C (e▸hl)) h2
 ·have:=hm.new;omega
theorem d1v {fn:Bt}{R:Bu->AZ->Prop}(hE:E.ds=[]): ∀(Ds:List Nat) {a:Bk} {w:AZ},Ax E st a w S ρ->a.defers=Ds.map (fun D=>{target:= .collected D,args:= #[]})->(∀D,D∈Ds->d4q w S ρ E.w.heap.size D)->Ds.Pairwise (· ≠ ·)->
 (∀(a':Bk) (w':AZ),Ax E st a' w' S ρ->a'.tmps=a.tmps-> ∃v,(results fn a'.tmps).run P w'= .ok v w'/\R (.returned v) w')->BP Ai 0 P fn a.tmps R a.defers .returning w:=by
 intro Ds
 induction Ds with
 |nil=>intro a w hr hd _ _ fin;rw[hd];obtain⟨v,h1,h2⟩:=fin a w hr rfl;exact⟨v,h1,h2⟩
 |cons D Ds ih=>
  intro a w hr hd hm hp fin;have hp:=AJ.1 hp;have hmD:=hm D (by simp);have hlt:D<w.heap.size:=(AI.1 hmD.obj).1;have hms: ∀D',D'∈Ds->d4q (w.putObj D (.deferred AQ)) S ρ E.w.heap.size D':=fun D' hD'=>by have h1:=hm D' (by simp[hD']);exact⟨(Ak (A7 (hp.1 D' hD'))).trans h1.obj,h1.new,h1.out,h1.imm⟩
  have hr':Ax E st {a with defers:=Ds.map (fun D=>{target:= .collected D,args:= #[]})} (w.putObj D (.deferred AQ)) S ρ:=hr.take hmD ⟨Ds,by rw[hE];simp,hms,hp.2⟩;have:=ih hr' rfl hms hp.2 fin;rw[hd];exact⟨by simp,.inl ⟨D,_,rfl,run_takeDeferred hmD.obj,this⟩⟩
theorem Rel.leaves {fn:Bt}{R:Bu->AZ->Prop}(hE:E.ds=[])(hr:Ax E st a w S ρ)(fin: ∀(a':Bk) (w':AZ),Ax E st a' w' S ρ->a'.tmps=a.tmps-> ∃v,(results fn a'.tmps).run P w'= .ok v w'/\R (.returned v) w'):
 BP Ai 0 P fn a.tmps R a.defers .returning w:=by
 obtain⟨Ds,h1,h2,h3⟩:=hr.ds;exact d1v hE Ds hr (by rw[h1,hE];simp) h2 h3 fin
theorem b1p {f:BV}{fn:Bt}{c:Bf}{ic:a0c}{irs:List c5p}{args:List AV}{r:AV}{n:Nat}(hm:P.follows .mixedOrders=AM)(hok:Bq P)(hf:P.funcs[f]? =AC fn)(hb:fn.body=AC c)(hname:fn.name≠ "runtime.NumGoroutine")
 (A:Ann) (hc:comp P A c=AC ic) (hres:b0m P fn=AC irs) (hn:fn.ntmps=args.length+n)
 (h: ∀(E:Ent) (Sg:Sig),E.base=0->Sg=AN P A AQ E->ev Sg ic (d8h Sg irs r) ⟨a9g args n,[],[]⟩):a0j P AS f args r:=by
 refine⟨⟨fn,hf,hname,by rw[hb];simp⟩,fun w S vs hS hv=> ?_⟩;have hs:Bp w S a2j []:=⟨hS,fun _ _ _ h=>(by cases h),fun _ _ _ _ _ h=>(by cases h),fun _ _ _ _ h=>(by cases h)⟩;have hr:=c2q (h:=[]) (n:=n) (nt:=fn.ntmps) hs hv (by rw[hn,hv.1]);have hev:=a4x (ro:=AQ) hm hok c ic hc (h ⟨w,S,a2j,0,[]⟩ _ rfl rfl) _ w S a2j hr;refine BR (n:=0)|>.1 (BZ hf hb trivial (Aq hev fun e a' w' hp=> ?_))
 obtain⟨lv,st',S',ρ',h1,h2,h3⟩:=hp;have key: ∀{lv:Lv},(∀i,lv≠ .exit i)->d8h (AN P A AQ ⟨w,S,a2j,0,[]⟩) irs r lv st'->
  BP Ai 0 P fn a'.tmps (fun e w'=> ∃v1 S',e= .returned v1/\VR w' S' a2j r v1/\(∀b,S' b->(AS=AS/\S b)\/(w.heap.size<=b/\b<w'.heap.size))/\d6d w w') a'.defers .returning w':=by
  intro lv hne hq;have hq:c1d (AN P A AQ ⟨w,S,a2j,0,[]⟩) st' irs fun vs=>a1w (AN P A AQ ⟨w,S,a2j,0,[]⟩) st'.h vs fun vs' _=>a3z vs'=AM/\a0x (a5t vs') r:=by
   cases lv with
   |exit i=>exact absurd rfl (hne i)
   |normal=>exact hq
   |ret=>exact hq
  refine h3.leaves rfl fun a2 w2 h3 _=> ?_;obtain⟨xs,v,hk,hrun,_,us,hl,hv',rfl⟩:=b7e hres h3 hq;obtain⟨xs',h',S2,⟨hfr,hlike⟩,k,hl2,hv2⟩:=b1x h3.sim hl hv' hk;have e2:=h3.ext.trans k.chg.ext;refine⟨_,hrun,_,S2,rfl,hlike _ _ _ _ (c0r hfr hl2 hv2),fun b hb=> ?_,⟨h3.ext.os,h3.ext.tape,h3.ext.output,h3.ext.size,fun b hb=>h3.ext.frame b hb (fun l C h=>by cases h)⟩⟩;rcases e2.news b hb with h|h|⟨l,C,h⟩
  ·exact .inl ⟨rfl,h⟩
  ·exact .inr ⟨h,k.sim.sblk b hb⟩
  ·cases h
 cases lv with
 |exit i=>exact h2.elim
 |normal=>cases e<;>simp[a9d] at h1;exact key (by simp) h2
 |ret=>cases e<;>simp[a9d] at h1;exact key (by simp) h2
def d4j (Sg:Sig)(irs:List c5p)(base:Nat)(K:List Nat->AV->List a0f->Prop):Lv->St->Prop
 | .exit _,_=>False
 |_,st=>c1d Sg st irs fun vs=> ∃pg,(∀l,l<base->l∈st.mv->l∈pg)/\K pg (a5t vs) st.h
theorem b0s {f:BV}{fn:Bt}{c:Bf}{ic:a0c}{irs:List c5p}{args:List AV}{h0:List a0f}{K:List Nat->AV->List a0f->Prop}{n:Nat}(hm:P.follows .mixedOrders=AM)(hok:Bq P)(hf:P.funcs[f]? =AC fn)(hb:fn.body=AC c)(hname:fn.name≠ "runtime.NumGoroutine")
 (A:Ann) (hc:comp P A c=AC ic) (hres:b0m P fn=AC irs) (hn:fn.ntmps=args.length+n)
 (h: ∀(E:Ent) (Sg:Sig),E.base=h0.length->Sg=AN P A AQ E->ev Sg ic (d4j Sg irs h0.length K) ⟨a9g args n,h0,[]⟩):a1h P f args h0 K:=by
 refine⟨⟨fn,hf,hname,by rw[hb];simp⟩,fun w S ρ0 vs hs hv=> ?_⟩;have hr:=c2q (h:=h0) (n:=n) (nt:=fn.ntmps) hs hv (by rw[hn,hv.1]);have hev:=a4x (ro:=AQ) hm hok c ic hc (h ⟨w,S,ρ0,h0.length,[]⟩ _ rfl rfl) _ w S ρ0 hr;refine BR (n:=0)|>.1 (BZ hf hb trivial (Aq hev fun e a' w' hp=> ?_))
 obtain⟨lv,st',S',ρ',h1,h2,h3⟩:=hp;have key: ∀{lv:Lv},(∀i,lv≠ .exit i)->d4j (AN P A AQ ⟨w,S,ρ0,h0.length,[]⟩) irs h0.length K lv st'->
  BP Ai 0 P fn a'.tmps (fun e w'=> ∃v x pg h' S' ρ',e= .returned v/\K pg x h'/\VR w' S' ρ' x v/\Bp w' S' ρ' h'/\Ext w S ρ0 w' S' ρ'/\h0.length<=h'.length/\ ∀l,l<h0.length->l∉pg->ρ' l=ρ0 l) a'.defers .returning w':=by
  intro lv hne hq;have hq:c1d (AN P A AQ ⟨w,S,ρ0,h0.length,[]⟩) st' irs fun vs=> ∃pg,(∀l,l<h0.length->l∈st'.mv->l∈pg)/\K pg (a5t vs) st'.h:=by
   cases lv with
   |exit i=>exact absurd rfl (hne i)
   |normal=>exact hq
   |ret=>exact hq
  refine h3.leaves rfl fun a2 w2 h3 _=> ?_;obtain⟨xs,v,⟨pg,hpg,hk⟩,hrun,hvr,_⟩:=b7e hres h3 hq;exact⟨_,hrun,v,_,pg,st'.h,S',ρ',rfl,hk,hvr,h3.sim,h3.ext,h3.len,fun l hl hn=>h3.keep l hl fun hmem=>hn (hpg l hl hmem)⟩
 cases lv with
 |exit i=>exact h2.elim
 |normal=>cases e<;>simp[a9d] at h1;exact key (by simp) h2
 |ret=>cases e<;>simp[a9d] at h1;exact key (by simp) h2
end
def b4o (S:Sig):Nat->a0c->(Lv->St->Prop)->St->Prop
 |0,_,_,_=>False
 |m+1,c,Q,st=>ev S c (fun lv st'=>match lv with
  | .normal=>b4o S m c Q st'
  | .exit i=>Q (.exit i) st'
  | .ret=>Q .ret st') st
section
variable {P:Program} {A:Ann} {ro:Option Nat} {E:Ent} {st:St} {a:Bk} {w:AZ} {S:Nat->Prop} {ρ:Bn} {Q:Lv->St->Prop}
theorem b2n (hm:P.follows .mixedOrders=AM)(hok:Bq P){m:Nat}{ic:a0c}(h:b4o (AN P A ro E) m ic Q st):(AN P A ro E).loop ic Q st:=by
 intro c hc a w S ρ hr;refine wpIn_loop_rounds m ?_
 induction m generalizing st a w S ρ with
 |zero=>exact h.elim
 |succ m ih=>
  refine Aq (a4x hm hok c ic hc h a w S ρ hr) fun e a' w' hp=> ?_;obtain⟨lv,st',S',ρ',h1,h2,h3⟩:=hp;cases lv with
  |normal=>cases e<;>simp[a9d] at h1;exact ih h2 a' w' S' ρ' h3
  |exit i=>cases e<;>simp[a9d] at h1;subst h1;exact⟨_,st',S',ρ',rfl,h2,h3⟩
  |ret=>cases e<;>simp[a9d] at h1;exact⟨_,st',S',ρ',rfl,h2,h3⟩
def b2p:List Nat->List AV->List AV->List AV
 |p::ps,v::vs,ts=>b2p ps vs (a2x ts p v)
 |_,_,ts=>ts
theorem d7l {ps:List Nat}: ∀{xs:List AV} {vs:List Af} {ts:List AV} {tmps:Array Af},xs.length=vs.length->ps.length=xs.length->(∀(i:Nat) (x:AV) (v:Af),xs[i]? =AC x->vs[i]? =AC v->VR w S ρ x v)->VRs w S ρ ts tmps->
 VRs w S ρ (b2p ps xs ts) ((ps.zip vs).foldl (fun tmps (t,a)=>tmps.setIfInBounds t a) tmps):=by
 induction ps with
 |nil=>intro xs vs ts tmps _ _ _ h;simpa [b2p] using h
 |cons p ps ih=>
  intro xs vs ts tmps hl hp hv h
  match xs,vs,hl,hp with
  |x::xs,v::vs,hl,hp=>
   simp only[b2p,List.zip_cons_cons,List.foldl_cons];refine ih (by simpa using hl) (by simpa using hp) (fun i x v hx hv'=>hv (i+1) x v (by simpa using hx) (by simpa using hv')) ⟨by simpa [a0l] using h.1,fun i y u hy hu=> ?_⟩;rw[a0l] at hy;by_cases e:i=p
   ·subst e;rw[BU] at hy;rw[Az] at hu;simp at hy hu;obtain⟨_,rfl⟩:=hy;obtain⟨_,rfl⟩:=hu;exact hv 0 _ _ rfl rfl
   ·rw[AK (A7 e)] at hy;rw[Array.getElem?_setIfInBounds_ne (A7 e)] at hu;exact h.2 i y u hy hu
def b5b (l base:Nat)(K:List Nat->AV->List a0f->Prop):Lv->St->Prop:=fun lv st=>
 l∉st.mv/\ ∃ts ps code,a1a st.h l=AC (.loop .busy ts ps code)/\ ∃pg,(∀m,m<base->m∈st.mv->m∈pg)/\(match lv with
  | .normal=>K pg (.d (.bool AM)) (a2x st.h l (.loop .ready ts ps code))
  | .exit i=>K pg (.d (.bool AS)) (a2x st.h l (.loop (.done (.exit i)) ts ps code))
  | .ret=>K pg (.d (.bool AS)) (a2x st.h l (.loop (.done .ret) ts ps code)))
theorem a7l {h:List a0f}(hs:Bp w S ρ h){l b C:Nat}(hρ:ρ l=AC (AC b,C)){s s':LSt}{ts:List AV}{ps:List Nat}{code:Bf->Bf->Prop}(hl:h[l]? =AC (.loop s ts ps code)):
 ∃r:Loop,w.heap[b]? =AC (.loop r)/\r.state=s.state/\r.pending=s.pend/\r.params.toList=ps/\code r.assign r.body/\VRs w S ρ ts r.tmps/\
  Chg w S ρ h (w.putObj b (.loop {r with state:=s'.state,pending:=s'.pend})) S ρ (h.set l (.loop s' ts ps code)) []:=by
 obtain⟨oo,h1,h2⟩:=hs.obj l _ C hρ;rw[hl] at h1;cases h1;obtain⟨r,h3,h4,h5,h6,h7,h8,h9⟩:=h2;have hlt:b<w.heap.size:=(AI.1 h3).1;have hne: ∀k,k≠b->(w.putObj b (.loop {r with state:=s'.state,pending:=s'.pend})).heap[k]? =w.heap[k]? :=fun k hk=>Ak hk;have hS: ∀k,S k->(w.putObj b (.loop {r with state:=s'.state,pending:=s'.pend})).heap[k]? =w.heap[k]? :=fun k hk=>hne k fun e=>hs.own l b C _ hρ hl rfl (e▸hk);refine⟨r,h3,h4,h5,h6,h7,⟨h8.symm,h9⟩,Chg.set hs hρ hl rfl rfl ⟨rfl,AR _⟩ rfl (by simp[Ba]) hne ⟨_,World.putObj_heap_same hlt,rfl,rfl,h6,h7,h8,fun i x v hx hv=>(h9 i x v hx hv).mono (fun _ h=>h) hS (fun _ _ h=>h)⟩⟩
theorem b9t (hm:P.follows .mixedOrders=AM)(hok:Bq P){l:Nat}{args:List AV}{h:List a0f}{K:List Nat->AV->List a0f->Prop}{ts:List AV}{ps:List Nat}{code:Bf->Bf->Prop}{ia ib:a0c}
 (hl:a1a h l=AC (.loop .ready ts ps code)) (hcode: ∀ca cb,code ca cb->comp P A ca=AC ia/\comp P A cb=AC ib) (hps:ps.length=args.length)
 (hev: ∀(ro:Option Nat) (E:Ent) (Sg:Sig),Sg=AN P A ro E->ev Sg ia (fun lv st=>lv= .normal/\l∉st.mv/\ ∃ts ps code,a1a st.h l=AC (.loop .ready ts ps code)/\
   ev Sg ib (b5b l h.length K) ⟨st.ts,a2x st.h l (.loop .busy ts ps code),st.mv⟩) ⟨b2p ps args ts,h,[]⟩):b5d P l args h K:=by
 intro w S ρ vs b C hs hv hρ;rw[a0i] at hl;have hlt:l<h.length:=(AF.1 hl).1;obtain⟨r,h3,h4,h5,h6,h7,h8,_⟩:=a7l (s':= .ready) hs hρ hl;obtain⟨c1,c2⟩:=hcode _ _ h7;have hpsz:vs.size=r.params.size:=by rw[<-hv.1,<-hps,<-h6];simp
 refine⟨r.fn,_,r.assign,r.body,run_yield h3 hpsz,?_⟩;have hro:(Ai.inRound b)=a3i (AC b):=rfl;have hts:VRs w S ρ (b2p ps args ts) ((r.params.zip vs).foldl (fun tmps (t,a)=>tmps.setIfInBounds t a) r.tmps):=by have:=d7l (ps:=ps) (xs:=args) (vs:=vs.toList) (by simpa using hv.1) hps (fun i x v hx hv'=>hv.2 i x v hx (by simpa using hv')) h8;subst h6;rw[<-Array.foldl_toList,Array.toList_zip];exact this
 have hr:Ax ⟨w,S,ρ,h.length,[]⟩ ⟨b2p ps args ts,h,[]⟩ {tmps:=(r.params.zip vs).foldl (fun tmps (t,a)=>tmps.setIfInBounds t a) r.tmps,defers:=[]} w S ρ:=
  ⟨hts,b4p.nil _ _ _ _ _,hs,.refl _ _ _,fun _ _ _=>rfl,AR _⟩
 refine roundIn_of_wpIn trivial ?_;rw[hro];refine Aq (a4x (ro:=AC b) hm hok r.assign ia c1 (hev (AC b) ⟨w,S,ρ,h.length,[]⟩ _ rfl) _ w S ρ hr) fun e a1 w1 hp=> ?_;obtain⟨lv,st1,S1,ρ1,g1,⟨rfl,hnm,ts1,ps1,code1,g2,g3⟩,g4⟩:=hp;cases e<;>simp[a9d] at g1;rw[a0i] at g2;have hρ1:ρ1 l=AC (AC b,C):=(g4.keep l hlt hnm).trans hρ;obtain⟨r1,q3,q4,q5,q6,q7,q8,chg⟩:=a7l (s':= .busy) g4.sim hρ1 g2;have hr1:({r1 with state:=LSt.busy.state,pending:=LSt.busy.pend}:Loop)={r1 with state:= .busy}:=by cases r1;simp[LSt.pend] at q5;subst q5;rfl
 rw[hr1] at chg;refine⟨_,run_beginRound q3 q4,?_⟩;have hr2:=g4.step chg AQ (x:= .any) (v:=Aj) (.any _);have g3:ev (AN P A (AC b) ⟨w,S,ρ,h.length,[]⟩) ib (b5b l h.length K) (((st1.setH (st1.h.set l (.loop .busy ts1 ps1 code1))).purge []).put AQ .any):=by rw[<-a0l];exact g3
 refine Aq (a4x (ro:=AC b) hm hok r.body ib c2 g3 _ _ _ _ hr2) fun e a2 w2 hp=> ?_;obtain⟨lv,st2,S2,ρ2,k1,⟨hnm2,ts2,ps2,code2,k2,pg,k3,k4⟩,k5⟩:=hp;rw[a0i] at k2;simp only[a0l] at k4;have hρ2:ρ2 l=AC (AC b,C):=(k5.keep l hlt hnm2).trans hρ;have fin: ∀(s':LSt) (bo:Bool) (jump:Option Bf),s'.state=(if jump.isNone then .ready else .done)->s'.pend=jump->bo=jump.isNone->K pg (.d (.bool bo)) (st2.h.set l (.loop s' ts2 ps2 code2))->
  ∃v w',(Instr.endRound b jump).run P w2= .ok v w'/\(fun e w'=> ∃v x pg h' S' ρ',e=Ending.returned v/\K pg x h'/\VR w' S' ρ' x v/\Bp w' S' ρ' h'/\Ext w S ρ w' S' ρ'/\h.length<=h'.length/\ ∀l,l<h.length->l∉pg->ρ' l=ρ l) (.returned v) w':=by
  intro s' bo jump e1 e2 e3 hk;obtain⟨r2,m3,m4,m5,m6,m7,m8,chg2⟩:=a7l (s':=s') k5.sim hρ2 k2;rw[e1,e2] at chg2;refine⟨_,_,run_endRound jump m3,_,_,pg,_,S2,ρ2,rfl,hk,?_,chg2.sim,k5.ext.trans chg2.ext,Nat.le_trans k5.len chg2.len,fun m hm' hpg=>k5.keep m hm' fun hmem=>hpg (k3 m hm' hmem)⟩;rw[e3];exact .d (.bool _)
 cases lv with
 |normal=>cases e<;>simp[a9d] at k1;exact fin .ready AM AQ rfl rfl rfl k4
 |exit i=>cases e<;>simp[a9d] at k1;subst k1;exact fin (.done (.exit _)) AS (AC (.exit _)) rfl rfl rfl k4
 |ret=>cases e<;>simp[a9d] at k1;exact fin (.done .ret) AS (AC .ret) rfl rfl rfl k4
def b4r (l:Nat)(ts:List AV)(mv:List Nat)(Q:Lv->St->Prop)(pg:List Nat)(h:List a0f):Prop:=
 l∉pg/\ ∃s ts0 ps code,a1a h l=AC (.loop s ts0 ps code)/\(match s with
  | .ready=>Q .normal ((Be ts (a2x h l (.loop (.over .normal) ts0 ps code)) mv).purge pg)
  | .done .ret=>Q .ret ((Be ts (a2x h l (.loop (.over .ret) ts0 ps code)) mv).purge pg)
  | .done (.exit i)=>Q (.exit i) ((Be ts (a2x h l (.loop (.over (.exit i)) ts0 ps code)) mv).purge pg)
  |_=>False)
theorem c3w (o:Obj):d6d w (w.alloc o):=⟨rfl,⟨rfl,AR _⟩,rfl,by rw[BS];omega,fun b hb=>by show (w.heap.push o)[b]? =_;rw[AY,if_neg (by omega)]⟩
theorem b9s {f:a0h}{ps:List Nat}{ia ib:a0c}{g:BV}{first cap:List AV}(hf:Al st.ts f= .fn g first cap)
 (h:a1h P g (Br (a2u first (a2u [.yl (a3q st.h)] cap))) (a2u st.h [.loop .ready st.ts ps (fun ca cb=>comp P A ca=AC ia/\comp P A cb=AC ib)]) fun pg _ h2=>b4r (a3q st.h) st.ts st.mv Q pg h2):
 (AN P A AQ E).range f ps ia ib Q st:=by
 intro f' ps' a' b' hf' hps' ha' hb' a w S ρ hr;subst hps';have h0:=a0t hr.ts hf';rw[hf] at h0;generalize hv:a.eval f'=v at h0;cases h0 with
 |fn _ _ _ us cs hl1 h1 hl2 h2=>
  obtain⟨hent,hcall⟩:=h;obtain⟨fn0,e1,e2,e3⟩:=hent;refine wpIn_rangeFunc (n:=0) fun fn hfn=> ?_;rw[a0u,a0r,a0r,a0r] at hcall;have hsz:(w.alloc (.deferred (AC []))).heap.size=w.heap.size+1:=BS _ _;have c1:=b5v (S1:=fun _=>False) hr.sim (fun _ h=>h.elim) (c3w (w:=w) (.deferred (AC [])));have hSS:(fun b=>S b\/False)=S:=by funext b;simp
  rw[hSS] at c1;have r1:=hr.step c1 AQ (x:= .any) (v:=Aj) (.any _);have r1:Ax E st a (w.alloc (.deferred (AC []))) S ρ:=r1;have mk1:d4q (w.alloc (.deferred (AC []))) S ρ E.w.heap.size w.heap.size:=⟨World.alloc_heap_new w _,hr.ext.size,fun l C hl=>by have:=hr.sim.blk hl;omega,fun hs=>by have:=hr.sim.sblk _ hs;omega⟩;obtain⟨rec,hrec⟩: ∃rec:Loop,rec={state:= .ready,pending:=AQ,fn:=fn,tmps:=a.tmps,params:=ps',assign:=a',body:=b',defers:=w.heap.size}:=⟨_,rfl⟩;have c2:=Chg.new (S:=S) (ρ:=ρ) (h:=st.h) r1.sim (hr.sim.fresh (AR _)) (.loop rec)
   (.loop .ready st.ts ps'.toList (fun ca cb=>comp P A ca=AC ia/\comp P A cb=AC ib)) 0 (fun w' hw'=>⟨rec,by rw[hw',AY,if_pos rfl],by rw[hrec];rfl,by rw[hrec];rfl,by rw[hrec],by rw[hrec];exact⟨ha',hb'⟩,by rw[hrec];exact r1.ts.1.symm,fun i x v hx hv=>(r1.ts.2 i x v hx (by rw[hrec] at hv;exact hv)).mono (fun _ h=>h) (fun b hb=>by
     rw[hw',AY,if_neg];have:=r1.sim.sblk b hb;omega) (fun _ _ h=>h)⟩)
  have hent2:(Instr.enterLoop fn a.tmps ps' a' b' (a3i AQ).round).run P w= .ok (w.heap.size+1,[{target:= .collected w.heap.size,args:= #[]}]) ((w.alloc (.deferred (AC []))).alloc (.loop rec)):=by rw[hrec];exact run_enterLoop_outer _ _ _ _ _
  have hw2:({(w.alloc (.deferred (AC []))) with heap:=(w.alloc (.deferred (AC []))).heap.push (.loop rec)}:AZ)=(w.alloc (.deferred (AC []))).alloc (.loop rec):=rfl;rw[hw2,hsz] at c2;have hcf:(callFunc g (us++ #[.func (.yield (w.heap.size+1)) #[] #[]]++cs)).run P ((w.alloc (.deferred (AC []))).alloc (.loop rec))= .ok (.enter g (us++ #[.func (.yield (w.heap.size+1)) #[] #[]]++cs)) ((w.alloc (.deferred (AC []))).alloc (.loop rec)):=by simp[callFunc,e1,e2,e3]
  refine⟨w.heap.size+1,_,_,{target:= .fn (.func g) cs,args:=us++ #[.func (.yield (w.heap.size+1)) #[] #[]]},(w.alloc (.deferred (AC []))).alloc (.loop rec),g,us++ #[.func (.yield (w.heap.size+1)) #[] #[]]++cs,(w.alloc (.deferred (AC []))).alloc (.loop rec),hent2,?_,fun f2 _=>trivial,?_,(fun hd=>by cases hd),?_⟩
  ·have hcst: ∀v,a.eval (.const v)=v:=fun _=>rfl;simp[resolve,hv,hcst,Deferred.ofValue]
  ·simp only[invoke];exact hcf
  ·have hlen:st.h.length<(st.h++[a0f.loop .ready st.ts ps'.toList (fun ca cb=>comp P A ca=AC ia/\comp P A cb=AC ib)]).length:=by simp
   have hvs:VRs ((w.alloc (.deferred (AC []))).alloc (.loop rec)) S (fun m=>if m=st.h.length then AC (AC (w.heap.size+1),0) else ρ m) (Br (first++([.yl st.h.length]++cap))) (us++ #[.func (.yield (w.heap.size+1)) #[] #[]]++cs):=by
    have mono: ∀{x:AV} {v:Af},VR w S ρ x v->VR ((w.alloc (.deferred (AC []))).alloc (.loop rec)) S (fun m=>if m=st.h.length then AC (AC (w.heap.size+1),0) else ρ m) x v:=
     fun h=>h.mono (fun _ h=>h) (c1.ext.trans c2.ext).cell fun m p hp=>c2.keep m p (by simp) hp
    rw[<-List.append_assoc];refine VRs.norm (VRs.app (VRs.app ⟨hl1,fun i x v hx hv=>mono (h1 i x v hx hv)⟩ ⟨rfl,fun i x v hx hv=> ?_⟩) ⟨hl2,fun i x v hx hv=>mono (h2 i x v hx hv)⟩);cases i with
    |zero=>simp at hx hv;subst hx;subst hv;exact .yl _ (w.heap.size+1) 0 (if_pos rfl)
    |succ i=>simp at hx
   refine (BR (n:=0-1)|>.2 (hcall _ S _ _ c2.sim hvs)).mono fun e w3 hp=> ?_;obtain⟨v,x,pg,h3,S',ρ',rfl,⟨hnp,s,ts0,ps0,code0,g1,g2⟩,gvr,gsim,gext,glen,glow⟩:=hp;rw[a0i] at g1;have hρl:ρ' st.h.length=AC (AC (w.heap.size+1),0):=(glow _ hlen hnp).trans (if_pos rfl);have glow2: ∀m,m<st.h.length->m∉pg->ρ' m=ρ m:=fun m hm' hpg=>(glow m (by omega) hpg).trans (if_neg (by omega));have fin: ∀(lv:Lv),s.pend=lv.jump->s.state≠ .busy->Q lv ((Be st.ts (a2x h3 st.h.length (.loop (.over lv) ts0 ps0 code0)) st.mv).purge pg)->
    ∃w4,(Instr.endLoop (w.heap.size+1)).run P w3= .ok lv.jump w4/\ ∀(ex:Exit),a9d ex=AC lv->c7n E Q ex {a with defers:=[{target:= .collected w.heap.size,args:= #[]}]++a.defers} w4:=by
    intro lv hpd hst hq;obtain⟨r,m3,m4,m5,m6,m7,m8,chg⟩:=a7l (s':= .over lv) gsim hρl g1;have hrr:({r with state:=(LSt.over lv).state,pending:=(LSt.over lv).pend}:Loop)={r with state:= .exhausted}:=by
     have:(LSt.over lv).pend=r.pending:=by rw[m5,hpd];rfl
     rw[this];rfl
    rw[hrr] at chg;have hrun:(Instr.endLoop (w.heap.size+1)).run P w3= .ok lv.jump (w3.putObj (w.heap.size+1) (.loop {r with state:= .exhausted})):=by have e:r.pending=lv.jump:=m5.trans hpd;rw[run_endLoop (P:=P) m3 (by rw[m4];exact hst),e]
    refine⟨_,hrun,fun ex hex=>⟨lv,_,S',ρ',hex,hq,?_⟩⟩;have tot:Chg w S ρ st.h (w3.putObj (w.heap.size+1) (.loop {r with state:= .exhausted})) S' ρ' (h3.set st.h.length (.loop (.over lv) ts0 ps0 code0)) pg:=
     ⟨chg.sim,by simp at glen⊢;omega,((c1.ext.trans c2.ext).trans gext).trans chg.ext,fun m p hmp hp=>by
       have hlt:m<st.h.length:=Nat.lt_of_not_le fun hle=>by rw[hr.sim.fresh hle] at hp;cases hp
       rw[glow2 m hlt hmp];exact hp,glow2⟩
    have rr:=hr.step tot AQ (x:= .any) (v:=Aj) (.any _);rw[a0l];have rr:Ax E ((Be st.ts (h3.set st.h.length (.loop (.over lv) ts0 ps0 code0)) st.mv).purge pg) a (w3.putObj (w.heap.size+1) (.loop {r with state:= .exhausted})) S' ρ':=rr;refine⟨rr.ts,?_,rr.sim,rr.ext,rr.keep,rr.len⟩;obtain⟨Ds,d1,d2,d3⟩:=rr.ds;obtain⟨Ds0,d4,d5,d6⟩:=hr.ds;have hDs:Ds=Ds0:=by
     have h5:=d1.symm.trans d4;have h6:=List.append_cancel_right h5;have inj: ∀(l1 l2:List Nat),l1.map (fun D=>({target:= .collected D,args:= #[]}:Bj))=l2.map (fun D=>({target:= .collected D,args:= #[]}:Bj))->l1=l2:=by
      intro l1
      induction l1 with
      |nil=>intro l2 h;cases l2 with|nil=>rfl|cons y l2=>simp at h
      |cons x l1 ih=>
       intro l2 h;cases l2 with
       |nil=>simp at h
       |cons y l2=>simp at h;rw[h.1,ih l2 (by simpa using h.2)]
     exact inj _ _ h6
    subst hDs;refine⟨w.heap.size::Ds,by rw[d1];rfl,fun D hD=> ?_,AJ.2 ⟨fun D hD=> ?_,d3⟩⟩
    ·rcases AE.1 hD with rfl|hD
     ·exact mk1.ext ((c2.ext.trans gext).trans chg.ext)
     ·exact d2 D hD
    ·have:=(AI.1 (d5 D hD).obj).1;omega
   split at g2
   ·obtain⟨w4,h4,h5⟩:=fin .normal rfl (by simp[LSt.state]) g2;exact⟨AQ,w4,h4,h5 .normal rfl⟩
   ·obtain⟨w4,h4,h5⟩:=fin .ret rfl (by simp[LSt.state]) g2;exact⟨AC .ret,w4,h4,wpIn_ret (h5 .ret rfl)⟩
   ·obtain⟨w4,h4,h5⟩:=fin (.exit _) rfl (by simp[LSt.state]) g2;exact⟨AC (.exit _),w4,h4,wpIn_exit (h5 (.exit _) rfl)⟩
   ·exact g2.elim
end
end Go.Vf
