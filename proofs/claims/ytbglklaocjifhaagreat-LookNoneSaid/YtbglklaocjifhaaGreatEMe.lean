/- Parts of the proof: Me. Conditions: none. -/
import Derived.Test.YtbglklaocjifhaaGreatEMd
open Go.Vf.IOp renaming opds->AA,kl->AL
open List renaming mem_cons->AB,getElem?_set_ne->AC,mem_cons_of_mem->AJ,getElem?_eq_some_iff->AN,set_eq_of_length_le->AO,set_comm->AP,set_getElem_self->AQ,map_cons->AS
open Go.Vf renaming std->AD,opd->AI
open Option renaming some->AE,none->AR
open Go.Vf.AV renaming forget->AF,forgetL->AT
open Go.Vf.St renaming put->AG,setH->AU
open Go.Vf.St.mk renaming injEq->AH
open Bool renaming true->AK,false->AM
set_option linter.unusedSimpArgs false
set_option linter.unusedVariables false
namespace Go.Vf
open Go
section
variable {P:Program} {A:Ann} {ro:Option Nat} {E:Ent}
theorem a8l {ts ts2:List AV}: ∀{l:List a0h},(∀x,x∈l->AI ts x=AI ts2 x)->b2j ts l=b2j ts2 l:=by
 intro l
 induction l with
 |nil=>intro _;rfl
 |cons x l ih=>intro h;simp only[b2j];rw[h x (by simp),ih fun y hy=>h y (by simp[hy])]
theorem b8y {ts ts2:List AV}: ∀{l:List (Nat×Nat×a0h)} {cs:List AV},(∀x,x∈l.map (·.2.2)->AI ts x=AI ts2 x)->b2r ts cs l=b2r ts2 cs l:=by
 intro l
 induction l with
 |nil=>intro cs _;rfl
 |cons x l ih=>
  intro cs h;obtain⟨off,sz,x⟩:=x;simp only[b2r];rw[h x (by simp)];congr 1;split
  ·exact ih fun y hy=>h y (by simp only[AS,AB];exact .inr hy)
  ·rfl
theorem b1s {ts ts2:List AV}{sz:Nat}: ∀{l:List (Nat×a0h)} {cs:List (List AV)},(∀x,x∈l.map (·.2)->AI ts x=AI ts2 x)->a8q ts sz cs l=a8q ts2 sz cs l:=by
 intro l
 induction l with
 |nil=>intro cs _;rfl
 |cons x l ih=>
  intro cs h;obtain⟨off,x⟩:=x;simp only[a8q];rw[h x (by simp)];congr 1;split
  ·exact ih fun y hy=>h y (by simp only[AS,AB];exact .inr hy)
  ·rfl
theorem a1f {ts ts2:List AV}{x:Option a0h}{d:IX}{K:IX->Prop}(h: ∀y,y∈a9t x->AI ts y=AI ts2 y):b0u ts x d K=b0u ts2 x d K:=by
 cases x with
 |none=>rfl
 |some o=>simp only[b0u];rw[h o (by simp[a9t])]
theorem a3c {S:Sig}{o:IOp}{ts ts2:List AV}{h:List a0f}{mv mv2:List Nat}{K:AV->List a0f->List Nat->Prop}(ha: ∀x,x∈o.opds->AI ts x=AI ts2 x):
 a0a S o ⟨ts,h,mv⟩ K=a0a S o ⟨ts2,h,mv2⟩ K:=by
 cases o with
 |newnil|alloc|mkmap|mkmapv|bnew|bad|bslice0|bnewv|bnewm=>rfl
 |build zs ps=>simp only[a0a];rw[b8y ha]
 |bslice sz n zs ps mu=>simp only[a0a];rw[b1s ha]
 |bsliceP sz n zs ps=>simp only[a0a];rw[b1s ha]
 |mkfn f l m=>simp only[a0a];rw[a8l fun x hx=>ha x (by simp[AA,hx]),a8l (l:=m) fun x hx=>ha x (by simp[AA,hx])]
 |call f as m=>simp only[a0a];rw[a8l fun x hx=>ha x (by simp[AA,hx]),ha f (by simp[AA])]
 |slice sz x lo hi mx=>
  simp only[a0a];rw[ha x (by simp[AA])];have h1: ∀y,y∈a9t lo->AI ts y=AI ts2 y:=fun y hy=>ha y (by simp[AA,hy]);have h2: ∀y,y∈a9t hi->AI ts y=AI ts2 y:=fun y hy=>ha y (by simp[AA,hy]);have h3: ∀y,y∈a9t mx->AI ts y=AI ts2 y:=fun y hy=>ha y (by simp[AA,hy]);unfold a1d;split
  ·congr 1;rw[a1f h1];congr 1;funext lo';rw[a1f h2];congr 1;funext hi';congr 1;congr 1;congr 1;cases mx with
   |none=>rfl
   |some m=>simp only[];rw[h3 m (by simp[a9t])]
  ·congr 1;rw[a1f h1];congr 1;funext lo';rw[a1f h2];congr 1;funext hi';congr 1;congr 1;congr 1;cases mx with
   |none=>rfl
   |some m=>simp only[];rw[h3 m (by simp[a9t])]
  ·rw[a1f h1];congr 1;funext lo';rw[a1f h2];congr 1;funext hi';congr 1;congr 1;cases mx with
   |none=>rfl
   |some m=>simp only[];rw[h3 m (by simp[a9t])]
  ·rfl
 |slicex sz x lo hi=>simp only[a0a];rw[ha x (by simp[AA])];have h1: ∀y,y∈a9t lo->AI ts y=AI ts2 y:=fun y hy=>ha y (by simp[AA,hy]);have h2: ∀y,y∈a9t hi->AI ts y=AI ts2 y:=fun y hy=>ha y (by simp[AA,hy]);simp only[a1f h1,a1f h2]
 |slarr n x lo hi=>simp only[a0a];rw[ha x (by simp[AA])];have h1: ∀y,y∈a9t lo->AI ts y=AI ts2 y:=fun y hy=>ha y (by simp[AA,hy]);have h2: ∀y,y∈a9t hi->AI ts y=AI ts2 y:=fun y hy=>ha y (by simp[AA,hy]);simp only[a1f h1,a1f h2]
 |slchk sz x lo hi mx=>simp only[a0a];rw[ha x (by simp[AA])];have h1: ∀y,y∈a9t lo->AI ts y=AI ts2 y:=fun y hy=>ha y (by simp[AA,hy]);have h2: ∀y,y∈a9t hi->AI ts y=AI ts2 y:=fun y hy=>ha y (by simp[AA,hy]);have h3: ∀y,y∈a9t mx->AI ts y=AI ts2 y:=fun y hy=>ha y (by simp[AA,hy]);simp only[a4h,a1f h1,a1f h2,a1f h3]
 |pick c a b=>simp only[a0a];rw[ha c (by simp[AA]),ha a (by simp[AA]),ha b (by simp[AA])]
 |store sz a b=>simp only[a0a];rw[ha a (by simp[AA]),ha b (by simp[AA])]
 |bin op a b=>simp only[a0a];rw[ha a (by simp[AA]),ha b (by simp[AA])]
 |binb op a b=>simp only[a0a];rw[ha a (by simp[AA]),ha b (by simp[AA])]
 |aeq n ks a b=>simp only[a0a];rw[ha a (by simp[AA]),ha b (by simp[AA])]
 |aeqw n ks a b=>simp only[a0a];rw[ha a (by simp[AA]),ha b (by simp[AA])]
 |iaddr sz a b=>simp only[a0a];rw[ha a (by simp[AA]),ha b (by simp[AA])]
 |iaddrA n sz a b=>simp only[a0a];rw[ha a (by simp[AA]),ha b (by simp[AA])]
 |lookup wd ks ok a b=>simp only[a0a];rw[ha a (by simp[AA]),ha b (by simp[AA])]
 |lookupv wd ks ok z a b=>simp only[a0a];rw[ha a (by simp[AA]),ha b (by simp[AA])]
 |mapent wd ks z a b=>simp only[a0a];rw[ha a (by simp[AA]),ha b (by simp[AA])]
 |appendP sz by' a b=>simp only[a0a];rw[ha a (by simp[AA]),ha b (by simp[AA])]
 |appendV by' a b=>simp only[a0a];rw[ha a (by simp[AA]),ha b (by simp[AA])]
 |entst a b c=>simp only[a0a];rw[ha a (by simp[AA]),ha b (by simp[AA]),ha c (by simp[AA])]
 |extractF x i=>simp only[a0a];rw[ha x (by simp[AA])]
 |mapupdv wd ks a b c=>simp only[a0a];rw[ha a (by simp[AA]),ha b (by simp[AA]),ha c (by simp[AA])]
 |mapupd wd ks a b c=>simp only[a0a];rw[ha a (by simp[AA]),ha b (by simp[AA]),ha c (by simp[AA])]
 |min a b=>simp only[a0a];rw[ha a (by simp[AA]),ha b (by simp[AA])]
 |bw op a b=>simp only[a0a];rw[ha a (by simp[AA]),ha b (by simp[AA])]
 |max a b=>simp only[a0a];rw[ha a (by simp[AA]),ha b (by simp[AA])]
 |append sz by' a b mu=>simp only[a0a];rw[ha a (by simp[AA]),ha b (by simp[AA])]
 |copy sz a b=>simp only[a0a];rw[ha a (by simp[AA]),ha b (by simp[AA])]
 |appendIn sz a b=>simp only[a0a];rw[ha a (by simp[AA]),ha b (by simp[AA])]
 |appendN sz by' a b mu=>simp only[a0a];rw[ha a (by simp[AA]),ha b (by simp[AA])]
 |ovl a b=>simp only[a0a];rw[ha a (by simp[AA]),ha b (by simp[AA])]
 |clear sz zs x=>simp only[a0a];rw[ha x (by simp[AA])]
 |isnil n x=>simp only[a0a];rw[ha x (by simp[AA])]
 |idxs l x=>simp only[a0a];rw[ha x (by simp[AA])]
 |mv x=>simp only[a0a];rw[ha x (by simp[AA])]
 |box x=>simp only[a0a];rw[ha x (by simp[AA])]
 |load g x=>simp only[a0a];rw[ha x (by simp[AA])]
 |nilchk x=>simp only[a0a];rw[ha x (by simp[AA])]
 |un op x=>simp only[a0a];rw[ha x (by simp[AA])]
 |conv k x=>simp only[a0a];rw[ha x (by simp[AA])]
 |mkslice sz zs b x=>simp only[a0a];rw[ha x (by simp[AA])]
 |faddr off x=>simp only[a0a];rw[ha x (by simp[AA])]
 |field off g x=>simp only[a0a];rw[ha x (by simp[AA])]
 |extract x i=>simp only[a0a];rw[ha x (by simp[AA])]
 |len x=>simp only[a0a];rw[ha x (by simp[AA])]
 |lenm x=>simp only[a0a];rw[ha x (by simp[AA])]
 |cap x=>simp only[a0a];rw[ha x (by simp[AA])]
end
section
variable {P:Program} {A:Ann} {ro:Option Nat} {E:Ent}
theorem b5p {p:Prop}{q r:Prop}(h:q->r)(k:((AD P A ro E)).req p q):((AD P A ro E)).req p r:=⟨k.1,h k.2⟩
theorem a7v {h:List a0f}{v:AV}{K K':Nat->Nat->(Nat->List DV)->Prop}(hK: ∀a b c,K a b c->K' a b c)(hk:b3s (AD P A ro E) h v K):b3s (AD P A ro E) h v K':=by
 unfold b3s at hk⊢;split
 ·exact hK _ _ _ hk
 ·exact hK _ _ _ hk
 ·simp only at hk;split
  ·rename_i e1;rw[e1] at hk;simp only at hk;split at hk
   ·rename_i hc;rw[if_pos hc];exact b5p (hK _ _ _) hk
   ·exact hk.elim
  ·rename_i e1;rw[e1] at hk;simp only at hk;split at hk
   ·rename_i hc;rw[if_pos hc];exact b5p (hK _ _ _) hk
   ·exact hk.elim
  ·rename_i e1 e2;split at hk
   ·rename_i h3;exact absurd h3 (e1 _ _ _)
   ·rename_i h3;exact absurd h3 (e2 _ _ _)
   ·exact hk
 ·rename_i e1 e2 e3;split at hk
  ·exact absurd rfl (e1 _ _ _)
  ·exact absurd rfl (e2 _ _ _)
  ·exact absurd rfl (e3 _ _ _ _ _)
  ·exact hk
theorem a9c {sz:Nat}{h:List a0f}{v:AV}{K K':Nat->Nat->(Nat->List DV)->Prop}(hK: ∀a b c,K a b c->K' a b c)(hk:a8b (AD P A ro E) sz h v K):a8b (AD P A ro E) sz h v K':=by
 unfold a8b at hk⊢;split
 ·exact hK _ _ _ hk
 ·exact hK _ _ _ hk
 ·rename_i e1 e2;split at hk
  ·exact absurd rfl e1
  ·exact absurd rfl (e2 _ _)
  ·exact a7v hK hk
theorem b8k {h:List a0f}{v:AV}{K K':AV->Prop}(hK: ∀v,K v->K' v)(hk:c7s (AD P A ro E) h v K):c7s (AD P A ro E) h v K':=by
 cases v with
 |vsl l off n=>
  simp only[c7s] at hk⊢;split at hk
  ·split at hk
   ·split at hk
    ·exact hK _ hk
    ·exact hk.elim
   ·exact hk.elim
  ·exact hk.elim
 |msl l sz s n f=>simp only[c7s] at hk⊢;exact a7v (fun _ _ _=>hK _) hk
 |dfs sz n e=>exact hK _ hk
 |_=>exact hK _ hk
theorem c5v {h:List a0f}{vs:List AV}: ∀{K K':List AV->Prop},(∀v,K v->K' v)->c5a (AD P A ro E) h vs K->c5a (AD P A ro E) h vs K':=by
 induction vs with
 |nil=>intro K K' hK hk;exact hK _ hk
 |cons v r ih=>intro K K' hK hk;exact b8k (fun _=>ih fun _=>hK _) hk
theorem c5k {h:List a0f}{vs:List AV}: ∀{K K':List AV->Prop},(∀v,K v->K' v)->b0n (AD P A ro E) h vs K->b0n (AD P A ro E) h vs K':=by
 induction vs with
 |nil=>intro K K' hK hk;exact hK _ hk
 |cons v r ih=>
  intro K K' hK hk;cases v
  case agg cs=>exact c5v (fun _=>ih fun _=>hK _) hk
  all_goals exact b8k (fun _=>ih fun _=>hK _) hk
theorem a4z {h:List a0f}{v:AV}{K K':AV->List a0f->Prop}(hK: ∀v h,K v h->K' v h)(hk:a2m (AD P A ro E) h v K):a2m (AD P A ro E) h v K':=by
 unfold a2m at hk⊢;split
 ·simp only at hk;refine a7v (fun a b c hk=> ?_) hk;split
  ·rename_i e1;rw[e1] at hk;exact hK _ _ hk
  ·rename_i e1;split at hk
   ·rename_i h3;exact absurd h3 (e1 _ _ _)
   ·exact hK _ _ hk
 ·exact hK _ _ hk
 ·rename_i e1 e2;split at hk
  ·exact absurd rfl (e1 _ _ _ _ _)
  ·exact absurd rfl (e2 _ _ _)
  ·exact hK _ _ hk
theorem a3a {vs:List AV}: ∀{h:List a0f} {K K':List AV->List a0f->Prop},(∀v h,K v h->K' v h)->a3t (AD P A ro E) h vs K->a3t (AD P A ro E) h vs K':=by
 induction vs with
 |nil=>intro h K K' hK hk;exact hK _ _ hk
 |cons v r ih=>intro h K K' hK hk;exact a4z (fun _ _=>ih fun _ _=>hK _ _) hk
theorem a6r {h:List a0f}{l:Nat}{K K':AV->List a0f->Prop}(hK: ∀v h,K v h->K' v h)(hk:a2p (AD P A ro E) h l K):a2p (AD P A ro E) h l K':=by
 unfold a2p at hk⊢;split at hk
 ·refine a3a (fun cs h' hk=> ?_) hk;split at hk
  ·exact hK _ _ hk
  ·exact hk.elim
 ·exact hk.elim
theorem a9l {vs:List AV}: ∀{h:List a0f} {K K':List AV->List a0f->Prop},(∀v h,K v h->K' v h)->a1w (AD P A ro E) h vs K->a1w (AD P A ro E) h vs K':=by
 induction vs with
 |nil=>intro h K K' hK hk;exact hK _ _ hk
 |cons v r ih=>
  intro h K K' hK hk;cases v
  case agg cs=>exact a3a (fun _ _=>ih fun _ _=>hK _ _) hk
  case ptr l off=>
   cases off with
   |zero=>exact a6r (fun _ _=>ih fun _ _=>hK _ _) hk
   |succ off=>exact a4z (fun _ _=>ih fun _ _=>hK _ _) hk
  all_goals exact a4z (fun _ _=>ih fun _ _=>hK _ _) hk
theorem b9w {v:AV}{h:List a0f}{K K':List DV->List a0f->Prop}(hK: ∀v h,K v h->K' v h)(hk:b0p (AD P A ro E) h v K):b0p (AD P A ro E) h v K':=by
 unfold b0p at hk⊢;refine a3a (fun cs h' hk=> ?_) hk;split
 ·rename_i e1;rw[e1] at hk;exact hK _ _ hk
 ·rename_i e1;rw[e1] at hk;exact hk
theorem b6b {rs:List (List AV)}: ∀{h:List a0f} {K K':List (List DV)->List a0f->Prop},(∀v h,K v h->K' v h)->a4s (AD P A ro E) h rs K->a4s (AD P A ro E) h rs K':=by
 induction rs with
 |nil=>intro h K K' hK hk;exact hK _ _ hk
 |cons v r ih=>
  intro h K K' hK hk;simp only[a4s] at hk⊢;refine a3a (fun cs h' hk=> ?_) hk;split
  ·rename_i e1;rw[e1] at hk;exact ih (fun _ _=>hK _ _) hk
  ·rename_i e1;rw[e1] at hk;exact hk
theorem b1h {ks:List IntKind}: ∀{cs:List AV} {K K':List KC->Prop},(∀v,K v->K' v)->a4f (AD P A ro E) ks cs K->a4f (AD P A ro E) ks cs K':=by
 induction ks with
 |nil=>
  intro cs K K' hK hk;cases cs with
  |nil=>exact hK _ hk
  |cons c cs=>exact hk.elim
 |cons k ks ih=>
  intro cs K K' hK hk;cases cs with
  |nil=>exact hk.elim
  |cons c cs=>
   cases c with
   |d x=>
    cases x with
    |int k' x=>
     simp only[a4f] at hk⊢;split
     ·rename_i hc;rw[if_pos hc] at hk;exact b5p (ih fun _=>hK _) hk
     ·rename_i hc;rw[if_neg hc] at hk;exact hk
    |_=>exact hk.elim
   |_=>exact hk.elim
theorem a6y {wide:Bool}{ks:List IntKind}{v:AV}{K K':List KC->Prop}(hK: ∀v,K v->K' v)(hk:a2z (AD P A ro E) wide ks v K):a2z (AD P A ro E) wide ks v K':=by
 cases v
 case agg cs=>
  simp only[a2z] at hk⊢;split
  ·rename_i hc;rw[if_pos hc] at hk;exact b1h hK hk
  ·rename_i hc;rw[if_neg hc] at hk;exact hk
 all_goals
  simp only[a2z] at hk⊢;split
  ·rename_i hc;rw[if_pos hc] at hk;exact hk
  ·rename_i hc;rw[if_neg hc] at hk;exact b1h hK hk
theorem a7n {v:AV}{K K':IX->Prop}(hK: ∀n,K n->K' n)(hk:a9r v K):a9r v K':=by
 unfold a9r at hk⊢;split
 ·exact hK _ hk
 ·rename_i e1;split at hk
  ·exact absurd rfl (e1 _)
  ·exact hk
end
section
variable {P:Program} {A:Ann} {ro:Option Nat} {E:Ent}
theorem d3b {op:BinOp}{k:IntKind}{x y:IX}{K:DV->Prop}(hk:d0v (AD P A ro E) op k x y K): ∃v,K v/\ ∀{K2:DV->Prop},K2 v->d0v (AD P A ro E) op k x y K2:=by
 cases op<;>cases x<;>cases y<;>first
  |exact hk.elim
  |exact⟨_,hk,fun h=>h⟩
  |exact⟨_,hk.2,fun h=>⟨hk.1,h⟩⟩
  |exact⟨_,hk.2.2,fun h=>⟨hk.1,hk.2.1,h⟩⟩
theorem a4v {v:AV}{K:IX->Prop}(hk:a9r v K): ∃n,K n/\ ∀{K2:IX->Prop},K2 n->a9r v K2:=by
 unfold a9r at hk;split at hk
 ·exact⟨_,hk,fun h=>h⟩
 ·exact hk.elim
theorem b2i {row:List DV}{off:Nat}{g:Option Nat}{K:AV->Prop}(hk:a8i row off g K): ∃v,K v/\ ∀{K2:AV->Prop},K2 v->a8i row off g K2:=by
 cases g with
 |none=>
  simp only[a8i] at hk⊢;split at hk
  ·rename_i e1;exact⟨_,hk,fun h=>by first|exact h|(rw[e1];exact h)⟩
  ·exact hk.elim
 |some m=>
  simp only[a8i] at hk⊢;split at hk
  ·rename_i e1;exact⟨_,hk,fun h=>by first|exact h|(rw[e1];exact h)⟩
  ·exact hk.elim
theorem a2q {ts:List AV}{x:Option a0h}{d:IX}{K:IX->Prop}(hk:b0u ts x d K): ∃n,K n/\ ∀{K2:IX->Prop},K2 n->b0u ts x d K2:=by
 cases x with
 |none=>exact⟨_,hk,fun h=>h⟩
 |some o=>exact a4v hk
theorem b5m {ts:List AV}{sz:Nat}{x:AV}{lo hi mx:Option a0h}{K:AV->Prop}(hk:a1d (AD P A ro E) ts sz x lo hi mx K): ∃v,K v/\ ∀{K2:AV->Prop},K2 v->a1d (AD P A ro E) ts sz x lo hi mx K2:=by
 cases x with
 |msl l sz' s n f=>
  simp only[a1d] at hk⊢;split at hk
  ·rename_i hc;simp only[if_pos hc];obtain⟨a,hk,ha⟩:=a2q hk;obtain⟨b,hk,hb⟩:=a2q hk;obtain⟨h1,h2,h3,hk⟩:=hk;cases mx with
   |none=>
    cases f with
    |true=>exact⟨_,hk.2,fun h=>ha (hb ⟨h1,h2,h3,hk.1,h⟩)⟩
    |false=>exact⟨_,hk,fun h=>ha (hb ⟨h1,h2,h3,h⟩)⟩
   |some m=>obtain⟨c,hk,hc'⟩:=a4v hk;exact⟨_,hk.2,fun h=>ha (hb ⟨h1,h2,h3,hc' ⟨hk.1,h⟩⟩)⟩
  ·exact hk.elim
 |d y=>
  cases y with
  |sl sz' n e=>
   simp only[a1d] at hk⊢;split at hk
   ·rename_i hc;simp only[if_pos hc];obtain⟨a,hk,ha⟩:=a2q hk;obtain⟨b,hk,hb⟩:=a2q hk;obtain⟨h1,h2,h3,hk⟩:=hk;cases mx with
    |none=>exact⟨_,hk,fun h=>ha (hb ⟨h1,h2,h3,h⟩)⟩
    |some m=>obtain⟨c,hk,hc'⟩:=a4v hk;exact⟨_,hk.2,fun h=>ha (hb ⟨h1,h2,h3,hc' ⟨hk.1,h⟩⟩)⟩
   ·exact hk.elim
  |nil=>
   simp only[a1d] at hk⊢;obtain⟨a,hk,ha⟩:=a2q hk;obtain⟨b,hk,hb⟩:=a2q hk;obtain⟨h1,h2,hk⟩:=hk;cases mx with
   |none=>exact⟨_,hk,fun h=>ha (hb ⟨h1,h2,h⟩)⟩
   |some m=>obtain⟨c,hk,hc'⟩:=a4v hk;exact⟨_,hk.2,fun h=>ha (hb ⟨h1,h2,hc' ⟨hk.1,h⟩⟩)⟩
  |_=>exact hk.elim
 |_=>exact hk.elim
theorem b0x {ts:List AV}{sz sz' n:Nat}{lo hi mx:Option a0h}{K:Prop}(hk:a4h (AD P A ro E) ts sz sz' n lo hi mx K):K/\ ∀{K2:Prop},K2->a4h (AD P A ro E) ts sz sz' n lo hi mx K2:=by
 unfold a4h at hk⊢;split at hk
 ·rename_i hc;simp only[if_pos hc];obtain⟨a,hk,ha⟩:=a2q hk;obtain⟨b,hk,hb⟩:=a2q hk;obtain⟨c,hk,hc⟩:=a2q hk;obtain⟨h1,h2,h3,h4,hk⟩:=hk;exact⟨hk,fun h=>ha (hb (hc ⟨h1,h2,h3,h4,h⟩))⟩
 ·exact hk.elim
theorem b4k {sz:Nat}{x:AV}{i:IX}{K:AV->Prop}(hk:a2l (AD P A ro E) sz x i K): ∃v,K v/\ ∀{K2:AV->Prop},K2 v->a2l (AD P A ro E) sz x i K2:=by
 unfold a2l at hk⊢;split at hk
 ·split at hk
  ·rename_i hc;exact⟨_,hk.2,fun h=>by simp only[if_pos hc];exact⟨hk.1,h⟩⟩
  ·exact hk.elim
 ·split at hk
  ·rename_i hc;exact⟨_,hk.2,fun h=>by simp only[if_pos hc];exact⟨hk.1,h⟩⟩
  ·exact hk.elim
 ·split at hk
  ·rename_i hc;exact⟨_,hk.2,fun h=>by simp only[if_pos hc];exact⟨hk.1,h⟩⟩
  ·exact hk.elim
 ·exact hk.elim
theorem c6f {o:IOp}(hkl:o.kl= .i\/o.kl= .p){ts:List AV}{h:List a0f}{mv:List Nat}{K:AV->List a0f->List Nat->Prop}(hk:a0a (AD P A ro E) o ⟨ts,h,mv⟩ K):
 ∃v,K v h []/\ ∀{h2:List a0f} {mv2:List Nat} {K2:AV->List a0f->List Nat->Prop},K2 v h2 []->a0a (AD P A ro E) o ⟨ts,h2,mv2⟩ K2:=by
 cases o with
 |mv x=>exact⟨_,hk,fun h=>h⟩
 |bslice0 sz=>exact⟨_,hk,fun h=>h⟩
 |pick c a b=>
  simp only[a0a] at hk⊢;unfold e0h at hk;split at hk
  ·rename_i b' e1;simp only[e1,e0h];cases b' with
   |true=>exact⟨_,hk,fun h=>h⟩
   |false=>exact⟨_,hk,fun h=>h⟩
  ·exact hk.elim
 |appendP sz by' x y=>
  simp only[a0a] at hk⊢;split at hk
  ·rename_i e1 e2;exact⟨_,hk,fun h=>by first|exact h|(rw[e1,e2];exact h)⟩
  ·rename_i e1 e2;split at hk
   ·rename_i e3;exact⟨_,hk.2,fun h=>by simp only[if_pos e3];exact⟨hk.1,h⟩⟩
   ·exact hk.elim
  ·exact hk.elim
 |bsliceP sz n zs ps=>
  simp only[a0a] at hk⊢;split at hk
  ·rename_i e1;split at hk
   ·rename_i e2;exact⟨_,hk,fun h=>by first|exact h|(rw[e1];simp only[e2];exact h)⟩
   ·exact hk.elim
  ·exact hk.elim
 |build zs ps=>
  simp only[a0a] at hk⊢;split at hk
  ·rename_i e1;exact⟨_,hk,fun h=>by first|exact h|(rw[e1];exact h)⟩
  ·exact hk.elim
 |nilchk x=>
  simp only[a0a] at hk⊢;split at hk
  ·rename_i e1;exact⟨_,hk,fun h=>by rw[if_pos e1];exact h⟩
  ·exact hk.elim
 |bw op x y=>
  simp only[a0a] at hk⊢;split at hk
  ·unfold bwI at hk⊢;split at hk
   ·exact⟨_,hk.2,fun h=>⟨hk.1,h⟩⟩
   ·split at hk
    ·rename_i e3;exact⟨_,hk,fun h=>by rw[if_pos e3];exact h⟩
    ·exact hk.elim
   ·exact hk.elim
  ·exact hk.elim
 |bin op x y=>
  simp only[a0a] at hk⊢;split at hk
  ·rename_i e1 e2;split at hk
   ·rename_i e3;obtain⟨v,hv,hd⟩:=d3b hk;refine⟨_,hv,fun h=> ?_⟩;simp only[if_pos e3];exact hd h
   ·exact hk.elim
  ·cases op<;>first|exact hk.elim|exact⟨_,hk.2,fun h=>⟨hk.1,h⟩⟩
  ·exact hk.elim
 |binb op x y=>
  simp only[a0a] at hk⊢;split at hk
  ·rename_i e1 e2;split at hk
   ·exact⟨_,hk,fun h=>by first|exact h|(rw[e1,e2];exact h)⟩
   ·exact⟨_,hk,fun h=>by first|exact h|(rw[e1,e2];exact h)⟩
   ·exact hk.elim
  ·exact hk.elim
 |aeq n ks x y=>
  simp only[a0a] at hk⊢;split at hk
  ·split at hk
   ·rename_i e1;exact⟨_,hk,fun h=>by first|exact h|(rw[e1];exact h)⟩
   ·exact hk.elim
  ·exact hk.elim
 |aeqw n ks x y=>
  simp only[a0a] at hk⊢;split at hk
  ·split at hk
   ·rename_i e1;exact⟨_,hk,fun h=>by first|exact h|(rw[e1];exact h)⟩
   ·exact hk.elim
  ·exact hk.elim
 |un op x=>
  simp only[a0a] at hk⊢;split at hk
  ·rename_i e1;exact⟨_,hk,fun h=>by first|exact h|(rw[e1];exact h)⟩
  ·rename_i e1;exact⟨_,hk,fun h=>by first|exact h|(rw[e1];exact h)⟩
  ·rename_i e1;exact⟨_,hk.2,fun h=>by first|exact⟨hk.1,h⟩|(rw[e1];exact⟨hk.1,h⟩)⟩
  ·exact hk.elim
 |conv k x=>
  simp only[a0a] at hk⊢;split at hk
  ·rename_i e1;exact⟨_,hk,fun h=>by first|exact h|(rw[e1];exact h)⟩
  ·exact hk.elim
 |mkfn f l m=>exact⟨_,hk,fun h=>h⟩
 |slice sz x lo hi mx=>simp only[a0a] at hk⊢;obtain⟨v,hk,hv⟩:=b5m hk;exact⟨v,hk,fun h=>hv h⟩
 |slarr n x lo hi=>
  simp only[a0a] at hk⊢;split at hk
  ·obtain⟨a,hk,ha⟩:=a2q hk;obtain⟨b,hk,hb⟩:=a2q hk;obtain⟨h1,h2,h3,hk⟩:=hk;split at hk
   ·rename_i e1;exact⟨_,hk,fun h=>ha (hb ⟨h1,h2,h3,by first|exact h|(rw[e1];exact h)⟩)⟩
   ·rename_i e1;exact⟨_,hk,fun h=>ha (hb ⟨h1,h2,h3,by first|exact h|(rw[e1];exact h)⟩)⟩
  ·exact hk.elim
 |isnil neg x=>
  simp only[a0a] at hk⊢;split at hk
  ·rename_i e1;exact⟨_,hk,fun h=>by first|exact h|(rw[e1];exact h)⟩
  ·rename_i e1;exact⟨_,hk.2,fun h=>by first|exact⟨hk.1,h⟩|(rw[e1];exact⟨hk.1,h⟩)⟩
  ·rename_i e1;exact⟨_,hk.2,fun h=>by first|exact⟨hk.1,h⟩|(rw[e1];exact⟨hk.1,h⟩)⟩
  ·rename_i e1;exact⟨_,hk.2,fun h=>by first|exact⟨hk.1,h⟩|(rw[e1];exact⟨hk.1,h⟩)⟩
  ·rename_i e1;exact⟨_,hk,fun h=>by first|exact h|(rw[e1];exact h)⟩
  ·rename_i e1;exact⟨_,hk,fun h=>by first|exact h|(rw[e1];exact h)⟩
  ·exact hk.elim
 |idxs l x=>
  simp only[a0a] at hk⊢;split at hk
  ·rename_i e1;exact⟨_,hk.2,fun h=>by first|exact⟨hk.1,h⟩|(rw[e1];exact⟨hk.1,h⟩)⟩
  ·exact hk.elim
 |slchk sz x lo hi mx=>
  simp only[a0a] at hk⊢;split at hk
  ·obtain⟨hk,hd⟩:=b0x hk;exact⟨_,hk,fun h=>hd h⟩
  ·obtain⟨hk,hd⟩:=b0x hk;exact⟨_,hk,fun h=>hd h⟩
  ·exact hk.elim
 |faddr off x=>
  simp only[a0a] at hk⊢;split at hk
  ·rename_i e1;exact⟨_,hk,fun h=>by first|exact h|(rw[e1];exact h)⟩
  ·rename_i e1;exact⟨_,hk,fun h=>by first|exact h|(rw[e1];exact h)⟩
  ·rename_i e1;exact⟨_,hk,fun h=>by first|exact h|(rw[e1];exact h)⟩
  ·exact hk.elim
 |field off g x=>
  simp only[a0a] at hk⊢;split at hk
  ·cases g with
   |none=>
    simp only at hk⊢;split at hk
    ·rename_i e2;exact⟨_,hk,fun h=>by first|exact h|(rw[e2];exact h)⟩
    ·exact hk.elim
   |some m=>
    simp only at hk⊢;split at hk
    ·rename_i e2;exact⟨_,hk,fun h=>by first|exact h|(rw[e2];exact h)⟩
    ·exact hk.elim
  ·exact hk.elim
 |iaddr sz x i=>obtain⟨n,hk,hn⟩:=a4v hk;obtain⟨v,hk,hv⟩:=b4k hk;exact⟨v,hk,fun h=>hn (hv h)⟩
 |iaddrA n sz x i=>
  obtain⟨m,hk,hn⟩:=a4v hk;simp only at hk;split at hk
  ·rename_i e1;split at hk
   ·split at hk
    ·rename_i e2;refine⟨_,hk,fun h=> ?_⟩;refine hn ?_;simp only[e1,if_pos e2];exact h
    ·exact hk.elim
   ·refine⟨_,hk.2,fun h=> ?_⟩;refine hn ?_;simp only[e1];exact⟨hk.1,h⟩
  ·exact hk.elim
 |extract x i=>
  simp only[a0a] at hk⊢;split at hk
  ·split at hk
   ·rename_i e2;exact⟨_,hk,fun h=>by first|exact h|(rw[e2];exact h)⟩
   ·exact hk.elim
  ·exact hk.elim
 |len x=>
  simp only[a0a] at hk⊢;split at hk
  ·rename_i e1;exact⟨_,hk,fun h=>by first|exact h|(rw[e1];exact h)⟩
  ·rename_i e1;exact⟨_,hk,fun h=>by first|exact h|(rw[e1];exact h)⟩
  ·rename_i e1;exact⟨_,hk,fun h=>by first|exact h|(rw[e1];exact h)⟩
  ·rename_i e1;exact⟨_,hk,fun h=>by first|exact h|(rw[e1];exact h)⟩
  ·rename_i e1;exact⟨_,hk,fun h=>by first|exact h|(rw[e1];exact h)⟩
  ·exact hk.elim
 |min x y=>
  simp only[a0a] at hk⊢;split at hk
  ·rename_i e1 e2;split at hk
   ·rename_i e3;exact⟨_,hk,fun h=>by simp only[if_pos e3];exact h⟩
   ·exact hk.elim
  ·exact hk.elim
 |max x y=>
  simp only[a0a] at hk⊢;split at hk
  ·rename_i e1 e2;split at hk
   ·rename_i e3;exact⟨_,hk,fun h=>by simp only[if_pos e3];exact h⟩
   ·exact hk.elim
  ·exact hk.elim
 |call f as m=>
  cases m with
  |data=>
   simp only[a0a] at hk⊢;split at hk
   ·split at hk
    ·rename_i e2;obtain⟨r,hp,hk⟩:=hk;exact⟨r,hk,fun h=>by rw[if_pos e2];exact⟨r,hp,h⟩⟩
    ·exact hk.elim
   ·simp at hk
   ·exact hk.elim
  |_=>simp[AL] at hkl
 |_=>simp[AL] at hkl
theorem d0s {h:List a0f}{p:AV}{g:Option Nat}{K:AV->Prop}(hk:a8s (AD P A ro E) h p g K):
 ∃v,K v/\ ∀{h2:List a0f} {K2:AV->Prop},(∀l,tgt p=AE l->a1a h2 l=a1a h l)->K2 v->a8s (AD P A ro E) h2 p g K2:=by
 cases p with
 |ptr l off=>
  simp only[a8s] at hk⊢;split at hk
  ·rename_i e0;cases g with
   |none=>
    simp only at hk⊢;split at hk
    ·rename_i e1;exact⟨_,hk,fun hh h=>by rw[hh l rfl,e0];simp only;first|exact h|(rw[e1];exact h)⟩
    ·exact hk.elim
   |some n=>
    simp only at hk⊢;split at hk
    ·rename_i e1;exact⟨_,hk,fun hh h=>by rw[hh l rfl,e0];simp only;first|exact h|(rw[e1];exact h)⟩
    ·exact hk.elim
  ·exact hk.elim
 |aptr l sz i off=>
  simp only[a8s] at hk⊢;split at hk
  ·rename_i e0;split at hk
   ·rename_i hc;obtain⟨v,hv,hd⟩:=b2i hk.2;exact⟨v,hv,fun hh h=>by rw[hh l rfl,e0];simp only[if_pos hc];exact⟨hk.1,hd h⟩⟩
   ·exact hk.elim
  ·rename_i e0;split at hk
   ·rename_i hc;obtain⟨v,hv,hd⟩:=b2i hk.2;exact⟨v,hv,fun hh h=>by rw[hh l rfl,e0];simp only[if_pos hc];exact⟨hk.1,hd h⟩⟩
   ·exact hk.elim
  ·rename_i e0;split at hk
   ·rename_i hc;cases g with
    |none=>
     simp only at hk;split at hk
     ·rename_i e1;exact⟨_,hk,fun hh h=>by rw[hh l rfl,e0];simp only[if_pos hc,e1];exact h⟩
     ·exact hk.elim
    |some n=>exact hk.elim
   ·exact hk.elim
  ·exact hk.elim
 |dptr row off=>obtain⟨v,hv,hd⟩:=b2i hk;exact⟨v,hv,fun _ h=>hd h⟩
 |_=>exact hk.elim
theorem b2w {ks:List IntKind}: ∀{cs:List AV} {K:List KC->Prop},a4f (AD P A ro E) ks cs K-> ∃v,K v/\ ∀{K2:List KC->Prop},K2 v->a4f (AD P A ro E) ks cs K2:=by
 induction ks with
 |nil=>
  intro cs K hk;cases cs with
  |nil=>exact⟨_,hk,fun h=>h⟩
  |cons c cs=>exact hk.elim
 |cons k ks ih=>
  intro cs K hk;cases cs with
  |nil=>exact hk.elim
  |cons c cs=>
   cases c with
   |d x=>
    cases x with
    |int k' x=>
     simp only[a4f] at hk⊢;split at hk
     ·rename_i hc;simp only[if_pos hc];obtain⟨v,hv,hd⟩:=ih hk.2;exact⟨_,hv,fun h=>⟨hk.1,hd h⟩⟩
     ·exact hk.elim
    |_=>exact hk.elim
   |_=>exact hk.elim
theorem b3l {wide:Bool}{ks:List IntKind}{v:AV}{K:List KC->Prop}(hk:a2z (AD P A ro E) wide ks v K): ∃x,K x/\ ∀{K2:List KC->Prop},K2 x->a2z (AD P A ro E) wide ks v K2:=by
 cases v
 case agg cs=>
  simp only[a2z] at hk⊢;split at hk
  ·rename_i hc;simp only[if_pos hc];exact b2w hk
  ·exact hk.elim
 all_goals
  simp only[a2z] at hk⊢;split at hk
  ·exact hk.elim
  ·rename_i hc;simp only[if_neg hc];exact b2w hk
theorem b7h {o:IOp}(hkl:o.kl= .r){ts:List AV}{h:List a0f}{mv:List Nat}{K:AV->List a0f->List Nat->Prop}(hk:a0a (AD P A ro E) o ⟨ts,h,mv⟩ K):
 ∃v,K v h []/\ ∀{h2:List a0f} {mv2:List Nat} {K2:AV->List a0f->List Nat->Prop},(∀x l,o.at=AE x->tgt (AI ts x)=AE l->a1a h2 l=a1a h l)->K2 v h2 []->a0a (AD P A ro E) o ⟨ts,h2,mv2⟩ K2:=by
 cases o with
 |load g x=>obtain⟨v,hv,hd⟩:=d0s hk;exact⟨v,hv,fun hh h=>hd (fun l=>hh x l rfl) h⟩
 |lookup wide ks ok m k=>
  simp only[a0a] at hk⊢;split at hk
  ·rename_i e1;split at hk
   ·rename_i e0;split at hk
    ·rename_i hc;obtain⟨v,hv,hd⟩:=b3l hk;cases ok with
     |true=>exact⟨_,hv,fun hh h=>by simp only[hh m _ rfl (by rw[e1];rfl),e0,if_pos hc];exact hd h⟩
     |false=>exact⟨_,hv,fun hh h=>by simp only[hh m _ rfl (by rw[e1];rfl),e0,if_pos hc];exact hd h⟩
    ·exact hk.elim
   ·exact hk.elim
  ·exact hk.elim
 |lookupv wide ks ok z m k=>
  simp only[a0a] at hk⊢;split at hk
  ·rename_i e1;split at hk
   ·rename_i e0;split at hk
    ·rename_i hc;obtain⟨kc,hv,hd⟩:=b3l hk;split at hv
     ·rename_i e2;cases ok with
      |true=>exact⟨_,hv,fun hh h=>by simp only[hh m _ rfl (by rw[e1];rfl),e0,if_pos hc];exact hd (by simp only[e2];exact h)⟩
      |false=>exact⟨_,hv,fun hh h=>by simp only[hh m _ rfl (by rw[e1];rfl),e0,if_pos hc];exact hd (by simp only[e2];exact h)⟩
     ·rename_i e2;cases ok with
      |true=>exact⟨_,hv,fun hh h=>by simp only[hh m _ rfl (by rw[e1];rfl),e0,if_pos hc];exact hd (by simp only[e2];exact h)⟩
      |false=>exact⟨_,hv,fun hh h=>by simp only[hh m _ rfl (by rw[e1];rfl),e0,if_pos hc];exact hd (by simp only[e2];exact h)⟩
    ·exact hk.elim
   ·exact hk.elim
  ·exact hk.elim
 |lenm x=>
  simp only[a0a] at hk⊢;split at hk
  ·rename_i e1;split at hk
   ·rename_i e0;exact⟨_,hk,fun hh h=>by simp only[hh x _ rfl (by rw[e1];rfl),e0];exact h⟩
   ·exact hk.elim
  ·exact hk.elim
 |call f as m=>cases m<;>simp[AL] at hkl
 |_=>simp[AL] at hkl
theorem b7p {l:Nat}{o:IOp}{ts:List AV}{h:List a0f}{mv:List Nat}{K:AV->a0f->Prop}(hk:a4a (AD P A ro E) l o ⟨ts,h,mv⟩ K):
 ∃v ob,K v ob/\ ∀{ts2:List AV} {h2:List a0f} {mv2:List Nat} {K2:AV->a0f->Prop},(∀x,x∈o.opds->AI ts2 x=AI ts x)->K2 v ob->a4a (AD P A ro E) l o ⟨ts2,h2,mv2⟩ K2:=by
 cases o with
 |alloc zs=>exact⟨_,_,hk,fun _ h=>h⟩
 |bnew sz=>exact⟨_,_,hk,fun _ h=>h⟩
 |mkmap wide ks=>exact⟨_,_,hk,fun _ h=>h⟩
 |mkmapv wide ks=>exact⟨_,_,hk,fun _ h=>h⟩
 |box x=>
  simp only[a4a] at hk⊢;split at hk
  ·rename_i hc;refine⟨_,_,hk,fun ha h=> ?_⟩;rw[ha x (by simp[AA]),if_pos hc];exact h
  ·exact hk.elim
 |mkslice sz zs b n=>obtain⟨m,hk,hm⟩:=a4v hk;refine⟨_,_,hk.2.2,fun ha h=> ?_⟩;simp only[a4a];rw[ha n (by simp[AA])];exact hm ⟨hk.1,hk.2.1,h⟩
 |_=>exact hk.elim
end
section
variable {P:Program} {A:Ann} {ro:Option Nat} {E:Ent}
theorem a0j.callb_mono {own:Bool}{f:FuncId}{args:List AV}{K K':AV->Prop}(hK: ∀v,K v->K' v)(hk:((AD P A ro E)).callb own f args K):((AD P A ro E)).callb own f args K':=by obtain⟨r,h1,h2⟩:=hk;exact⟨r,h1,hK _ h2⟩
theorem e0c.mono {f:FuncId}{args:List AV}{K K':AV->List a0f->Prop}(hK: ∀v h,K v h->K' v h)(hk:e0c P f args K):e0c P f args K':=by refine⟨hk.1,fun w S vs hS hv=>(hk.2 w S vs hS hv).mono fun e w' h=> ?_⟩;obtain⟨v,x,os,S',ρ',h1,h2,h3⟩:=h;exact⟨v,x,os,S',ρ',h1,hK _ _ h2,h3⟩
theorem a1h.mono {f:FuncId}{args:List AV}{h:List a0f}{K K':List Nat->AV->List a0f->Prop}(hK: ∀p v h,K p v h->K' p v h)(hk:a1h P f args h K):a1h P f args h K':=by refine⟨hk.1,fun w S ρ vs hs hv=>(hk.2 w S ρ vs hs hv).mono fun e w' h=> ?_⟩;obtain⟨v,x,pg,h',S',ρ',h1,h2,h3⟩:=h;exact⟨v,x,pg,h',S',ρ',h1,hK _ _ _ h2,h3⟩
theorem YieldAt.mono' {l:Nat}{args:Array Value}{w:World}{R R':Ending->World->Prop}(h:YieldAt Fence.wide 0 P l args w R)(hR: ∀e w',R e w'->R' e w'):YieldAt Fence.wide 0 P l args w R':=by obtain⟨fn,tmps,assign,body,h1,h2⟩:=h;exact⟨fn,tmps,assign,body,h1,h2.mono hR⟩
theorem b5d.mono {l:Nat}{args:List AV}{h:List a0f}{K K':List Nat->AV->List a0f->Prop}(hK: ∀p v h,K p v h->K' p v h)(hk:b5d P l args h K):b5d P l args h K':=by intro w S ρ vs b C hs hv hρ;refine YieldAt.mono' (hk w S ρ vs b C hs hv hρ) fun e w' h=> ?_;obtain⟨v,x,pg,h',S',ρ',h1,h2,h3⟩:=h;exact⟨v,x,pg,h',S',ρ',h1,hK _ _ _ h2,h3⟩
theorem b4j {h:List a0f}{sz:Nat}{x y:AV}{K K':AV->List a0f->Prop}(hK: ∀v h,K v h->K' v h)(hk:a5z (AD P A ro E) h sz x y K):a5z (AD P A ro E) h sz x y K':=by
 unfold a5z at hk⊢;refine a9c (fun sz2 m e2 hk=> ?_) hk;split at hk
 ·rename_i hc;rw[if_pos hc];split at hk
  ·split at hk
   ·rename_i hc2;simp only[if_pos hc2];split at hk
    ·split at hk
     ·rename_i hc3;simp only[if_pos hc3];exact⟨hk.1,hK _ _ hk.2⟩
     ·exact hk.elim
    ·exact hk
   ·exact hk.elim
  ·split at hk
   ·rename_i hc2;simp only[if_pos hc2];split at hk
    ·split at hk
     ·split at hk
      ·exact hK _ _ hk
      ·exact hk
     ·exact hk
    ·exact hk
   ·exact hk.elim
  ·exact hk
 ·exact hk.elim
theorem b2t {h:List a0f}{sz:Nat}{x y:AV}{K K':AV->List a0f->Prop}(hK: ∀v h,K v h->K' v h)(hk:a4o (AD P A ro E) h sz x y K):a4o (AD P A ro E) h sz x y K':=by
 unfold a4o at hk⊢;refine a9c (fun sz2 m e2 hk=> ?_) hk;split at hk
 ·rename_i hc;rw[if_pos hc];split at hk
  ·split at hk
   ·rename_i hc2;simp only[if_pos hc2];split at hk
    ·split at hk
     ·rename_i hc3;simp only[if_pos hc3];exact⟨hk.1,hK _ _ hk.2⟩
     ·exact hk.elim
    ·exact hk
   ·exact hk.elim
  ·exact hk
 ·exact hk.elim
theorem b6j {ts:List AV}{x:Option a0h}{d:IX}{K K':IX->Prop}(hK: ∀n,K n->K' n)(hk:b0u ts x d K):b0u ts x d K':=by
 cases x with
 |none=>exact hK _ hk
 |some o=>exact a7n hK hk
theorem b9g {h:List a0f}{p v:AV}{sz:Nat}{K K':List a0f->Prop}(hK: ∀h,K h->K' h)(hk:a6o (AD P A ro E) h p v sz K):a6o (AD P A ro E) h p v sz K':=by
 cases p with
 |ptr l off=>
  simp only[a6o] at hk⊢;split at hk
  ·rename_i hc;rw[if_pos hc];split at hk
   ·split at hk
    ·exact hK _ hk
    ·exact hk
   ·exact hk
  ·exact hk.elim
 |aptr l sz' i off=>
  simp only[a6o] at hk⊢;split at hk
  ·rename_i hc;rw[if_pos hc];split at hk
   ·split at hk
    ·rename_i hc2;simp only[if_pos hc2];split at hk
     ·exact⟨hk.1,hK _ hk.2⟩
     ·exact hk
    ·exact hk.elim
   refine b9w (fun new h' hk=> ?_) hk;split at hk
   ·split at hk
    ·rename_i hc';simp only[if_pos hc'];refine⟨hk.1,?_⟩;have hk:=hk.2;split at hk
     ·exact hK _ hk
     ·exact hk
    ·exact hk.elim
   ·exact hk
  ·exact hk.elim
 |_=>exact hk.elim
theorem i0c {h:List a0f}{y:AV}{K K':List AV->Prop}(hK: ∀l,K l->K' l)(hk:h9v h y K):h9v h y K':=by
 unfold h9v at hk⊢;split at hk
 ·exact hK _ hk
 ·split at hk
  ·exact hK _ hk
  ·exact hk
 ·split at hk
  ·split at hk
   ·exact hK _ hk
   ·exact hk
  ·exact hk
 ·exact hk
theorem h5z {h:List a0f}{x y:AV}{K K':AV->List a0f->List Nat->Prop}(hK: ∀v h p,K v h p->K' v h p)(hk:h4i (AD P A ro E) h x y K):h4i (AD P A ro E) h x y K':=by
 unfold h4i at hk⊢;refine i0c (fun new hk=> ?_) hk;split at hk
 ·split at hk
  ·exact⟨hk.1,hk.2.1,hk.2.2.1,hK _ _ _ hk.2.2.2⟩
  ·exact hk
 ·exact hk
theorem a5u {h:List a0f}{sz:Nat}{x y:AV}{mu:Bool}{K K':AV->List a0f->List Nat->Prop}(hK: ∀v h p,K v h p->K' v h p)(hk:a2g (AD P A ro E) h sz x y mu K):a2g (AD P A ro E) h sz x y mu K':=by
 unfold a2g at hk⊢;refine a9c (fun sz2 m e2 hk=> ?_) hk;split at hk
 ·rename_i hc;rw[if_pos hc];split at hk
  ·refine⟨hk.1,?_⟩;have hk:=hk.2;cases mu<;>exact hK _ _ _ hk
  ·split at hk
   ·rename_i hc2;simp only[if_pos hc2];refine⟨hk.1,hk.2.1,?_⟩;have hk:=hk.2.2;cases mu<;>exact hK _ _ _ hk
   ·exact hk.elim
  ·split at hk
   ·rename_i hc2;simp only[if_pos hc2];split at hk
    ·split at hk
     ·rename_i hc3;simp only[if_pos hc3];exact⟨hk.1,hk.2.1,hK _ _ _ hk.2.2⟩
     ·exact hk.elim
    ·exact hk
   ·exact hk.elim
  ·split at hk
   ·rename_i hc2;simp only[if_pos hc2];refine a7v (fun _ n e hk=> ?_) hk;refine⟨hk.1,hk.2.1,?_⟩;have hk:=hk.2.2;cases mu<;>exact hK _ _ _ hk
   ·exact hk.elim
  ·exact hk
 ·exact hk.elim
theorem a4n {o:IOp}{st:St}{K K':AV->List a0f->List Nat->Prop}(hK: ∀v h p,K v h p->K' v h p)(hk:a0a (AD P A ro E) o st K):a0a (AD P A ro E) o st K':=by
 by_cases h1:o.kl= .i\/o.kl= .p
 ·obtain⟨v,hv,hd⟩:=c6f h1 hk;exact hd (hK _ _ _ hv)
 by_cases h2:o.kl= .r
 ·obtain⟨v,hv,hd⟩:=b7h h2 hk;exact hd (fun _ _ _ _=>rfl) (hK _ _ _ hv)
 cases o with
 |newnil sz=>exact hK _ _ _ hk
 |alloc zs=>exact hK _ _ _ hk
 |mkmap wide ks=>exact hK _ _ _ hk
 |mkmapv wide ks=>exact hK _ _ _ hk
 |mapupdv wide ks m k x=>
  simp only[a0a] at hk⊢;split at hk
  ·split at hk
   ·split at hk
    ·rename_i hc;rw[if_pos hc];refine a6y (fun kc hk=> ?_) hk;split at hk
     ·exact hK _ _ _ hk
     ·exact hK _ _ _ hk
    ·exact hk.elim
   ·exact hk
  ·exact hk
 |box x=>
  simp only[a0a] at hk⊢;split at hk
  ·rename_i hc;rw[if_pos hc];exact hK _ _ _ hk
  ·exact hk.elim
 |mkslice sz zs b n=>exact a7n (fun n hk=>⟨hk.1,hk.2.1,hK _ _ _ hk.2.2⟩) hk
 |bslice sz n zs ps mu=>
  simp only[a0a] at hk⊢;split at hk
  ·refine b6b (fun _ _ hk=> ?_) hk;cases mu<;>exact hK _ _ _ hk
  ·exact hk
 |store sz a x=>simp only[a0a] at hk⊢;exact b9g (K:=fun h'=>K .und h' []) (fun _=>hK _ _ _) hk
 |mapupd wide ks m k x=>
  simp only[a0a] at hk⊢;split at hk
  ·split at hk
   ·split at hk
    ·rename_i hc;rw[if_pos hc];exact a6y (fun _=>a7n fun _=>hK _ _ _) hk
    ·exact hk.elim
   ·exact hk
  ·exact hk
 |call f as m=>
  simp only[a0a] at hk⊢;split at hk
  ·cases m with
   |data=>simp[AL] at h1
   |borrow=>
    refine c5k (fun vs hk=> ?_) hk;split at hk
    ·rename_i hc;rw[if_pos hc];exact a0j.callb_mono (fun _=>hK _ _ _) hk
    ·exact hk.elim
   |share=>
    refine a9l (fun vs h hk=> ?_) hk;split at hk
    ·rename_i hc;rw[if_pos hc];exact a0j.callb_mono (fun _=>hK _ _ _) hk
    ·exact hk.elim
   |fresh=>
    refine a9l (fun vs h hk=> ?_) hk;split at hk
    ·rename_i hc;rw[if_pos hc];exact e0c.mono (fun _ _=>hK _ _ _) hk
    ·exact hk.elim
   |raw=>exact a1h.mono (fun _ _ _=>hK _ _ _) hk
  ·split at hk
   ·rename_i hc;rw[if_pos hc];exact b5d.mono (fun _ _ _=>hK _ _ _) hk
   ·exact hk.elim
  ·exact hk
 |cap x=>
  simp only[a0a] at hk⊢;split at hk
  ·split at hk
   ·split at hk
    ·rename_i hc;rw[if_pos hc];split at hk
     ·rename_i hc;rw[if_pos hc];exact hK _ _ _ hk
     ·rename_i hc;rw[if_neg hc];exact hK _ _ _ hk
    ·exact hk.elim
   ·exact hk
  ·exact hk
 |append sz b x y mu=>exact a5u hK hk
 |copy sz x y=>simp only[a0a] at hk⊢;exact b4j (fun _ _=>hK _ _ _) hk
 |appendIn sz x y=>simp only[a0a] at hk⊢;exact b2t (fun _ _=>hK _ _ _) hk
 |appendN sz b x y mu=>
  simp only[a0a] at hk⊢;split at hk
  ·exact hK _ _ _ hk
  ·exact hK _ _ _ hk
  ·exact a5u hK hk
 |bnew sz=>exact hK _ _ _ hk
 |bnewv=>exact hK _ _ _ hk
 |bnewm sz=>exact hK _ _ _ hk
 |appendV b x y=>simp only[a0a] at hk⊢;exact h5z hK hk
 |extractF x i=>
  simp only[a0a] at hk⊢;split at hk
  ·split at hk
   ·exact a3a (fun _ _ hk=>hK _ _ _ hk) hk
   ·exact a6r (fun _ _ hk=>hK _ _ _ hk) hk
   ·exact a4z (fun _ _ hk=>hK _ _ _ hk) hk
   ·exact hk.elim
  ·exact hk.elim
 |mapent wide ks z m k=>
  simp only[a0a] at hk⊢;split at hk
  ·split at hk
   ·split at hk
    ·rename_i hc;rw[if_pos hc];refine a6y (fun kc hk=> ?_) hk;split at hk
     ·split at hk
      ·exact hK _ _ _ hk
      ·exact hk.elim
     ·exact hK _ _ _ hk
    ·exact hk.elim
   ·exact hk
  ·exact hk
 |entst m s x=>
  simp only[a0a] at hk⊢;split at hk
  ·split at hk
   ·exact a7n (fun n hk=>⟨hk.1,hK _ _ _ hk.2⟩) hk
   ·exact hk
  ·exact hk
 |bad=>exact hk.elim
 |clear sz zs x=>
  simp only[a0a] at hk⊢;split at hk
  ·split at hk
   ·rename_i hc;simp only[if_pos hc];split at hk
    ·split at hk
     ·rename_i hc2;simp only[if_pos hc2];exact⟨hk.1,hK _ _ _ hk.2⟩
     ·exact hk.elim
    ·exact hk
   ·exact hk.elim
  ·exact hk
 |slicex sz x lo hi=>
  simp only[a0a] at hk⊢;split at hk
  ·split at hk
   ·rename_i hc;simp only[if_pos hc];split at hk
    ·split at hk
     ·rename_i hc2;simp only[if_pos hc2];exact b6j (fun _=>b6j fun _ hk=>⟨hk.1,hk.2.1,hk.2.2.1,hK _ _ _ hk.2.2.2⟩) hk
     ·exact hk.elim
    ·exact hk
   ·exact hk.elim
  ·exact hk
 |ovl x y=>
  simp only[a0a] at hk⊢;split at hk
  ·split at hk
   ·exact hk.elim
   ·rename_i hc;rw[if_neg hc];refine⟨hk.1,hk.2.1,?_⟩;have hk:=hk.2.2;split at hk
    ·exact⟨hk.1,hK _ _ _ hk.2⟩
    ·exact hk
  ·exact hk
 |load|lookup|lookupv|lenm=>simp[AL] at h2
 |_=>simp[AL] at h1
theorem b7s {sz:Nat}{a x:a0h}{ts:List AV}{h:List a0f}{mv mv2:List Nat}{K:AV->List a0f->List Nat->Prop}{l l' off:Nat}{ob:a0f}(ha:AI ts a= .ptr l' off)(hne:l'≠l)
 (hk:a0a (AD P A ro E) (.store sz a x) ⟨ts,a2x h l ob,mv⟩ K): ∃h',h'.length=h.length/\K .und (a2x h' l ob) []/\ ∀{K2:AV->List a0f->List Nat->Prop},K2 .und h' []->a0a (AD P A ro E) (.store sz a x) ⟨ts,h,mv2⟩ K2:=by
 simp only[a0a,ha,a6o] at hk⊢;split at hk
 ·rename_i hc;simp only[if_pos hc];have e:a1a (a2x h l ob) l'=a1a h l':=by rw[a0i,a0l,a0i,AC (Ne.symm hne)]
  rw[e] at hk;split at hk
  ·split at hk
   ·rename_i cs' e2;refine⟨a2x h l' (.var cs'),by simp[a0l],?_,fun h=>h⟩;rw[show a2x (a2x h l' (.var cs')) l ob=a2x (a2x h l ob) l' (.var cs') by simp only[a0l];exact (AP _ _ hne)];exact hk
   ·exact hk.elim
  ·exact hk.elim
 ·exact hk.elim
end
theorem a1o {i:Nat}: ∀{l:List Nat},b2l i l=AK↔i∈l:=by
 intro l
 induction l with
 |nil=>simp[b2l]
 |cons j l ih=>
  simp only[b2l];split
  ·rename_i h;have:=Nat.eq_of_beq_eq_true h;simp[this]
  ·rename_i h;have:i≠j:=fun e=>h (by subst e;simp);simp[ih,this]
theorem a4r {base l:Nat}: ∀{av:List Nat},a5c base l av=AK-> ∀s,s∈av->l≠base+s:=by
 intro av
 induction av with
 |nil=>simp
 |cons s r ih=>
  intro h;simp only[a5c] at h;split at h
  ·cases h
  ·rename_i hc;intro s' hs';rcases AB.1 hs' with rfl|hs'
   ·intro e;subst e;simp at hc
   ·exact ih h s' hs'
def AgU (o:a1c)(ts ts2:List AV):Prop:= ∀t,t∈o.uses->a1a ts t=a1a ts2 t
theorem AgU.symm {o:a1c}{ts ts2:List AV}(h:AgU o ts ts2):AgU o ts2 ts:=fun t ht=>(h t ht).symm
theorem b3c {x:Nat}: ∀{l:List a0h},a0h.t x∈l->x∈b2h l:=by
 intro l
 induction l with
 |nil=>simp
 |cons y l ih=>
  intro h;cases y with
  |t i=>
   simp only[b2h,AB];rcases AB.1 h with h|h
   ·cases h;exact .inl rfl
   ·exact .inr (ih h)
  |c v=>
   simp only[b2h];rcases AB.1 h with h|h
   ·cases h
   ·exact ih h
theorem AgU.opds {o:a1c}{ts ts2:List AV}(h:AgU o ts ts2): ∀x,x∈o.op.opds->AI ts x=AI ts2 x:=by
 intro x hx;cases x with
 |c v=>rfl
 |t i=>
  simp only[AI];rw[h i];unfold a1c.uses;split
  ·exact b3c hx
  ·exact AJ _ (b3c hx)
theorem AgU.put {o:a1c}{st:St}{dst:Option Nat}{v:AV}(h: ∀t,dst=AE t->t∉o.uses):AgU o st.ts (st.put dst v).ts:=by
 intro t ht;cases dst with
 |none=>rfl
 |some d=>simp only[AG,a0i,a0l];rw[AC];intro e;subst e;exact h _ rfl ht
def gst (o:a1c)(ts:List AV):Option Bool:=
 match o.guard with
 |none=>AE AK
 |some (j,want)=>match a1a ts j with
  |some (.d (.bool b))=>AE (b==want)
  |some .und=>AE AM
  |_=>AR
theorem d6r {st:St}{j:Nat}{b:Bool}(h:a1a st.ts j=AE (.d (.bool b))):st.setb j b=st:=by obtain⟨ts,hh,mv⟩:=st;simp only[St.setb,AG,AH,and_true];rw[a0i] at h;rw[a0l];obtain⟨h1,h2⟩:=AN.1 h;rw[<-h2];exact AQ h1
theorem b3t {o:a1c}{st:St}{off on:St->Prop}:a2t o st off on=(match gst o st.ts with|some AK=>on st|some AM=>off st|none=>False):=by
 cases hg:o.guard with
 |none=>simp only[a2t,gst,hg]
 |some p=>
  obtain⟨j,want⟩:=p;simp only[a2t,gst,hg];cases hb:a1a st.ts j with
  |none=>rfl
  |some v=>
   cases v with
   |d x=>
    cases x with
    |bool b=>cases b<;>cases want<;>simp[d6r hb]
    |_=>rfl
   |_=>rfl
theorem a3d {o:a1c}{ts ts2:List AV}(h:AgU o ts ts2):gst o ts=gst o ts2:=by
 unfold gst;split
 ·rfl
 ·rename_i j want hg;rw[h j (by simp[a1c.uses,hg])]
theorem a8r {base:Nat}{d:a0m}{ts ts2:List AV}(h:AgU d.o ts ts2):c2n base d ts=c2n base d ts2:=by
 unfold c2n;split
 ·rfl
 ·split
  ·rename_i x hx;have:x∈d.o.op.opds:=by cases ho:d.o.op<;>rw[ho] at hx<;>simp[IOp.at] at hx<;>subst hx<;>simp[AA]
   rw[h.opds x this]
  ·rfl
theorem b7k {base:Nat}{d:a0m}{ts:List AV}(h:c2n base d ts=AK){x:a0h}{l:Nat}(hx:d.o.op.at=AE x)(hl:tgt (AI ts x)=AE l): ∀s,s∈d.av->l≠base+s:=by
 unfold c2n at h;split at h
 ·rename_i e;rw[e];simp
 ·rw[hx] at h;simp only at h;split at h
  ·rename_i e;rw[e] at hl;cases hl;exact a4r h
  ·rename_i e;rw[e] at hl;cases hl;split at h
   ·exact a4r h
   ·cases h
  ·rename_i e;rw[e] at hl;cases hl;split at h
   ·exact a4r h
   ·cases h
  ·rename_i e;rw[e] at hl;cases hl
  ·cases h
def eff (st:St)(δ:Option (Nat×a0f))(dst:Option Nat)(v:AV):St:=
 match δ with
 |none=>st.put dst v
 |some (l,ob)=>(st.setH (a2x st.h l ob)).put dst v
theorem a6v {st:St}{dst:Option Nat}{v:AV}:(st.put dst v).h=st.h:=by cases dst<;>rfl
theorem e2q {st:St}{dst:Option Nat}{v:AV}:(st.put dst v).mv=st.mv:=by cases dst<;>rfl
theorem a6f {st:St}{dst:Option Nat}{v:AV}{h:List a0f}:(st.put dst v).setH h=(st.setH h).put dst v:=by cases dst<;>rfl
theorem a4u {st:St}{d d':Option Nat}{v v':AV}(h: ∀t,d=AE t->d'≠AE t):(st.put d v).put d' v'=(st.put d' v').put d v:=by
 cases d with
 |none=>cases d'<;>rfl
 |some t=>
  cases d' with
  |none=>rfl
  |some t'=>simp only[AG,a0l,AH,and_true];exact AP _ _ fun e=>h t rfl (by rw[e])
theorem c9h {st:St}{d:Option Nat}{v v':AV}:(st.put d v).put d v'=st.put d v':=by
 cases d with
 |none=>rfl
 |some t=>simp[AG,a0l]
section
variable {P:Program} {A:Ann} {ro:Option Nat} {E:Ent} {base:Nat}
theorem a4t {F:List a0m}{d:a0m}{st:St}{K:St->Prop}:b1f (AD P A ro E) base F d st K=(match gst d.o st.ts with|some AK=>evD (AD P A ro E) base F d st K|some AM=>K (st.put d.o.dst .und)|none=>False):=by unfold b1f;rw[b3t]
theorem b1d {o:IOp}{st:St}{K:AV->List a0f->List Nat->Prop}:a0a (AD P A ro E) o st K=a0a (AD P A ro E) o ⟨st.ts,st.h,st.mv⟩ K:=rfl
theorem det {F:List a0m}{d:a0m}{st:St}{K:St->Prop}(hkl:d.o.op.kl≠ .m)(hk:b1f (AD P A ro E) base F d st K):
 ∃v δ,(δ=AR\/(d.o.op.kl= .a/\ ∃ob,δ=AE (base+d.slot,ob)))/\(gst d.o st.ts=AE AM->v= .und)/\K (eff st δ d.o.dst v)/\
  ∀{st2:St} {F2:List a0m} {K2:St->Prop},AgU d.o st.ts st2.ts->(d.o.op.kl= .r-> ∀l,(∀s,s∈d.av->l≠base+s)->a1a st2.h l=a1a st.h l)->K2 (eff st2 δ d.o.dst v)->b1f (AD P A ro E) base F2 d st2 K2:=by
 rw[a4t] at hk;split at hk
 ·rename_i hg;unfold evD at hk;split at hk
  ·rename_i ha;obtain⟨v,ob,hk,hd⟩:=b7p hk;refine⟨v,AE (base+d.slot,ob),.inr ⟨ha,ob,rfl⟩,(fun h=>by rw[hg] at h;cases h),hk,fun hag _ h2=> ?_⟩;rw[a4t,<-a3d hag,hg];simp only[evD,ha];exact hd (fun x hx=>(hag.opds x hx).symm) h2
  ·rename_i ha;exact absurd ha hkl
  ·rename_i ha;split at hk
   ·rename_i hav;obtain⟨v,hv,hd⟩:=b7h ha hk;refine⟨v,AR,.inl rfl,(fun h=>by rw[hg] at h;cases h),hv,fun {st2} F2 K2 hag hh h2=> ?_⟩;rw[a4t,<-a3d hag,hg];simp only[evD,ha];rw[<-a8r hag,if_pos hav,b1d,<-a3c (mv:=st.mv) hag.opds];exact hd (fun x l hx hl=>hh ha l (b7k hav hx hl)) h2
   ·exact hk.elim
  ·rename_i h1 h2 h3;have hip:d.o.op.kl= .i\/d.o.op.kl= .p:=by
    cases hx:d.o.op.kl
    ·exact .inl rfl
    ·exact absurd hx h3
    ·exact absurd hx h1
    ·exact .inr rfl
    ·exact absurd hx h2
   obtain⟨v,hv,hd⟩:=c6f hip hk;refine⟨v,AR,.inl rfl,(fun h=>by rw[hg] at h;cases h),hv,fun {st2} F2 K2 hag _ h2'=> ?_⟩;rw[a4t,<-a3d hag,hg];have:evD (AD P A ro E) base F2 d st2 K2=a0a (AD P A ro E) d.o.op st2 fun v _ _=>K2 (st2.put d.o.dst v):=by
    unfold evD;rcases hip with e|e<;>rw[e]
   simp only[];rw[this,b1d,<-a3c (mv:=st.mv) hag.opds];exact hd h2'
 ·rename_i hg;refine⟨.und,AR,.inl rfl,fun _=>rfl,hk,fun hag _ h2=> ?_⟩;rw[a4t,<-a3d hag,hg];exact h2
 ·exact hk.elim
structure May (a b:a0m):Prop where
 d1: ∀t,b.o.dst=AE t->t∉a.o.uses
 d2: ∀t,a.o.dst=AE t->t∉b.o.uses
 d3: ∀t,a.o.dst=AE t->b.o.dst≠AE t
 self: ∀t,a.o.dst=AE t->t∉a.o.uses
 al:b.alone=AM
 am:a.o.op.kl≠ .m
 ra:a.o.op.kl= .r->b.o.op.kl= .a->b.slot∈a.av
 rm:b.o.op.kl= .m->b2l a.i b.bef=AM
 wt:b.o.op.kl= .m->a.watch=AK
 ar:a.o.op.kl= .a->b.o.op.kl= .r->a.slot∈b.av
 amm:a.o.op.kl= .a->b.o.op.kl= .m->a.slot∈b.av
 aa:a.o.op.kl= .a->b.o.op.kl= .a->a.slot≠b.slot
structure e6o (r p:a0m):Prop where
 d1: ∀t,p.o.dst=AE t->t∉r.o.uses
 d2: ∀t,p.o.dst=AE t->r.o.dst≠AE t
 av:r.o.op.kl= .r->p.o.op.kl= .a->p.slot∈r.av
theorem b6t {st:St}{δ:Option (Nat×a0f)}{dst:Option Nat}{v:AV}:(eff st δ dst v).ts=(st.put dst v).ts:=by
 cases δ with
 |none=>rfl
 |some p=>cases dst<;>rfl
theorem AgU.eff {o:a1c}{st:St}{δ:Option (Nat×a0f)}{dst:Option Nat}{v:AV}(h: ∀t,dst=AE t->t∉o.uses):AgU o st.ts (Vf.eff st δ dst v).ts:=by rw[b6t];exact AgU.put h
theorem c9k {st:St}{δ:Option (Nat×a0f)}{dst:Option Nat}{v:AV}:(eff st δ dst v).h=match δ with|none=>st.h|some (l,ob)=>a2x st.h l ob:=by
 cases δ with
 |none=>exact a6v
 |some p=>cases dst<;>rfl
theorem c1z {st:St}{δ δ':Option (Nat×a0f)}{d d':Option Nat}{v v':AV}(h: ∀t,d=AE t->d'≠AE t)(hδ: ∀l ob l' ob',δ=AE (l,ob)->δ'=AE (l',ob')->l≠l'):
 eff (eff st δ d v) δ' d' v'=eff (eff st δ' d' v') δ d v:=by
 cases δ with
 |none=>
  cases δ' with
  |none=>exact a4u h
  |some p'=>obtain⟨l',ob'⟩:=p';simp only[eff,a6v,a6f];exact a4u h
 |some p=>
  obtain⟨l,ob⟩:=p;cases δ' with
  |none=>simp only[eff,a6v,a6f];exact a4u h
  |some p'=>obtain⟨l',ob'⟩:=p';have hne:=hδ l ob l' ob' rfl rfl;simp only[eff,a6v,a6f];rw[a4u h];congr 1;congr 1;simp only[AU,AH,true_and,and_true,a0l];exact AP _ _ hne
theorem d3j {F F':List a0m}{p j:a0m}{st:St}{K:St->Prop}(hm:May p j)(hj:j.o.op.kl≠ .m)(hk:b1f (AD P A ro E) base F p st fun st1=>b1f (AD P A ro E) base F' j st1 K):
 b1f (AD P A ro E) base F j st fun st1=>b1f (AD P A ro E) base F p st1 K:=by
 obtain⟨v,δ,hδ,_,hk,hd⟩:=det hm.am hk;obtain⟨v',δ',hδ',_,hk,hd'⟩:=det hj hk;refine hd' (AgU.eff hm.d2).symm (fun hr l hl=> ?_) (hd (AgU.eff hm.d1) (fun hr l hl=> ?_) ?_)
 ·rw[c9k];rcases hδ with rfl|⟨ha,ob,rfl⟩
  ·rfl
  ·simp only[a0i,a0l];rw[AC];exact fun e=>hl p.slot (hm.ar ha hr) e.symm
 ·rw[c9k];rcases hδ' with rfl|⟨ha,ob,rfl⟩
  ·rfl
  ·simp only[a0i,a0l];rw[AC];exact fun e=>hl j.slot (hm.ra hr ha) e.symm
 ·rw[c1z (δ:=δ') (δ':=δ)]
  ·exact hk
  ·intro t ht e;exact hm.d3 t e ht
  ·rintro l ob l' ob' rfl rfl;rcases hδ with h|⟨ha,ob,h⟩
   ·cases h
   ·rcases hδ' with h'|⟨ha',ob',h'⟩
    ·cases h'
    ·cases h;cases h';have:=hm.aa ha ha';omega
end
section
variable {P:Program} {A:Ann} {ro:Option Nat} {E:Ent} {base:Nat}
theorem a2i {st:St}{k:Prop}{r:a0m}{rs:List a0m}:a1b (AD P A ro E) base st k (r::rs)=(if r.o.op.kl= .r then (match gst r.o st.ts with
 |some AK=>if c2n base r st.ts then a0a (AD P A ro E) r.o.op st fun v _ _=>match r.o.dst with
   |some d=>v=AI st.ts (.t d)/\a1b (AD P A ro E) base st k rs
   |none=>a1b (AD P A ro E) base st k rs
  else False
 |some AM=>a1b (AD P A ro E) base st k rs
 |none=>False) else a1b (AD P A ro E) base st k rs):=by
 conv=>lhs;unfold a1b
 rw[b3t];rfl
theorem a5g {st st2:St}{k k2:Prop}(hkk:k->k2): ∀{rs:List a0m},a1b (AD P A ro E) base st k rs->
 (∀r,r∈rs->r.o.op.kl= .r->AgU r.o st.ts st2.ts/\(∀t,r.o.dst=AE t->a1a st.ts t=a1a st2.ts t)/\ ∀l,(∀s,s∈r.av->l≠base+s)->a1a st2.h l=a1a st.h l)->a1b (AD P A ro E) base st2 k2 rs:=by
 intro rs
 induction rs with
 |nil=>intro hk _;exact hkk hk
 |cons r rs ih=>
  intro hk h;have ih:=fun hk=>ih hk fun r hr=>h r (by simp[hr]);rw[a2i] at hk⊢;by_cases hkl:r.o.op.kl= .r
  ·obtain⟨hag,hdst,hh⟩:=h r (by simp) hkl;rw[if_pos hkl] at hk⊢;rw[<-a3d hag];split at hk
   ·split at hk
    ·rename_i hav;rw[<-a8r hag,if_pos hav,b1d,<-a3c (mv:=st.mv) hag.opds];obtain⟨v,hv,hd⟩:=b7h hkl hk;refine hd (fun x l hx hl=>hh l (b7k hav hx hl)) ?_;cases hr:r.o.dst with
     |none=>rw[hr] at hv;exact ih hv
     |some d=>rw[hr] at hv;refine⟨hv.1.trans ?_,ih hv.2⟩;simp only[AI,hdst d hr]
    ·exact hk.elim
   ·exact ih hk
   ·exact hk
  ·rw[if_neg hkl] at hk⊢;exact ih hk
theorem b5e {F:List a0m}{st:St}{k:Prop}{r:a0m}{rs:List a0m}(hkl:r.o.op.kl= .r)(hk:a1b (AD P A ro E) base st k (r::rs))
 (hg:gst r.o st.ts=AE AM->st.put r.o.dst .und=st):b1f (AD P A ro E) base F r st fun st1=>st1=st/\a1b (AD P A ro E) base st k rs:=by
 rw[a2i,if_pos hkl] at hk;rw[a4t];split at hk
 ·rename_i h
  try rw[h]
  split at hk
  ·rename_i hav;simp only[evD,hkl,if_pos hav];refine a4n (fun v _ _ hk=> ?_) hk;cases hr:r.o.dst with
   |none=>rw[hr] at hk;exact⟨rfl,hk⟩
   |some d=>
    rw[hr] at hk;refine⟨?_,hk.2⟩;rw[hk.1];obtain⟨ts,hh,mv⟩:=st;simp only[AG,AI,AH,and_true];rw[a0l,a0i];cases hd:ts[d]? with
    |none=>simp only[];exact AO (by rw[List.getElem?_eq_none_iff] at hd;exact hd)
    |some v=>simp only[];obtain⟨h1,h2⟩:=AN.1 hd;rw[<-h2];exact AQ h1
  ·exact hk.elim
 ·rename_i h;try rw[h]
  exact⟨hg h,hk⟩
 ·exact hk.elim
theorem a1t {m:Nat}: ∀{pg:List Nat},a3u m pg=AK-> ∀l,l∈pg->Nat.beq l m=AM:=by
 intro pg
 induction pg with
 |nil=>simp
 |cons l pg ih=>
  intro h;simp only[a3u] at h;split at h
  ·cases h
  ·rename_i hb;intro l' hl';rcases AB.1 hl' with rfl|hl'
   ·exact Bool.eq_false_iff.2 hb
   ·exact ih h l' hl'
mutual
theorem a9q {l:Nat}{pg:List Nat}(hl:l∈pg): ∀(v:AV),a1u pg v=AK->v.forget l AM=v
 | .agg cs,h=>by simp only[a1u] at h;simp only[AF];rw[a2k hl cs h]
 | .tuple cs,h=>by simp only[a1u] at h;simp only[AF];rw[a2k hl cs h]
 | .fn f us cs,h=>by
   simp only[a1u] at h;split at h
   ·rename_i h1;simp only[AF];rw[a2k hl us h1,a2k hl cs h]
   ·cases h
 | .ptr m _,h=>by simp only[a1u] at h;simp[AF,a1t h l hl]
 | .aptr m _ _ _,h=>by simp only[a1u] at h;simp[AF,a1t h l hl]
 | .msl m _ _ _ _,h=>by simp only[a1u] at h;simp[AF,a1t h l hl]
 | .vsl m _ _,h=>by simp only[a1u] at h;simp[AF,a1t h l hl]
 | .map m,h=>by simp only[a1u] at h;simp[AF,a1t h l hl]
 | .yl m,h=>by simp only[a1u] at h;simp[AF,a1t h l hl]
 | .d _,_=>rfl
 | .any,_=>rfl
 | .und,_=>rfl
 | .dptr _ _,_=>rfl
 | .dfs _ _ _,_=>rfl
 | .ge _,_=>rfl
theorem a2k {l:Nat}{pg:List Nat}(hl:l∈pg): ∀(vs:List AV),a6n pg vs=AK->AT l AM vs=vs
 |[],_=>rfl
 |v::r,h=>by
  simp only[a6n] at h;split at h
  ·rename_i h1;simp only[AT];rw[a9q hl v h1,a2k hl r h]
  ·cases h
end
theorem a8c {v:AV}: ∀{pg pg':List Nat},(∀l,l∈pg'->l∈pg)->a1u pg v=AK->a3g pg' v=v:=by
 intro pg pg'
 induction pg' with
 |nil=>intro _ _;rfl
 |cons l pg' ih=>intro hs h;simp only[a3g];rw[a9q (hs l (by simp)) v h];exact ih (fun m hm=>hs m (by simp[hm])) h
theorem b3v {pg:List Nat}{ts:List AV}: ∀{l:List Nat},a4g pg ts l=AK-> ∀t,t∈l-> ∀v,a1a ts t=AE v->a1u pg v=AK:=by
 intro l
 induction l with
 |nil=>simp
 |cons t l ih=>
  intro h;simp only[a4g] at h;intro t' ht' v hv;cases hv0:a1a ts t with
  |none=>
   simp only[hv0,if_true] at h;rcases AB.1 ht' with rfl|ht'
   ·rw[hv0] at hv;cases hv
   ·exact ih h t' ht' v hv
  |some u=>
   simp only[hv0] at h;split at h
   ·rename_i h1;rcases AB.1 ht' with rfl|ht'
    ·rw[hv0] at hv;cases hv;exact h1
    ·exact ih h t' ht' v hv
   ·cases h
theorem a9j {pg:List Nat}{ts ts2:List AV}: ∀{l:List Nat},(∀t,t∈l->a1a ts t=a1a ts2 t)->a4g pg ts l=a4g pg ts2 l:=by
 intro l
 induction l with
 |nil=>intro _;rfl
 |cons t l ih=>intro h;simp only[a4g];rw[h t (by simp),ih fun t ht=>h t (by simp[ht])]
theorem c8v {st:St}{pg:List Nat}{t:Nat}:a1a (st.purge pg).ts t=(a1a st.ts t).map (a3g pg):=by rw[a0i,a0i,(a1r pg st).1,List.getElem?_map]
theorem c7l {pg:List Nat}{st:St}{dst:Option Nat}{v:AV}(hv:a1u pg v=AK):(st.put dst v).purge pg=(st.purge pg).put dst v:=by
 have h1:=a1r pg (st.put dst v);have h2:=a1r pg st;have hm: ∀(pg:List Nat) (st1 st2:St),st1.mv=st2.mv->(st1.purge pg).mv=(st2.purge pg).mv:=by
  intro pg
  induction pg with
  |nil=>intro st1 st2 h;exact h
  |cons l pg ih=>intro st1 st2 h;exact ih _ _ (by simp[h])
 have h3:=hm pg (st.put dst v) st e2q;cases hst:(st.put dst v).purge pg with
 |mk ts h mv=>
  rw[hst] at h1 h3;cases hst2:st.purge pg with
  |mk ts2 hh2 mv2=>
   rw[hst2] at h2 h3;simp only at h1 h2 h3;cases dst with
   |none=>simp only[AG] at h1⊢;rw[h1.1,h1.2,h2.1,h2.2,h3]
   |some d=>simp only[AG,a0l] at h1⊢;rw[h1.1,h1.2,h2.1,h2.2,h3,List.map_set,a8c (fun _ h=>h) hv]
theorem a7m {d r:a0m}{F:List a0m}(h:r∈a4b d F):r∈F:=by
 induction F with
 |nil=>simp[a4b] at h
 |cons x F ih=>
  simp only[a4b] at h;split at h
  ·exact AJ _ (ih h)
  ·rcases AB.1 h with rfl|h
   ·exact List.mem_cons_self
   ·exact AJ _ (ih h)
theorem e7w {o:IOp}(h:o.kl= .m){x:a0h}(hx:o.at=AE x): ∃sz y,o= .store sz x y:=by
 cases o with
 |store sz a y=>simp[IOp.at] at hx;subst hx;exact⟨sz,y,rfl⟩
 |load|lookup|lookupv|lenm=>simp[AL] at h
 |_=>simp[IOp.at] at hx
theorem a8g {st:St}{dst:Option Nat}{v:AV}{t:Nat}(h:dst≠AE t):a1a (st.put dst v).ts t=a1a st.ts t:=by
 cases dst with
 |none=>rfl
 |some d=>simp only[AG,a0i,a0l];rw[AC];intro e;subst e;exact h rfl
theorem c7d {pg:List Nat}{ts:List AV}: ∀{F:List a0m},a7a pg ts F=AK-> ∀r,r∈F->a4g pg ts r.o.uses=AK/\a4g pg ts (e4t r.o)=AK:=by
 intro F
 induction F with
 |nil=>simp
 |cons x F ih=>
  intro h;simp only[a7a] at h;split at h
  ·rename_i h1;split at h
   ·rename_i h2;intro r hr;rcases AB.1 hr with rfl|hr
    ·exact⟨h1,h2⟩
    ·exact ih h r hr
   ·cases h
  ·cases h
theorem b9f {pg:List Nat}{ts ts2:List AV}: ∀{F:List a0m},(∀r,r∈F->AgU r.o ts ts2/\ ∀t,r.o.dst=AE t->a1a ts t=a1a ts2 t)->a7a pg ts F=a7a pg ts2 F:=by
 intro F
 induction F with
 |nil=>intro _;rfl
 |cons x F ih=>
  intro h;obtain⟨h1,h2⟩:=h x (by simp);simp only[a7a];rw[a9j h1,ih fun r hr=>h r (by simp[hr])];congr 2;unfold e4t;cases hd:x.o.dst with
  |none=>rfl
  |some d=>
   have:a4g pg ts [d]=a4g pg ts2 [d]:=a9j fun t ht=>by simp at ht;subst ht;exact h2 t hd
   simp only[this]
theorem b4u {st:St}{d:Nat}{v u:AV}(h:a1a (st.put (AE d) v).ts d=AE u):u=v:=by
 simp only[AG,a0i,a0l,List.getElem?_set] at h;split at h
 ·split at h
  ·simpa using h.symm
  ·cases h
 ·rename_i h1;exact absurd trivial h1
theorem e4b {F:List a0m}{p j:a0m}{st:St}{K:St->Prop}(hm:May p j)(hj:j.o.op.kl= .m)(hF: ∀r,r∈F->e6o r p)
 (hk:b1f (AD P A ro E) base F p st fun st1=>b1f (AD P A ro E) base (a8e p F) j st1 K):b1f (AD P A ro E) base F j st fun st1=>b1f (AD P A ro E) base F p st1 K:=by
 obtain⟨v,δ,hδ,hund,hk,hd⟩:=det hm.am hk;have hag:AgU j.o st.ts (eff st δ p.o.dst v).ts:=AgU.eff hm.d2;have eF:a8e p F=p::F:=by unfold a8e;rw[if_pos (hm.wt hj)]
 have eA:a4b j (a8e p F)=p::a4b j F:=by rw[eF,a4b,if_neg (by rw[hm.rm hj];simp)]
 rw[a4t] at hk⊢;rw[<-a3d hag] at hk;split at hk
 ·rename_i hg;simp only[evD,hj] at hk⊢;rw[<-a8r hag] at hk;rw[eA] at hk;split at hk
  ·rename_i hav;rw[if_pos hav];rcases hδ with rfl|⟨ha,ob,rfl⟩
   ·
    rw[b1d,<-a3c (mv:=st.mv) hag.opds,c9k] at hk;refine a4n (fun vj h' pg hk=> ?_) hk;have fin: ∀(st2:St),AgU p.o st.ts st2.ts->a1b (AD P A ro E) base (st2.put p.o.dst v) (K (st2.put p.o.dst v)) (p::a4b j F)->
     a1b (AD P A ro E) base st2 (b1f (AD P A ro E) base F p st2 K) (a4b j F):=by
     intro st2 ag2 hk;have tr: ∀r,r∈F->r.o.op.kl= .r->AgU r.o (st2.put p.o.dst v).ts st2.ts/\(∀t,r.o.dst=AE t->a1a (st2.put p.o.dst v).ts t=a1a st2.ts t)/\
      ∀l,(∀s,s∈r.av->l≠base+s)->a1a st2.h l=a1a (st2.put p.o.dst v).h l:=
      fun r hr _=>⟨(AgU.put (hF r hr).d1).symm,fun t ht=>a8g fun e=>(hF r hr).d2 t e ht,fun l _=>by rw[a6v]⟩
     by_cases hp:p.o.op.kl= .r
     ·have hgp:gst p.o (st2.put p.o.dst v).ts=gst p.o st.ts:=by rw[<-a3d (AgU.put (st:=st2) (v:=v) hm.self),a3d ag2]
      have hk:=b5e (F:=F) hp hk (fun hg'=>by
       rw[hgp] at hg';rw[hund hg',c9h])
      obtain⟨v2,δ2,hδ2,_,⟨h1,h2⟩,hd2⟩:=det hm.am hk;rcases hδ2 with rfl|⟨ha,_⟩
      ·refine a5g (fun hk=> ?_) h2 fun r hr=>tr r (a7m hr);refine hd2 (AgU.put hm.self).symm (fun _ l _=>by rw[a6v]) ?_;have:eff st2 AR p.o.dst v2=st2.put p.o.dst v:=by rw[<-h1];simp only[eff,c9h]
       rw[this];exact hk
      ·rw[hp] at ha;cases ha
     ·rw[a2i,if_neg hp] at hk;refine a5g (fun hk=> ?_) hk fun r hr=>tr r (a7m hr);exact hd ag2 (fun h=>absurd h hp) hk
    cases pg with
    |cons x pg=>
     simp only at hk⊢;rw[hm.al] at hk⊢;simp only[Bool.false_eq_true,if_false] at hk⊢;split at hk
     ·rename_i hlt;rw[if_pos hlt];split at hk
      ·rename_i hcalm;obtain⟨hc1,hc2⟩:=c7d hcalm p (by simp);have hcr:a7a (x::pg) st.ts (a4b j F)=AK:=by
        rw[b9f (ts2:=(eff st AR p.o.dst v).ts) fun r hr=> ?_]
        ·have h9:=hcalm;simp only[a7a,hc1,hc2,if_true] at h9;exact h9
        ·have hr:=hF r (a7m hr);rw[b6t];exact⟨AgU.put hr.d1,fun t ht=>(a8g fun e=>hr.d2 t e ht).symm⟩
       rw[if_pos hcr];have hag2:AgU p.o st.ts (((st.setH h').purge (x::pg)).put j.o.dst vj).ts:=by
        intro t ht;rw[a8g (fun e=>hm.d1 t e ht),c8v];show a1a st.ts t=(a1a st.ts t).map _;cases hv:a1a st.ts t with
        |none=>rfl
        |some u=>
         have hcl:a1u (x::pg) u=AK:=by refine b3v hc1 t ht u ?_;rw[b6t,a8g fun e=>hm.self t e ht];exact hv
         simp only[Option.map_some];rw[a8c (fun _ h=>h) hcl]
       have hst:((((eff st AR p.o.dst v).setH h').purge (x::pg)).put j.o.dst vj)=(((st.setH h').purge (x::pg)).put j.o.dst vj).put p.o.dst v:=by
        simp only[eff,a6f];cases hpd:p.o.dst with
        |none=>rfl
        |some d=>
         by_cases hin: ∃u,a1a (st.put (AE d) v).ts d=AE u
         ·obtain⟨u,hu⟩:=hin;have hcv:a1u (x::pg) v=AK:=by have:=b4u hu;subst this;refine b3v hc2 d (by simp[e4t,hpd]) u ?_;rw[b6t,hpd];exact hu
          rw[c7l hcv];exact a4u fun t ht=>hm.d3 t (by rw[hpd];exact ht)
         ·have hnone:st.ts.length<=d:=by refine Nat.le_of_not_lt fun hlt=>hin ⟨v,?_⟩;simp[AG,a0i,a0l,hlt]
          have e1: ∀(s2:St),s2.ts.length<=d->s2.put (AE d) v=s2:=by intro s2 h;cases s2;simp only[AG,a0l,AH,and_true];exact AO h
          rw[e1 (st.setH h') hnone,e1];have hl:((st.setH h').purge (x::pg)).ts.length=st.ts.length:=by rw[(a1r _ _).1];simp[AU]
          cases j.o.dst with
          |none=>show ((st.setH h').purge (x::pg)).ts.length<=d;omega
          |some dj=>simp only[AG,a0l,List.length_set];omega
       rw[hst] at hk;exact fin _ hag2 hk
      ·exact hk.elim
     ·exact hk.elim
    |nil=>
     simp only at hk⊢;have e1:((eff st AR p.o.dst v).setH h').put j.o.dst vj=((st.setH h').put j.o.dst vj).put p.o.dst v:=by simp only[eff,a6f];exact a4u hm.d3
     rw[e1] at hk;exact fin _ (AgU.put hm.d1:AgU p.o (st.setH h').ts _) hk
   ·
    have hnr:p.o.op.kl≠ .r:=by rw[ha];simp
    have hslot:=hm.amm ha hj;have hx: ∃sz x y l' off,j.o.op= .store sz x y/\AI st.ts x= .ptr l' off/\l'≠base+p.slot:=by
     have hav':=hav;unfold c2n at hav';split at hav'
     ·rename_i e;rw[e] at hslot;simp at hslot
     ·split at hav'
      ·rename_i x hx;obtain⟨sz,y,hst⟩:=e7w hj hx;split at hav'
       ·rename_i l' off e3;exact⟨sz,x,y,l',off,hst,e3,a4r hav' _ hslot⟩
       ·rw[hj] at hav';simp at hav'
       ·rw[hj] at hav';simp at hav'
       ·rw[hj] at hav';simp at hav'
       ·cases hav'
      ·cases hav'
    obtain⟨sz,x,y,l',off,hst,hx,hne⟩:=hx;rw[b1d,<-a3c (mv:=st.mv) hag.opds,c9k,hst] at hk;obtain⟨h',hlen,hk,hd3⟩:=b7s hx hne hk;rw[hst];refine hd3 ?_;simp only at hk⊢;rw[a2i,if_neg hnr] at hk;have e1:((eff st (AE (base+p.slot,ob)) p.o.dst v).setH (a2x h' (base+p.slot) ob)).put j.o.dst .und=eff ((st.setH h').put j.o.dst .und) (AE (base+p.slot,ob)) p.o.dst v:=by simp only[eff,a6f,a6v];exact a4u hm.d3
    rw[e1] at hk;generalize hst2:(st.setH h').put j.o.dst .und=st2 at hk⊢;have ag2:AgU p.o st.ts st2.ts:=by subst hst2;exact (AgU.put hm.d1:AgU p.o (st.setH h').ts _)
    refine a5g (fun hk=>hd ag2 (fun h=>absurd h hnr) hk) hk fun r hr hrk=> ?_;have hr:=hF r (a7m hr);refine⟨(AgU.eff hr.d1).symm,fun t ht=> ?_,fun l hl=> ?_⟩
    ·rw[b6t];exact a8g fun e=>hr.d2 t e ht
    ·rw[c9k];simp only[a0i,a0l];rw[AC];exact fun e=>hl p.slot (hr.av hrk ha) e.symm
  ·exact hk.elim
 ·rename_i hg;refine hd (AgU.put hm.d1) (fun _ l _=>by rw[a6v]) ?_;have:eff (st.put j.o.dst .und) δ p.o.dst v=(eff st δ p.o.dst v).put j.o.dst .und:=by have:=c1z (st:=st) (δ:=AR) (δ':=δ) (d:=j.o.dst) (d':=p.o.dst) (v:= .und) (v':=v) (fun t ht e=>hm.d3 t e ht) (by rintro l ob l' ob' h _;cases h);exact this
  rw[this];exact hk
 ·exact hk
end
end Go.Vf
