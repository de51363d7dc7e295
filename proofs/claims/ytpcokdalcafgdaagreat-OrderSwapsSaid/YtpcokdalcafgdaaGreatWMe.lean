/- Parts of the proof: Me. Conditions: none. -/
import Derived.Test.YtpcokdalcafgdaaGreatWMd
namespace Go.Vf
open Go
section
variable {P:Program} {A:Ann} {ro:Option Nat} {E:Ent}
theorem b1o {ts ts2:List AV}: ∀{l:List a0o},(∀x,x∈l->opd ts x=opd ts2 x)->b6q ts l=b6q ts2 l:=by
 intro l
 induction l with
 |nil=>intro _;rfl
 |cons x l ih=>intro h;simp only[b6q];rw[h x (by simp),ih fun y hy=>h y (by simp[hy])]
theorem c4v {ts ts2:List AV}: ∀{l:List (Nat×Nat×a0o)} {cs:List AV},(∀x,x∈l.map (·.2.2)->opd ts x=opd ts2 x)->b6v ts cs l=b6v ts2 cs l:=by
 intro l
 induction l with
 |nil=>intro cs _;rfl
 |cons x l ih=>
  intro cs h
  obtain⟨off,sz,x⟩:=x
  simp only[b6v]
  rw[h x (by simp)]
  congr 1
  split
  ·exact ih fun y hy=>h y (by simp only[List.map_cons,List.mem_cons];exact .inr hy)
  ·rfl
theorem c6a {ts ts2:List AV}{sz:Nat}: ∀{l:List (Nat×a0o)} {cs:List (List AV)},(∀x,x∈l.map (·.2)->opd ts x=opd ts2 x)->b5x ts sz cs l=b5x ts2 sz cs l:=by
 intro l
 induction l with
 |nil=>intro cs _;rfl
 |cons x l ih=>
  intro cs h
  obtain⟨off,x⟩:=x
  simp only[b5x]
  rw[h x (by simp)]
  congr 1
  split
  ·exact ih fun y hy=>h y (by simp only[List.map_cons,List.mem_cons];exact .inr hy)
  ·rfl
theorem a1z {ts ts2:List AV}{x:Option a0o}{d:IX}{K:IX->Prop}(h: ∀y,y∈b3n x->opd ts y=opd ts2 y):b5z ts x d K=b5z ts2 x d K:=by
 cases x with
 |none=>rfl
 |some o=>simp only[b5z];rw[h o (by simp[b3n])]
theorem a4p {S:Sig}{o:IOp}{ts ts2:List AV}{h:List a0i}{mv mv2:List Nat}{K:AV->List a0i->List Nat->Prop}(ha: ∀x,x∈o.opds->opd ts x=opd ts2 x):
 a0c S o ⟨ts,h,mv⟩ K=a0c S o ⟨ts2,h,mv2⟩ K:=by
 cases o with
 |newnil|alloc|mkmap|bnew|bad=>rfl
 |build zs ps=>simp only[a0c];rw[c4v ha]
 |bslice sz n zs ps mu=>simp only[a0c];rw[c6a ha]
 |mkfn f l m=>
  simp only[a0c]
  rw[b1o fun x hx=>ha x (by simp[IOp.opds,hx]),b1o (l:=m) fun x hx=>ha x (by simp[IOp.opds,hx])]
 |call f as m=>
  simp only[a0c]
  rw[b1o fun x hx=>ha x (by simp[IOp.opds,hx]),ha f (by simp[IOp.opds])]
 |slice sz x lo hi mx=>
  simp only[a0c]
  rw[ha x (by simp[IOp.opds])]
  have h1: ∀y,y∈b3n lo->opd ts y=opd ts2 y:=fun y hy=>ha y (by simp[IOp.opds,hy])
  have h2: ∀y,y∈b3n hi->opd ts y=opd ts2 y:=fun y hy=>ha y (by simp[IOp.opds,hy])
  have h3: ∀y,y∈b3n mx->opd ts y=opd ts2 y:=fun y hy=>ha y (by simp[IOp.opds,hy])
  unfold a1w
  split
  ·congr 1
   rw[a1z h1]
   congr 1;funext lo'
   rw[a1z h2]
   congr 1;funext hi'
   congr 1;congr 1;congr 1
   cases mx with
   |none=>rfl
   |some m=>simp only[];rw[h3 m (by simp[b3n])]
  ·congr 1
   rw[a1z h1]
   congr 1;funext lo'
   rw[a1z h2]
   congr 1;funext hi'
   congr 1;congr 1;congr 1
   cases mx with
   |none=>rfl
   |some m=>simp only[];rw[h3 m (by simp[b3n])]
  ·rw[a1z h1]
   congr 1;funext lo'
   rw[a1z h2]
   congr 1;funext hi'
   congr 1;congr 1
   cases mx with
   |none=>rfl
   |some m=>simp only[];rw[h3 m (by simp[b3n])]
  ·rfl
 |slicex sz x lo hi=>
  simp only[a0c]
  rw[ha x (by simp[IOp.opds])]
  have h1: ∀y,y∈b3n lo->opd ts y=opd ts2 y:=fun y hy=>ha y (by simp[IOp.opds,hy])
  have h2: ∀y,y∈b3n hi->opd ts y=opd ts2 y:=fun y hy=>ha y (by simp[IOp.opds,hy])
  simp only[a1z h1,a1z h2]
 |slarr n x lo hi=>
  simp only[a0c]
  rw[ha x (by simp[IOp.opds])]
  have h1: ∀y,y∈b3n lo->opd ts y=opd ts2 y:=fun y hy=>ha y (by simp[IOp.opds,hy])
  have h2: ∀y,y∈b3n hi->opd ts y=opd ts2 y:=fun y hy=>ha y (by simp[IOp.opds,hy])
  simp only[a1z h1,a1z h2]
 |slchk sz x lo hi mx=>
  simp only[a0c]
  rw[ha x (by simp[IOp.opds])]
  have h1: ∀y,y∈b3n lo->opd ts y=opd ts2 y:=fun y hy=>ha y (by simp[IOp.opds,hy])
  have h2: ∀y,y∈b3n hi->opd ts y=opd ts2 y:=fun y hy=>ha y (by simp[IOp.opds,hy])
  have h3: ∀y,y∈b3n mx->opd ts y=opd ts2 y:=fun y hy=>ha y (by simp[IOp.opds,hy])
  simp only[a6g,a1z h1,a1z h2,a1z h3]
 |pick c a b=>simp only[a0c];rw[ha c (by simp[IOp.opds]),ha a (by simp[IOp.opds]),ha b (by simp[IOp.opds])]
 |store sz a b=>simp only[a0c];rw[ha a (by simp[IOp.opds]),ha b (by simp[IOp.opds])]
 |bin op a b=>simp only[a0c];rw[ha a (by simp[IOp.opds]),ha b (by simp[IOp.opds])]
 |binb op a b=>simp only[a0c];rw[ha a (by simp[IOp.opds]),ha b (by simp[IOp.opds])]
 |aeq n ks a b=>simp only[a0c];rw[ha a (by simp[IOp.opds]),ha b (by simp[IOp.opds])]
 |iaddr sz a b=>simp only[a0c];rw[ha a (by simp[IOp.opds]),ha b (by simp[IOp.opds])]
 |iaddrA n sz a b=>simp only[a0c];rw[ha a (by simp[IOp.opds]),ha b (by simp[IOp.opds])]
 |lookup wd ks ok a b=>simp only[a0c];rw[ha a (by simp[IOp.opds]),ha b (by simp[IOp.opds])]
 |mapupd wd ks a b c=>simp only[a0c];rw[ha a (by simp[IOp.opds]),ha b (by simp[IOp.opds]),ha c (by simp[IOp.opds])]
 |min a b=>simp only[a0c];rw[ha a (by simp[IOp.opds]),ha b (by simp[IOp.opds])]
 |append sz by' a b mu=>simp only[a0c];rw[ha a (by simp[IOp.opds]),ha b (by simp[IOp.opds])]
 |copy sz a b=>simp only[a0c];rw[ha a (by simp[IOp.opds]),ha b (by simp[IOp.opds])]
 |appendIn sz a b=>simp only[a0c];rw[ha a (by simp[IOp.opds]),ha b (by simp[IOp.opds])]
 |appendN sz by' a b mu=>simp only[a0c];rw[ha a (by simp[IOp.opds]),ha b (by simp[IOp.opds])]
 |ovl a b=>simp only[a0c];rw[ha a (by simp[IOp.opds]),ha b (by simp[IOp.opds])]
 |clear sz zs x=>simp only[a0c];rw[ha x (by simp[IOp.opds])]
 |isnil n x=>simp only[a0c];rw[ha x (by simp[IOp.opds])]
 |idxs l x=>simp only[a0c];rw[ha x (by simp[IOp.opds])]
 |mv x=>simp only[a0c];rw[ha x (by simp[IOp.opds])]
 |box x=>simp only[a0c];rw[ha x (by simp[IOp.opds])]
 |load g x=>simp only[a0c];rw[ha x (by simp[IOp.opds])]
 |nilchk x=>simp only[a0c];rw[ha x (by simp[IOp.opds])]
 |un op x=>simp only[a0c];rw[ha x (by simp[IOp.opds])]
 |conv k x=>simp only[a0c];rw[ha x (by simp[IOp.opds])]
 |mkslice sz zs b x=>simp only[a0c];rw[ha x (by simp[IOp.opds])]
 |faddr off x=>simp only[a0c];rw[ha x (by simp[IOp.opds])]
 |field off g x=>simp only[a0c];rw[ha x (by simp[IOp.opds])]
 |extract x i=>simp only[a0c];rw[ha x (by simp[IOp.opds])]
 |len x=>simp only[a0c];rw[ha x (by simp[IOp.opds])]
 |lenm x=>simp only[a0c];rw[ha x (by simp[IOp.opds])]
 |cap x=>simp only[a0c];rw[ha x (by simp[IOp.opds])]
end
section
variable {P:Program} {A:Ann} {ro:Option Nat} {E:Ent}
theorem b9z {p:Prop}{q r:Prop}(h:q->r)(k:((std P A ro E)).req p q):((std P A ro E)).req p r:=⟨k.1,h k.2⟩
theorem b1h {h:List a0i}{v:AV}{K K':Nat->Nat->(Nat->List DV)->Prop}(hK: ∀a b c,K a b c->K' a b c)(hk:b8o (std P A ro E) h v K):b8o (std P A ro E) h v K':=by
 unfold b8o at hk⊢
 split
 ·exact hK _ _ _ hk
 ·exact hK _ _ _ hk
 ·simp only at hk
  split
  ·rename_i e1
   rw[e1] at hk
   simp only at hk
   split at hk
   ·rename_i hc;rw[if_pos hc];exact b9z (hK _ _ _) hk
   ·exact hk.elim
  ·rename_i e1
   rw[e1] at hk
   simp only at hk
   split at hk
   ·rename_i hc;rw[if_pos hc];exact b9z (hK _ _ _) hk
   ·exact hk.elim
  ·rename_i e1 e2
   split at hk
   ·rename_i h3;exact absurd h3 (e1 _ _ _)
   ·rename_i h3;exact absurd h3 (e2 _ _ _)
   ·exact hk
 ·rename_i e1 e2 e3
  split at hk
  ·exact absurd rfl (e1 _ _ _)
  ·exact absurd rfl (e2 _ _ _)
  ·exact absurd rfl (e3 _ _ _ _ _)
  ·exact hk
theorem b2j {sz:Nat}{h:List a0i}{v:AV}{K K':Nat->Nat->(Nat->List DV)->Prop}(hK: ∀a b c,K a b c->K' a b c)(hk:b1w (std P A ro E) sz h v K):b1w (std P A ro E) sz h v K':=by
 unfold b1w at hk⊢
 split
 ·exact hK _ _ _ hk
 ·exact hK _ _ _ hk
 ·rename_i e1 e2
  split at hk
  ·exact absurd rfl e1
  ·exact absurd rfl (e2 _ _)
  ·exact b1h hK hk
theorem c4a {h:List a0i}{v:AV}{K K':AV->Prop}(hK: ∀v,K v->K' v)(hk:d7p (std P A ro E) h v K):d7p (std P A ro E) h v K':=by
 cases v with
 |vsl l off n=>
  simp only[d7p] at hk⊢
  split at hk
  ·split at hk
   ·split at hk
    ·exact hK _ hk
    ·exact hk.elim
   ·exact hk.elim
  ·exact hk.elim
 |msl l sz s n f=>
  simp only[d7p] at hk⊢
  exact b1h (fun _ _ _=>hK _) hk
 |dfs sz n e=>exact hK _ hk
 |_=>exact hK _ hk
theorem d0n {h:List a0i}{vs:List AV}: ∀{K K':List AV->Prop},(∀v,K v->K' v)->d1w (std P A ro E) h vs K->d1w (std P A ro E) h vs K':=by
 induction vs with
 |nil=>intro K K' hK hk;exact hK _ hk
 |cons v r ih=>intro K K' hK hk;exact c4a (fun _=>ih fun _=>hK _) hk
theorem d0f {h:List a0i}{vs:List AV}: ∀{K K':List AV->Prop},(∀v,K v->K' v)->b5p (std P A ro E) h vs K->b5p (std P A ro E) h vs K':=by
 induction vs with
 |nil=>intro K K' hK hk;exact hK _ hk
 |cons v r ih=>
  intro K K' hK hk
  cases v
  case agg cs=>exact d0n (fun _=>ih fun _=>hK _) hk
  all_goals exact c4a (fun _=>ih fun _=>hK _) hk
theorem b4m {h:List a0i}{v:AV}{K K':AV->List a0i->Prop}(hK: ∀v h,K v h->K' v h)(hk:a4w (std P A ro E) h v K):a4w (std P A ro E) h v K':=by
 unfold a4w at hk⊢
 split
 ·simp only at hk
  refine b1h (fun a b c hk=> ?_) hk
  split
  ·rename_i e1;rw[e1] at hk;exact hK _ _ hk
  ·rename_i e1
   split at hk
   ·rename_i h3;exact absurd h3 (e1 _ _ _)
   ·exact hK _ _ hk
 ·exact hK _ _ hk
 ·rename_i e1 e2
  split at hk
  ·exact absurd rfl (e1 _ _ _ _ _)
  ·exact absurd rfl (e2 _ _ _)
  ·exact hK _ _ hk
theorem a8f {vs:List AV}: ∀{h:List a0i} {K K':List AV->List a0i->Prop},(∀v h,K v h->K' v h)->a7u (std P A ro E) h vs K->a7u (std P A ro E) h vs K':=by
 induction vs with
 |nil=>intro h K K' hK hk;exact hK _ _ hk
 |cons v r ih=>intro h K K' hK hk;exact b4m (fun _ _=>ih fun _ _=>hK _ _) hk
theorem b3a {vs:List AV}: ∀{h:List a0i} {K K':List AV->List a0i->Prop},(∀v h,K v h->K' v h)->a3k (std P A ro E) h vs K->a3k (std P A ro E) h vs K':=by
 induction vs with
 |nil=>intro h K K' hK hk;exact hK _ _ hk
 |cons v r ih=>
  intro h K K' hK hk
  cases v
  case agg cs=>exact a8f (fun _ _=>ih fun _ _=>hK _ _) hk
  all_goals exact b4m (fun _ _=>ih fun _ _=>hK _ _) hk
theorem c5n {v:AV}{h:List a0i}{K K':List DV->List a0i->Prop}(hK: ∀v h,K v h->K' v h)(hk:b6m (std P A ro E) h v K):b6m (std P A ro E) h v K':=by
 unfold b6m at hk⊢
 refine a8f (fun cs h' hk=> ?_) hk
 split
 ·rename_i e1;rw[e1] at hk;exact hK _ _ hk
 ·rename_i e1;rw[e1] at hk;exact hk
theorem c3o {rs:List (List AV)}: ∀{h:List a0i} {K K':List (List DV)->List a0i->Prop},(∀v h,K v h->K' v h)->a8a (std P A ro E) h rs K->a8a (std P A ro E) h rs K':=by
 induction rs with
 |nil=>intro h K K' hK hk;exact hK _ _ hk
 |cons v r ih=>
  intro h K K' hK hk
  simp only[a8a] at hk⊢
  refine a8f (fun cs h' hk=> ?_) hk
  split
  ·rename_i e1;rw[e1] at hk;exact ih (fun _ _=>hK _ _) hk
  ·rename_i e1;rw[e1] at hk;exact hk
theorem b6a {ks:List IntKind}: ∀{cs:List AV} {K K':List KC->Prop},(∀v,K v->K' v)->a6c (std P A ro E) ks cs K->a6c (std P A ro E) ks cs K':=by
 induction ks with
 |nil=>
  intro cs K K' hK hk
  cases cs with
  |nil=>exact hK _ hk
  |cons c cs=>exact hk.elim
 |cons k ks ih=>
  intro cs K K' hK hk
  cases cs with
  |nil=>exact hk.elim
  |cons c cs=>
   cases c with
   |d x=>
    cases x with
    |int k' x=>
     simp only[a6c] at hk⊢
     split
     ·rename_i hc;rw[if_pos hc] at hk;exact b9z (ih fun _=>hK _) hk
     ·rename_i hc;rw[if_neg hc] at hk;exact hk
    |_=>exact hk.elim
   |_=>exact hk.elim
theorem c6i {wide:Bool}{ks:List IntKind}{v:AV}{K K':List KC->Prop}(hK: ∀v,K v->K' v)(hk:a6b (std P A ro E) wide ks v K):a6b (std P A ro E) wide ks v K':=by
 cases v
 case agg cs=>
  simp only[a6b] at hk⊢
  split
  ·rename_i hc;rw[if_pos hc] at hk;exact b6a hK hk
  ·rename_i hc;rw[if_neg hc] at hk;exact hk
 all_goals
  simp only[a6b] at hk⊢
  split
  ·rename_i hc;rw[if_pos hc] at hk;exact hk
  ·rename_i hc;rw[if_neg hc] at hk;exact b6a hK hk
theorem b5c {v:AV}{K K':IX->Prop}(hK: ∀n,K n->K' n)(hk:b4q v K):b4q v K':=by
 unfold b4q at hk⊢
 split
 ·exact hK _ hk
 ·rename_i e1
  split at hk
  ·exact absurd rfl (e1 _)
  ·exact hk
end
section
variable {P:Program} {A:Ann} {ro:Option Nat} {E:Ent}
theorem d9r {op:BinOp}{k:IntKind}{x y:IX}{K:DV->Prop}(hk:d8w (std P A ro E) op k x y K): ∃v,K v/\ ∀{K2:DV->Prop},K2 v->d8w (std P A ro E) op k x y K2:=by
 cases op<;>cases x<;>cases y<;>first
  |exact hk.elim
  |exact⟨_,hk,fun h=>h⟩
  |exact⟨_,hk.2,fun h=>⟨hk.1,h⟩⟩
  |exact⟨_,hk.2.2,fun h=>⟨hk.1,hk.2.1,h⟩⟩
theorem a7a {v:AV}{K:IX->Prop}(hk:b4q v K): ∃n,K n/\ ∀{K2:IX->Prop},K2 n->b4q v K2:=by
 unfold b4q at hk
 split at hk
 ·exact⟨_,hk,fun h=>h⟩
 ·exact hk.elim
theorem b4x {row:List DV}{off:Nat}{g:Option Nat}{K:AV->Prop}(hk:b1p row off g K): ∃v,K v/\ ∀{K2:AV->Prop},K2 v->b1p row off g K2:=by
 cases g with
 |none=>
  simp only[b1p] at hk⊢
  split at hk
  ·rename_i e1;exact⟨_,hk,fun h=>by first|exact h|(rw[e1];exact h)⟩
  ·exact hk.elim
 |some m=>
  simp only[b1p] at hk⊢
  split at hk
  ·rename_i e1;exact⟨_,hk,fun h=>by first|exact h|(rw[e1];exact h)⟩
  ·exact hk.elim
theorem a3p {ts:List AV}{x:Option a0o}{d:IX}{K:IX->Prop}(hk:b5z ts x d K): ∃n,K n/\ ∀{K2:IX->Prop},K2 n->b5z ts x d K2:=by
 cases x with
 |none=>exact⟨_,hk,fun h=>h⟩
 |some o=>exact a7a hk
theorem c1d {ts:List AV}{sz:Nat}{x:AV}{lo hi mx:Option a0o}{K:AV->Prop}(hk:a1w (std P A ro E) ts sz x lo hi mx K): ∃v,K v/\ ∀{K2:AV->Prop},K2 v->a1w (std P A ro E) ts sz x lo hi mx K2:=by
 cases x with
 |msl l sz' s n f=>
  simp only[a1w] at hk⊢
  split at hk
  ·rename_i hc
   simp only[if_pos hc]
   obtain⟨a,hk,ha⟩:=a3p hk
   obtain⟨b,hk,hb⟩:=a3p hk
   obtain⟨h1,h2,h3,hk⟩:=hk
   cases mx with
   |none=>
    cases f with
    |true=>exact⟨_,hk.2,fun h=>ha (hb ⟨h1,h2,h3,hk.1,h⟩)⟩
    |false=>exact⟨_,hk,fun h=>ha (hb ⟨h1,h2,h3,h⟩)⟩
   |some m=>
    obtain⟨c,hk,hc'⟩:=a7a hk
    exact⟨_,hk.2,fun h=>ha (hb ⟨h1,h2,h3,hc' ⟨hk.1,h⟩⟩)⟩
  ·exact hk.elim
 |d y=>
  cases y with
  |sl sz' n e=>
   simp only[a1w] at hk⊢
   split at hk
   ·rename_i hc
    simp only[if_pos hc]
    obtain⟨a,hk,ha⟩:=a3p hk
    obtain⟨b,hk,hb⟩:=a3p hk
    obtain⟨h1,h2,h3,hk⟩:=hk
    cases mx with
    |none=>exact⟨_,hk,fun h=>ha (hb ⟨h1,h2,h3,h⟩)⟩
    |some m=>
     obtain⟨c,hk,hc'⟩:=a7a hk
     exact⟨_,hk.2,fun h=>ha (hb ⟨h1,h2,h3,hc' ⟨hk.1,h⟩⟩)⟩
   ·exact hk.elim
  |nil=>
   simp only[a1w] at hk⊢
   obtain⟨a,hk,ha⟩:=a3p hk
   obtain⟨b,hk,hb⟩:=a3p hk
   obtain⟨h1,h2,hk⟩:=hk
   cases mx with
   |none=>exact⟨_,hk,fun h=>ha (hb ⟨h1,h2,h⟩)⟩
   |some m=>
    obtain⟨c,hk,hc'⟩:=a7a hk
    exact⟨_,hk.2,fun h=>ha (hb ⟨h1,h2,hc' ⟨hk.1,h⟩⟩)⟩
  |_=>exact hk.elim
 |_=>exact hk.elim
theorem b5e {ts:List AV}{sz sz' n:Nat}{lo hi mx:Option a0o}{K:Prop}(hk:a6g (std P A ro E) ts sz sz' n lo hi mx K):K/\ ∀{K2:Prop},K2->a6g (std P A ro E) ts sz sz' n lo hi mx K2:=by
 unfold a6g at hk⊢
 split at hk
 ·rename_i hc
  simp only[if_pos hc]
  obtain⟨a,hk,ha⟩:=a3p hk
  obtain⟨b,hk,hb⟩:=a3p hk
  obtain⟨c,hk,hc⟩:=a3p hk
  obtain⟨h1,h2,h3,h4,hk⟩:=hk
  exact⟨hk,fun h=>ha (hb (hc ⟨h1,h2,h3,h4,h⟩))⟩
 ·exact hk.elim
theorem b9v {sz:Nat}{x:AV}{i:IX}{K:AV->Prop}(hk:a3o (std P A ro E) sz x i K): ∃v,K v/\ ∀{K2:AV->Prop},K2 v->a3o (std P A ro E) sz x i K2:=by
 unfold a3o at hk⊢
 split at hk
 ·split at hk
  ·rename_i hc;exact⟨_,hk.2,fun h=>by simp only[if_pos hc];exact⟨hk.1,h⟩⟩
  ·exact hk.elim
 ·split at hk
  ·rename_i hc;exact⟨_,hk.2,fun h=>by simp only[if_pos hc];exact⟨hk.1,h⟩⟩
  ·exact hk.elim
 ·split at hk
  ·rename_i hc;exact⟨_,hk.2,fun h=>by simp only[if_pos hc];exact⟨hk.1,h⟩⟩
  ·exact hk.elim
 ·exact hk.elim
theorem d5c {o:IOp}(hkl:o.kl= .i\/o.kl= .p){ts:List AV}{h:List a0i}{mv:List Nat}{K:AV->List a0i->List Nat->Prop}(hk:a0c (std P A ro E) o ⟨ts,h,mv⟩ K):
 ∃v,K v h []/\ ∀{h2:List a0i} {mv2:List Nat} {K2:AV->List a0i->List Nat->Prop},K2 v h2 []->a0c (std P A ro E) o ⟨ts,h2,mv2⟩ K2:=by
 cases o with
 |mv x=>exact⟨_,hk,fun h=>h⟩
 |pick c a b=>
  simp only[a0c] at hk⊢
  unfold e9h at hk
  split at hk
  ·rename_i b' e1
   simp only[e1,e9h]
   cases b' with
   |true=>exact⟨_,hk,fun h=>h⟩
   |false=>exact⟨_,hk,fun h=>h⟩
  ·exact hk.elim
 |build zs ps=>
  simp only[a0c] at hk⊢
  split at hk
  ·rename_i e1;exact⟨_,hk,fun h=>by first|exact h|(rw[e1];exact h)⟩
  ·exact hk.elim
 |nilchk x=>
  simp only[a0c] at hk⊢
  split at hk
  ·rename_i e1;exact⟨_,hk,fun h=>by rw[if_pos e1];exact h⟩
  ·exact hk.elim
 |bin op x y=>
  simp only[a0c] at hk⊢
  split at hk
  ·rename_i e1 e2
   split at hk
   ·rename_i e3
    obtain⟨v,hv,hd⟩:=d9r hk
    refine⟨_,hv,fun h=> ?_⟩
    simp only[if_pos e3]
    exact hd h
   ·exact hk.elim
  ·cases op<;>first|exact hk.elim|exact⟨_,hk.2,fun h=>⟨hk.1,h⟩⟩
  ·exact hk.elim
 |binb op x y=>
  simp only[a0c] at hk⊢
  split at hk
  ·rename_i e1 e2
   split at hk
   ·exact⟨_,hk,fun h=>by first|exact h|(rw[e1,e2];exact h)⟩
   ·exact⟨_,hk,fun h=>by first|exact h|(rw[e1,e2];exact h)⟩
   ·exact hk.elim
  ·exact hk.elim
 |aeq n ks x y=>
  simp only[a0c] at hk⊢
  split at hk
  ·split at hk
   ·rename_i e1;exact⟨_,hk,fun h=>by first|exact h|(rw[e1];exact h)⟩
   ·exact hk.elim
  ·exact hk.elim
 |un op x=>
  simp only[a0c] at hk⊢
  split at hk
  ·rename_i e1;exact⟨_,hk,fun h=>by first|exact h|(rw[e1];exact h)⟩
  ·rename_i e1;exact⟨_,hk,fun h=>by first|exact h|(rw[e1];exact h)⟩
  ·rename_i e1;exact⟨_,hk.2,fun h=>by first|exact⟨hk.1,h⟩|(rw[e1];exact⟨hk.1,h⟩)⟩
  ·exact hk.elim
 |conv k x=>
  simp only[a0c] at hk⊢
  split at hk
  ·rename_i e1;exact⟨_,hk,fun h=>by first|exact h|(rw[e1];exact h)⟩
  ·exact hk.elim
 |mkfn f l m=>exact⟨_,hk,fun h=>h⟩
 |slice sz x lo hi mx=>
  simp only[a0c] at hk⊢
  obtain⟨v,hk,hv⟩:=c1d hk
  exact⟨v,hk,fun h=>hv h⟩
 |slarr n x lo hi=>
  simp only[a0c] at hk⊢
  split at hk
  ·obtain⟨a,hk,ha⟩:=a3p hk
   obtain⟨b,hk,hb⟩:=a3p hk
   obtain⟨h1,h2,h3,hk⟩:=hk
   split at hk
   ·rename_i e1;exact⟨_,hk,fun h=>ha (hb ⟨h1,h2,h3,by first|exact h|(rw[e1];exact h)⟩)⟩
   ·rename_i e1;exact⟨_,hk,fun h=>ha (hb ⟨h1,h2,h3,by first|exact h|(rw[e1];exact h)⟩)⟩
  ·exact hk.elim
 |isnil neg x=>
  simp only[a0c] at hk⊢
  split at hk
  ·rename_i e1;exact⟨_,hk,fun h=>by first|exact h|(rw[e1];exact h)⟩
  ·rename_i e1;exact⟨_,hk.2,fun h=>by first|exact⟨hk.1,h⟩|(rw[e1];exact⟨hk.1,h⟩)⟩
  ·rename_i e1;exact⟨_,hk.2,fun h=>by first|exact⟨hk.1,h⟩|(rw[e1];exact⟨hk.1,h⟩)⟩
  ·rename_i e1;exact⟨_,hk.2,fun h=>by first|exact⟨hk.1,h⟩|(rw[e1];exact⟨hk.1,h⟩)⟩
  ·rename_i e1;exact⟨_,hk,fun h=>by first|exact h|(rw[e1];exact h)⟩
  ·rename_i e1;exact⟨_,hk,fun h=>by first|exact h|(rw[e1];exact h)⟩
  ·exact hk.elim
 |idxs l x=>
  simp only[a0c] at hk⊢
  split at hk
  ·rename_i e1;exact⟨_,hk.2,fun h=>by first|exact⟨hk.1,h⟩|(rw[e1];exact⟨hk.1,h⟩)⟩
  ·exact hk.elim
 |slchk sz x lo hi mx=>
  simp only[a0c] at hk⊢
  split at hk
  ·obtain⟨hk,hd⟩:=b5e hk
   exact⟨_,hk,fun h=>hd h⟩
  ·obtain⟨hk,hd⟩:=b5e hk
   exact⟨_,hk,fun h=>hd h⟩
  ·exact hk.elim
 |faddr off x=>
  simp only[a0c] at hk⊢
  split at hk
  ·rename_i e1;exact⟨_,hk,fun h=>by first|exact h|(rw[e1];exact h)⟩
  ·rename_i e1;exact⟨_,hk,fun h=>by first|exact h|(rw[e1];exact h)⟩
  ·rename_i e1;exact⟨_,hk,fun h=>by first|exact h|(rw[e1];exact h)⟩
  ·exact hk.elim
 |field off g x=>
  simp only[a0c] at hk⊢
  split at hk
  ·cases g with
   |none=>
    simp only at hk⊢
    split at hk
    ·rename_i e2;exact⟨_,hk,fun h=>by first|exact h|(rw[e2];exact h)⟩
    ·exact hk.elim
   |some m=>
    simp only at hk⊢
    split at hk
    ·rename_i e2;exact⟨_,hk,fun h=>by first|exact h|(rw[e2];exact h)⟩
    ·exact hk.elim
  ·exact hk.elim
 |iaddr sz x i=>
  obtain⟨n,hk,hn⟩:=a7a hk
  obtain⟨v,hk,hv⟩:=b9v hk
  exact⟨v,hk,fun h=>hn (hv h)⟩
 |iaddrA n sz x i=>
  obtain⟨m,hk,hn⟩:=a7a hk
  simp only at hk
  split at hk
  ·rename_i e1
   split at hk
   ·split at hk
    ·rename_i e2
     refine⟨_,hk,fun h=> ?_⟩
     refine hn ?_
     simp only[e1,if_pos e2]
     exact h
    ·exact hk.elim
   ·exact hk.elim
  ·exact hk.elim
 |extract x i=>
  simp only[a0c] at hk⊢
  split at hk
  ·split at hk
   ·rename_i e2;exact⟨_,hk,fun h=>by first|exact h|(rw[e2];exact h)⟩
   ·exact hk.elim
  ·exact hk.elim
 |len x=>
  simp only[a0c] at hk⊢
  split at hk
  ·rename_i e1;exact⟨_,hk,fun h=>by first|exact h|(rw[e1];exact h)⟩
  ·rename_i e1;exact⟨_,hk,fun h=>by first|exact h|(rw[e1];exact h)⟩
  ·rename_i e1;exact⟨_,hk,fun h=>by first|exact h|(rw[e1];exact h)⟩
  ·rename_i e1;exact⟨_,hk,fun h=>by first|exact h|(rw[e1];exact h)⟩
  ·rename_i e1;exact⟨_,hk,fun h=>by first|exact h|(rw[e1];exact h)⟩
  ·exact hk.elim
 |min x y=>
  simp only[a0c] at hk⊢
  split at hk
  ·rename_i e1 e2
   split at hk
   ·rename_i e3;exact⟨_,hk,fun h=>by simp only[if_pos e3];exact h⟩
   ·exact hk.elim
  ·exact hk.elim
 |call f as m=>
  cases m with
  |data=>
   simp only[a0c] at hk⊢
   split at hk
   ·split at hk
    ·rename_i e2
     obtain⟨r,hp,hk⟩:=hk
     exact⟨r,hk,fun h=>by rw[if_pos e2];exact⟨r,hp,h⟩⟩
    ·exact hk.elim
   ·simp at hk
   ·exact hk.elim
  |_=>simp[IOp.kl] at hkl
 |_=>simp[IOp.kl] at hkl
theorem d5u {h:List a0i}{p:AV}{g:Option Nat}{K:AV->Prop}(hk:b1n (std P A ro E) h p g K):
 ∃v,K v/\ ∀{h2:List a0i} {K2:AV->Prop},(∀l,tgt p=some l->a1x h2 l=a1x h l)->K2 v->b1n (std P A ro E) h2 p g K2:=by
 cases p with
 |ptr l off=>
  simp only[b1n] at hk⊢
  split at hk
  ·rename_i e0
   cases g with
   |none=>
    simp only at hk⊢
    split at hk
    ·rename_i e1;exact⟨_,hk,fun hh h=>by rw[hh l rfl,e0];simp only;first|exact h|(rw[e1];exact h)⟩
    ·exact hk.elim
   |some n=>
    simp only at hk⊢
    split at hk
    ·rename_i e1;exact⟨_,hk,fun hh h=>by rw[hh l rfl,e0];simp only;first|exact h|(rw[e1];exact h)⟩
    ·exact hk.elim
  ·exact hk.elim
 |aptr l sz i off=>
  simp only[b1n] at hk⊢
  split at hk
  ·rename_i e0
   split at hk
   ·rename_i hc
    obtain⟨v,hv,hd⟩:=b4x hk.2
    exact⟨v,hv,fun hh h=>by rw[hh l rfl,e0];simp only[if_pos hc];exact⟨hk.1,hd h⟩⟩
   ·exact hk.elim
  ·rename_i e0
   split at hk
   ·rename_i hc
    obtain⟨v,hv,hd⟩:=b4x hk.2
    exact⟨v,hv,fun hh h=>by rw[hh l rfl,e0];simp only[if_pos hc];exact⟨hk.1,hd h⟩⟩
   ·exact hk.elim
  ·exact hk.elim
 |dptr row off=>
  obtain⟨v,hv,hd⟩:=b4x hk
  exact⟨v,hv,fun _ h=>hd h⟩
 |_=>exact hk.elim
theorem b8a {ks:List IntKind}: ∀{cs:List AV} {K:List KC->Prop},a6c (std P A ro E) ks cs K-> ∃v,K v/\ ∀{K2:List KC->Prop},K2 v->a6c (std P A ro E) ks cs K2:=by
 induction ks with
 |nil=>
  intro cs K hk
  cases cs with
  |nil=>exact⟨_,hk,fun h=>h⟩
  |cons c cs=>exact hk.elim
 |cons k ks ih=>
  intro cs K hk
  cases cs with
  |nil=>exact hk.elim
  |cons c cs=>
   cases c with
   |d x=>
    cases x with
    |int k' x=>
     simp only[a6c] at hk⊢
     split at hk
     ·rename_i hc
      simp only[if_pos hc]
      obtain⟨v,hv,hd⟩:=ih hk.2
      exact⟨_,hv,fun h=>⟨hk.1,hd h⟩⟩
     ·exact hk.elim
    |_=>exact hk.elim
   |_=>exact hk.elim
theorem d2c {wide:Bool}{ks:List IntKind}{v:AV}{K:List KC->Prop}(hk:a6b (std P A ro E) wide ks v K): ∃x,K x/\ ∀{K2:List KC->Prop},K2 x->a6b (std P A ro E) wide ks v K2:=by
 cases v
 case agg cs=>
  simp only[a6b] at hk⊢
  split at hk
  ·rename_i hc;simp only[if_pos hc];exact b8a hk
  ·exact hk.elim
 all_goals
  simp only[a6b] at hk⊢
  split at hk
  ·exact hk.elim
  ·rename_i hc;simp only[if_neg hc];exact b8a hk
theorem c2k {o:IOp}(hkl:o.kl= .r){ts:List AV}{h:List a0i}{mv:List Nat}{K:AV->List a0i->List Nat->Prop}(hk:a0c (std P A ro E) o ⟨ts,h,mv⟩ K):
 ∃v,K v h []/\ ∀{h2:List a0i} {mv2:List Nat} {K2:AV->List a0i->List Nat->Prop},(∀x l,o.at=some x->tgt (opd ts x)=some l->a1x h2 l=a1x h l)->K2 v h2 []->a0c (std P A ro E) o ⟨ts,h2,mv2⟩ K2:=by
 cases o with
 |load g x=>
  obtain⟨v,hv,hd⟩:=d5u hk
  exact⟨v,hv,fun hh h=>hd (fun l=>hh x l rfl) h⟩
 |lookup wide ks ok m k=>
  simp only[a0c] at hk⊢
  split at hk
  ·rename_i e1
   split at hk
   ·rename_i e0
    split at hk
    ·rename_i hc
     obtain⟨v,hv,hd⟩:=d2c hk
     cases ok with
     |true=>exact⟨_,hv,fun hh h=>by simp only[hh m _ rfl (by rw[e1];rfl),e0,if_pos hc];exact hd h⟩
     |false=>exact⟨_,hv,fun hh h=>by simp only[hh m _ rfl (by rw[e1];rfl),e0,if_pos hc];exact hd h⟩
    ·exact hk.elim
   ·exact hk.elim
  ·exact hk.elim
 |lenm x=>
  simp only[a0c] at hk⊢
  split at hk
  ·rename_i e1
   split at hk
   ·rename_i e0
    exact⟨_,hk,fun hh h=>by simp only[hh x _ rfl (by rw[e1];rfl),e0];exact h⟩
   ·exact hk.elim
  ·exact hk.elim
 |call f as m=>cases m<;>simp[IOp.kl] at hkl
 |_=>simp[IOp.kl] at hkl
theorem c3m {l:Nat}{o:IOp}{ts:List AV}{h:List a0i}{mv:List Nat}{K:AV->a0i->Prop}(hk:a6l (std P A ro E) l o ⟨ts,h,mv⟩ K):
 ∃v ob,K v ob/\ ∀{ts2:List AV} {h2:List a0i} {mv2:List Nat} {K2:AV->a0i->Prop},(∀x,x∈o.opds->opd ts2 x=opd ts x)->K2 v ob->a6l (std P A ro E) l o ⟨ts2,h2,mv2⟩ K2:=by
 cases o with
 |alloc zs=>exact⟨_,_,hk,fun _ h=>h⟩
 |bnew sz=>exact⟨_,_,hk,fun _ h=>h⟩
 |mkmap wide ks=>exact⟨_,_,hk,fun _ h=>h⟩
 |box x=>
  simp only[a6l] at hk⊢
  split at hk
  ·rename_i hc
   refine⟨_,_,hk,fun ha h=> ?_⟩
   rw[ha x (by simp[IOp.opds]),if_pos hc]
   exact h
  ·exact hk.elim
 |mkslice sz zs b n=>
  obtain⟨m,hk,hm⟩:=a7a hk
  refine⟨_,_,hk.2.2,fun ha h=> ?_⟩
  simp only[a6l]
  rw[ha n (by simp[IOp.opds])]
  exact hm ⟨hk.1,hk.2.1,h⟩
 |_=>exact hk.elim
end
section
variable {P:Program} {A:Ann} {ro:Option Nat} {E:Ent}
theorem a0j.callb_mono {own:Bool}{f:FuncId}{args:List AV}{K K':AV->Prop}(hK: ∀v,K v->K' v)(hk:((std P A ro E)).callb own f args K):((std P A ro E)).callb own f args K':=by
 obtain⟨r,h1,h2⟩:=hk
 exact⟨r,h1,hK _ h2⟩
theorem e9c.mono {f:FuncId}{args:List AV}{K K':AV->List a0i->Prop}(hK: ∀v h,K v h->K' v h)(hk:e9c P f args K):e9c P f args K':=by
 refine⟨hk.1,fun w S vs hS hv=>(hk.2 w S vs hS hv).mono fun e w' h=> ?_⟩
 obtain⟨v,x,os,S',ρ',h1,h2,h3⟩:=h
 exact⟨v,x,os,S',ρ',h1,hK _ _ h2,h3⟩
theorem a0g.mono {f:FuncId}{args:List AV}{h:List a0i}{K K':List Nat->AV->List a0i->Prop}(hK: ∀p v h,K p v h->K' p v h)(hk:a0g P f args h K):a0g P f args h K':=by
 refine⟨hk.1,fun w S ρ vs hs hv=>(hk.2 w S ρ vs hs hv).mono fun e w' h=> ?_⟩
 obtain⟨v,x,pg,h',S',ρ',h1,h2,h3⟩:=h
 exact⟨v,x,pg,h',S',ρ',h1,hK _ _ _ h2,h3⟩
theorem YieldAt.mono' {l:Nat}{args:Array Value}{w:World}{R R':Ending->World->Prop}(h:YieldAt Fence.wide 0 P l args w R)(hR: ∀e w',R e w'->R' e w'):YieldAt Fence.wide 0 P l args w R':=by
 obtain⟨fn,tmps,assign,body,h1,h2⟩:=h
 exact⟨fn,tmps,assign,body,h1,h2.mono hR⟩
theorem a5s.mono {l:Nat}{args:List AV}{h:List a0i}{K K':List Nat->AV->List a0i->Prop}(hK: ∀p v h,K p v h->K' p v h)(hk:a5s P l args h K):a5s P l args h K':=by
 intro w S ρ vs b C hs hv hρ
 refine YieldAt.mono' (hk w S ρ vs b C hs hv hρ) fun e w' h=> ?_
 obtain⟨v,x,pg,h',S',ρ',h1,h2,h3⟩:=h
 exact⟨v,x,pg,h',S',ρ',h1,hK _ _ _ h2,h3⟩
theorem b9x {h:List a0i}{sz:Nat}{x y:AV}{K K':AV->List a0i->Prop}(hK: ∀v h,K v h->K' v h)(hk:a8n (std P A ro E) h sz x y K):a8n (std P A ro E) h sz x y K':=by
 unfold a8n at hk⊢
 refine b2j (fun sz2 m e2 hk=> ?_) hk
 split at hk
 ·rename_i hc
  rw[if_pos hc]
  split at hk
  ·split at hk
   ·rename_i hc2
    simp only[if_pos hc2]
    split at hk
    ·split at hk
     ·rename_i hc3
      simp only[if_pos hc3]
      exact⟨hk.1,hK _ _ hk.2⟩
     ·exact hk.elim
    ·exact hk
   ·exact hk.elim
  ·split at hk
   ·rename_i hc2
    simp only[if_pos hc2]
    split at hk
    ·split at hk
     ·split at hk
      ·exact hK _ _ hk
      ·exact hk
     ·exact hk
    ·exact hk
   ·exact hk.elim
  ·exact hk
 ·exact hk.elim
theorem b6s {h:List a0i}{sz:Nat}{x y:AV}{K K':AV->List a0i->Prop}(hK: ∀v h,K v h->K' v h)(hk:a6j (std P A ro E) h sz x y K):a6j (std P A ro E) h sz x y K':=by
 unfold a6j at hk⊢
 refine b2j (fun sz2 m e2 hk=> ?_) hk
 split at hk
 ·rename_i hc
  rw[if_pos hc]
  split at hk
  ·split at hk
   ·rename_i hc2
    simp only[if_pos hc2]
    split at hk
    ·split at hk
     ·rename_i hc3
      simp only[if_pos hc3]
      exact⟨hk.1,hK _ _ hk.2⟩
     ·exact hk.elim
    ·exact hk
   ·exact hk.elim
  ·exact hk
 ·exact hk.elim
theorem c2s {ts:List AV}{x:Option a0o}{d:IX}{K K':IX->Prop}(hK: ∀n,K n->K' n)(hk:b5z ts x d K):b5z ts x d K':=by
 cases x with
 |none=>exact hK _ hk
 |some o=>exact b5c hK hk
theorem c6t {h:List a0i}{p v:AV}{sz:Nat}{K K':List a0i->Prop}(hK: ∀h,K h->K' h)(hk:a9f (std P A ro E) h p v sz K):a9f (std P A ro E) h p v sz K':=by
 cases p with
 |ptr l off=>
  simp only[a9f] at hk⊢
  split at hk
  ·rename_i hc
   rw[if_pos hc]
   split at hk
   ·split at hk
    ·exact hK _ hk
    ·exact hk
   ·exact hk
  ·exact hk.elim
 |aptr l sz' i off=>
  simp only[a9f] at hk⊢
  split at hk
  ·rename_i hc
   rw[if_pos hc]
   refine c5n (fun new h' hk=> ?_) hk
   split at hk
   ·split at hk
    ·rename_i hc'
     simp only[if_pos hc']
     refine⟨hk.1,?_⟩
     have hk:=hk.2
     split at hk
     ·exact hK _ hk
     ·exact hk
    ·exact hk.elim
   ·exact hk
  ·exact hk.elim
 |_=>exact hk.elim
theorem a7v {h:List a0i}{sz:Nat}{x y:AV}{mu:Bool}{K K':AV->List a0i->List Nat->Prop}(hK: ∀v h p,K v h p->K' v h p)(hk:a3y (std P A ro E) h sz x y mu K):a3y (std P A ro E) h sz x y mu K':=by
 unfold a3y at hk⊢
 refine b2j (fun sz2 m e2 hk=> ?_) hk
 split at hk
 ·rename_i hc
  rw[if_pos hc]
  split at hk
  ·refine⟨hk.1,?_⟩
   have hk:=hk.2
   cases mu<;>exact hK _ _ _ hk
  ·split at hk
   ·rename_i hc2
    simp only[if_pos hc2]
    refine⟨hk.1,hk.2.1,?_⟩
    have hk:=hk.2.2
    cases mu<;>exact hK _ _ _ hk
   ·exact hk.elim
  ·split at hk
   ·rename_i hc2
    simp only[if_pos hc2]
    split at hk
    ·split at hk
     ·rename_i hc3
      simp only[if_pos hc3]
      exact⟨hk.1,hk.2.1,hK _ _ _ hk.2.2⟩
     ·exact hk.elim
    ·exact hk
   ·exact hk.elim
  ·split at hk
   ·rename_i hc2
    simp only[if_pos hc2]
    refine b1h (fun _ n e hk=> ?_) hk
    refine⟨hk.1,hk.2.1,?_⟩
    have hk:=hk.2.2
    cases mu<;>exact hK _ _ _ hk
   ·exact hk.elim
  ·exact hk
 ·exact hk.elim
theorem a6h {o:IOp}{st:St}{K K':AV->List a0i->List Nat->Prop}(hK: ∀v h p,K v h p->K' v h p)(hk:a0c (std P A ro E) o st K):a0c (std P A ro E) o st K':=by
 by_cases h1:o.kl= .i\/o.kl= .p
 ·obtain⟨v,hv,hd⟩:=d5c h1 hk
  exact hd (hK _ _ _ hv)
 by_cases h2:o.kl= .r
 ·obtain⟨v,hv,hd⟩:=c2k h2 hk
  exact hd (fun _ _ _ _=>rfl) (hK _ _ _ hv)
 cases o with
 |newnil sz=>exact hK _ _ _ hk
 |alloc zs=>exact hK _ _ _ hk
 |mkmap wide ks=>exact hK _ _ _ hk
 |box x=>
  simp only[a0c] at hk⊢
  split at hk
  ·rename_i hc;rw[if_pos hc];exact hK _ _ _ hk
  ·exact hk.elim
 |mkslice sz zs b n=>exact b5c (fun n hk=>⟨hk.1,hk.2.1,hK _ _ _ hk.2.2⟩) hk
 |bslice sz n zs ps mu=>
  simp only[a0c] at hk⊢
  split at hk
  ·refine c3o (fun _ _ hk=> ?_) hk
   cases mu<;>exact hK _ _ _ hk
  ·exact hk
 |store sz a x=>
  simp only[a0c] at hk⊢
  exact c6t (K:=fun h'=>K .und h' []) (fun _=>hK _ _ _) hk
 |mapupd wide ks m k x=>
  simp only[a0c] at hk⊢
  split at hk
  ·split at hk
   ·split at hk
    ·rename_i hc
     rw[if_pos hc]
     exact c6i (fun _=>b5c fun _=>hK _ _ _) hk
    ·exact hk.elim
   ·exact hk
  ·exact hk
 |call f as m=>
  simp only[a0c] at hk⊢
  split at hk
  ·cases m with
   |data=>simp[IOp.kl] at h1
   |borrow=>
    refine d0f (fun vs hk=> ?_) hk
    split at hk
    ·rename_i hc;rw[if_pos hc];exact a0j.callb_mono (fun _=>hK _ _ _) hk
    ·exact hk.elim
   |share=>
    refine b3a (fun vs h hk=> ?_) hk
    split at hk
    ·rename_i hc;rw[if_pos hc];exact a0j.callb_mono (fun _=>hK _ _ _) hk
    ·exact hk.elim
   |fresh=>
    refine b3a (fun vs h hk=> ?_) hk
    split at hk
    ·rename_i hc;rw[if_pos hc];exact e9c.mono (fun _ _=>hK _ _ _) hk
    ·exact hk.elim
   |raw=>exact a0g.mono (fun _ _ _=>hK _ _ _) hk
  ·split at hk
   ·rename_i hc;rw[if_pos hc];exact a5s.mono (fun _ _ _=>hK _ _ _) hk
   ·exact hk.elim
  ·exact hk
 |cap x=>
  simp only[a0c] at hk⊢
  split at hk
  ·split at hk
   ·split at hk
    ·rename_i hc
     rw[if_pos hc]
     split at hk
     ·rename_i hc;rw[if_pos hc];exact hK _ _ _ hk
     ·rename_i hc;rw[if_neg hc];exact hK _ _ _ hk
    ·exact hk.elim
   ·exact hk
  ·exact hk
 |append sz b x y mu=>exact a7v hK hk
 |copy sz x y=>
  simp only[a0c] at hk⊢
  exact b9x (fun _ _=>hK _ _ _) hk
 |appendIn sz x y=>
  simp only[a0c] at hk⊢
  exact b6s (fun _ _=>hK _ _ _) hk
 |appendN sz b x y mu=>
  simp only[a0c] at hk⊢
  split at hk
  ·exact hK _ _ _ hk
  ·exact a7v hK hk
 |bnew sz=>exact hK _ _ _ hk
 |bad=>exact hk.elim
 |clear sz zs x=>
  simp only[a0c] at hk⊢
  split at hk
  ·split at hk
   ·rename_i hc
    simp only[if_pos hc]
    split at hk
    ·split at hk
     ·rename_i hc2
      simp only[if_pos hc2]
      exact⟨hk.1,hK _ _ _ hk.2⟩
     ·exact hk.elim
    ·exact hk
   ·exact hk.elim
  ·exact hk
 |slicex sz x lo hi=>
  simp only[a0c] at hk⊢
  split at hk
  ·split at hk
   ·rename_i hc
    simp only[if_pos hc]
    split at hk
    ·split at hk
     ·rename_i hc2
      simp only[if_pos hc2]
      exact c2s (fun _=>c2s fun _ hk=>⟨hk.1,hk.2.1,hk.2.2.1,hK _ _ _ hk.2.2.2⟩) hk
     ·exact hk.elim
    ·exact hk
   ·exact hk.elim
  ·exact hk
 |ovl x y=>
  simp only[a0c] at hk⊢
  split at hk
  ·split at hk
   ·exact hk.elim
   ·rename_i hc
    rw[if_neg hc]
    refine⟨hk.1,hk.2.1,?_⟩
    have hk:=hk.2.2
    split at hk
    ·exact⟨hk.1,hK _ _ _ hk.2⟩
    ·exact hk
  ·exact hk
 |load|lookup|lenm=>simp[IOp.kl] at h2
 |_=>simp[IOp.kl] at h1
theorem c2b {sz:Nat}{a x:a0o}{ts:List AV}{h:List a0i}{mv mv2:List Nat}{K:AV->List a0i->List Nat->Prop}{l l' off:Nat}{ob:a0i}(ha:opd ts a= .ptr l' off)(hne:l'≠l)
 (hk:a0c (std P A ro E) (.store sz a x) ⟨ts,a4x h l ob,mv⟩ K): ∃h',h'.length=h.length/\K .und (a4x h' l ob) []/\ ∀{K2:AV->List a0i->List Nat->Prop},K2 .und h' []->a0c (std P A ro E) (.store sz a x) ⟨ts,h,mv2⟩ K2:=by
 simp only[a0c,ha,a9f] at hk⊢
 split at hk
 ·rename_i hc
  simp only[if_pos hc]
  have e:a1x (a4x h l ob) l'=a1x h l':=by rw[a0p,a0t,a0p,List.getElem?_set_ne (Ne.symm hne)]
  rw[e] at hk
  split at hk
  ·split at hk
   ·rename_i cs' e2
    refine⟨a4x h l' (.var cs'),by simp[a0t],?_,fun h=>h⟩
    rw[show a4x (a4x h l' (.var cs')) l ob=a4x (a4x h l ob) l' (.var cs') by simp only[a0t];exact (List.set_comm _ _ hne)]
    exact hk
   ·exact hk.elim
  ·exact hk.elim
 ·exact hk.elim
end
theorem a2k {i:Nat}: ∀{l:List Nat},b4s i l=true↔i∈l:=by
 intro l
 induction l with
 |nil=>simp[b4s]
 |cons j l ih=>
  simp only[b4s]
  split
  ·rename_i h;have:=Nat.eq_of_beq_eq_true h;simp[this]
  ·rename_i h
   have:i≠j:=fun e=>h (by subst e;simp)
   simp[ih,this]
theorem a7f {base l:Nat}: ∀{av:List Nat},a7m base l av=true-> ∀s,s∈av->l≠base+s:=by
 intro av
 induction av with
 |nil=>simp
 |cons s r ih=>
  intro h
  simp only[a7m] at h
  split at h
  ·cases h
  ·rename_i hc
   intro s' hs'
   rcases List.mem_cons.1 hs' with rfl|hs'
   ·intro e;subst e;simp at hc
   ·exact ih h s' hs'
def AgU (o:a2b)(ts ts2:List AV):Prop:= ∀t,t∈o.uses->a1x ts t=a1x ts2 t
theorem AgU.symm {o:a2b}{ts ts2:List AV}(h:AgU o ts ts2):AgU o ts2 ts:=fun t ht=>(h t ht).symm
theorem b8k {x:Nat}: ∀{l:List a0o},a0o.t x∈l->x∈b5j l:=by
 intro l
 induction l with
 |nil=>simp
 |cons y l ih=>
  intro h
  cases y with
  |t i=>
   simp only[b5j,List.mem_cons]
   rcases List.mem_cons.1 h with h|h
   ·cases h;exact .inl rfl
   ·exact .inr (ih h)
  |c v=>
   simp only[b5j]
   rcases List.mem_cons.1 h with h|h
   ·cases h
   ·exact ih h
theorem AgU.opds {o:a2b}{ts ts2:List AV}(h:AgU o ts ts2): ∀x,x∈o.op.opds->opd ts x=opd ts2 x:=by
 intro x hx
 cases x with
 |c v=>rfl
 |t i=>
  simp only[opd]
  rw[h i]
  unfold a2b.uses
  split
  ·exact b8k hx
  ·exact List.mem_cons_of_mem _ (b8k hx)
theorem AgU.put {o:a2b}{st:St}{dst:Option Nat}{v:AV}(h: ∀t,dst=some t->t∉o.uses):AgU o st.ts (st.put dst v).ts:=by
 intro t ht
 cases dst with
 |none=>rfl
 |some d=>
  simp only[St.put,a0p,a0t]
  rw[List.getElem?_set_ne]
  intro e;subst e;exact h _ rfl ht
def gst (o:a2b)(ts:List AV):Option Bool:=
 match o.guard with
 |none=>some true
 |some (j,want)=>match a1x ts j with
  |some (.d (.bool b))=>some (b==want)
  |some .und=>some false
  |_=>none
theorem e7a {st:St}{j:Nat}{b:Bool}(h:a1x st.ts j=some (.d (.bool b))):st.setb j b=st:=by
 obtain⟨ts,hh,mv⟩:=st
 simp only[St.setb,St.put,St.mk.injEq,and_true]
 rw[a0p] at h
 rw[a0t]
 obtain⟨h1,h2⟩:=List.getElem?_eq_some_iff.1 h
 rw[<-h2]
 exact List.set_getElem_self h1
theorem b8n {o:a2b}{st:St}{off on:St->Prop}:a4j o st off on=(match gst o st.ts with|some true=>on st|some false=>off st|none=>False):=by
 cases hg:o.guard with
 |none=>simp only[a4j,gst,hg]
 |some p=>
  obtain⟨j,want⟩:=p
  simp only[a4j,gst,hg]
  cases hb:a1x st.ts j with
  |none=>rfl
  |some v=>
   cases v with
   |d x=>
    cases x with
    |bool b=>cases b<;>cases want<;>simp[e7a hb]
    |_=>rfl
   |_=>rfl
theorem a4o {o:a2b}{ts ts2:List AV}(h:AgU o ts ts2):gst o ts=gst o ts2:=by
 unfold gst
 split
 ·rfl
 ·rename_i j want hg
  rw[h j (by simp[a2b.uses,hg])]
theorem b1q {base:Nat}{d:a0u}{ts ts2:List AV}(h:AgU d.o ts ts2):c9k base d ts=c9k base d ts2:=by
 unfold c9k
 split
 ·rfl
 ·split
  ·rename_i x hx
   have:x∈d.o.op.opds:=by
    cases ho:d.o.op<;>rw[ho] at hx<;>simp[IOp.at] at hx<;>subst hx<;>simp[IOp.opds]
   rw[h.opds x this]
  ·rfl
theorem c3f {base:Nat}{d:a0u}{ts:List AV}(h:c9k base d ts=true){x:a0o}{l:Nat}(hx:d.o.op.at=some x)(hl:tgt (opd ts x)=some l): ∀s,s∈d.av->l≠base+s:=by
 unfold c9k at h
 split at h
 ·rename_i e;rw[e];simp
 ·rw[hx] at h
  simp only at h
  split at h
  ·rename_i e;rw[e] at hl;cases hl;exact a7f h
  ·rename_i e;rw[e] at hl;cases hl
   split at h
   ·exact a7f h
   ·cases h
  ·rename_i e;rw[e] at hl;cases hl
   split at h
   ·exact a7f h
   ·cases h
  ·rename_i e;rw[e] at hl;cases hl
  ·cases h
def eff (st:St)(δ:Option (Nat×a0i))(dst:Option Nat)(v:AV):St:=
 match δ with
 |none=>st.put dst v
 |some (l,ob)=>(st.setH (a4x st.h l ob)).put dst v
theorem a9z {st:St}{dst:Option Nat}{v:AV}:(st.put dst v).h=st.h:=by cases dst<;>rfl
theorem f4m {st:St}{dst:Option Nat}{v:AV}:(st.put dst v).mv=st.mv:=by cases dst<;>rfl
theorem a8y {st:St}{dst:Option Nat}{v:AV}{h:List a0i}:(st.put dst v).setH h=(st.setH h).put dst v:=by cases dst<;>rfl
theorem a6w {st:St}{d d':Option Nat}{v v':AV}(h: ∀t,d=some t->d'≠some t):(st.put d v).put d' v'=(st.put d' v').put d v:=by
 cases d with
 |none=>cases d'<;>rfl
 |some t=>
  cases d' with
  |none=>rfl
  |some t'=>
   simp only[St.put,a0t,St.mk.injEq,and_true]
   exact List.set_comm _ _ fun e=>h t rfl (by rw[e])
theorem d3u {st:St}{d:Option Nat}{v v':AV}:(st.put d v).put d v'=st.put d v':=by
 cases d with
 |none=>rfl
 |some t=>simp[St.put,a0t]
section
variable {P:Program} {A:Ann} {ro:Option Nat} {E:Ent} {base:Nat}
theorem a6z {F:List a0u}{d:a0u}{st:St}{K:St->Prop}:b6b (std P A ro E) base F d st K=(match gst d.o st.ts with|some true=>evD (std P A ro E) base F d st K|some false=>K (st.put d.o.dst .und)|none=>False):=by
 unfold b6b
 rw[b8n]
theorem b4z {o:IOp}{st:St}{K:AV->List a0i->List Nat->Prop}:a0c (std P A ro E) o st K=a0c (std P A ro E) o ⟨st.ts,st.h,st.mv⟩ K:=rfl
theorem det {F:List a0u}{d:a0u}{st:St}{K:St->Prop}(hkl:d.o.op.kl≠ .m)(hk:b6b (std P A ro E) base F d st K):
 ∃v δ,(δ=none\/(d.o.op.kl= .a/\ ∃ob,δ=some (base+d.slot,ob)))/\(gst d.o st.ts=some false->v= .und)/\K (eff st δ d.o.dst v)/\
  ∀{st2:St} {F2:List a0u} {K2:St->Prop},AgU d.o st.ts st2.ts->(d.o.op.kl= .r-> ∀l,(∀s,s∈d.av->l≠base+s)->a1x st2.h l=a1x st.h l)->K2 (eff st2 δ d.o.dst v)->b6b (std P A ro E) base F2 d st2 K2:=by
 rw[a6z] at hk
 split at hk
 ·rename_i hg
  unfold evD at hk
  split at hk
  ·rename_i ha
   obtain⟨v,ob,hk,hd⟩:=c3m hk
   refine⟨v,some (base+d.slot,ob),.inr ⟨ha,ob,rfl⟩,(fun h=>by rw[hg] at h;cases h),hk,fun hag _ h2=> ?_⟩
   rw[a6z,<-a4o hag,hg]
   simp only[evD,ha]
   exact hd (fun x hx=>(hag.opds x hx).symm) h2
  ·rename_i ha;exact absurd ha hkl
  ·rename_i ha
   split at hk
   ·rename_i hav
    obtain⟨v,hv,hd⟩:=c2k ha hk
    refine⟨v,none,.inl rfl,(fun h=>by rw[hg] at h;cases h),hv,fun {st2} F2 K2 hag hh h2=> ?_⟩
    rw[a6z,<-a4o hag,hg]
    simp only[evD,ha]
    rw[<-b1q hag,if_pos hav,b4z,<-a4p (mv:=st.mv) hag.opds]
    exact hd (fun x l hx hl=>hh ha l (c3f hav hx hl)) h2
   ·exact hk.elim
  ·rename_i h1 h2 h3
   have hip:d.o.op.kl= .i\/d.o.op.kl= .p:=by
    cases hx:d.o.op.kl
    ·exact .inl rfl
    ·exact absurd hx h3
    ·exact absurd hx h1
    ·exact .inr rfl
    ·exact absurd hx h2
   obtain⟨v,hv,hd⟩:=d5c hip hk
   refine⟨v,none,.inl rfl,(fun h=>by rw[hg] at h;cases h),hv,fun {st2} F2 K2 hag _ h2'=> ?_⟩
   rw[a6z,<-a4o hag,hg]
   have:evD (std P A ro E) base F2 d st2 K2=a0c (std P A ro E) d.o.op st2 fun v _ _=>K2 (st2.put d.o.dst v):=by
    unfold evD
    rcases hip with e|e<;>rw[e]
   simp only[]
   rw[this,b4z,<-a4p (mv:=st.mv) hag.opds]
   exact hd h2'
 ·rename_i hg
  refine⟨.und,none,.inl rfl,fun _=>rfl,hk,fun hag _ h2=> ?_⟩
  rw[a6z,<-a4o hag,hg]
  exact h2
 ·exact hk.elim
structure May (a b:a0u):Prop where
 d1: ∀t,b.o.dst=some t->t∉a.o.uses
 d2: ∀t,a.o.dst=some t->t∉b.o.uses
 d3: ∀t,a.o.dst=some t->b.o.dst≠some t
 self: ∀t,a.o.dst=some t->t∉a.o.uses
 al:b.alone=false
 am:a.o.op.kl≠ .m
 ra:a.o.op.kl= .r->b.o.op.kl= .a->b.slot∈a.av
 rm:b.o.op.kl= .m->b4s a.i b.bef=false
 wt:b.o.op.kl= .m->a.watch=true
 ar:a.o.op.kl= .a->b.o.op.kl= .r->a.slot∈b.av
 amm:a.o.op.kl= .a->b.o.op.kl= .m->a.slot∈b.av
 aa:a.o.op.kl= .a->b.o.op.kl= .a->a.slot≠b.slot
structure f5a (r p:a0u):Prop where
 d1: ∀t,p.o.dst=some t->t∉r.o.uses
 d2: ∀t,p.o.dst=some t->r.o.dst≠some t
 av:r.o.op.kl= .r->p.o.op.kl= .a->p.slot∈r.av
theorem c3l {st:St}{δ:Option (Nat×a0i)}{dst:Option Nat}{v:AV}:(eff st δ dst v).ts=(st.put dst v).ts:=by
 cases δ with
 |none=>rfl
 |some p=>cases dst<;>rfl
theorem AgU.eff {o:a2b}{st:St}{δ:Option (Nat×a0i)}{dst:Option Nat}{v:AV}(h: ∀t,dst=some t->t∉o.uses):AgU o st.ts (Vf.eff st δ dst v).ts:=by
 rw[c3l];exact AgU.put h
theorem d8s {st:St}{δ:Option (Nat×a0i)}{dst:Option Nat}{v:AV}:(eff st δ dst v).h=match δ with|none=>st.h|some (l,ob)=>a4x st.h l ob:=by
 cases δ with
 |none=>exact a9z
 |some p=>cases dst<;>rfl
theorem d0c {st:St}{δ δ':Option (Nat×a0i)}{d d':Option Nat}{v v':AV}(h: ∀t,d=some t->d'≠some t)(hδ: ∀l ob l' ob',δ=some (l,ob)->δ'=some (l',ob')->l≠l'):
 eff (eff st δ d v) δ' d' v'=eff (eff st δ' d' v') δ d v:=by
 cases δ with
 |none=>
  cases δ' with
  |none=>exact a6w h
  |some p'=>
   obtain⟨l',ob'⟩:=p'
   simp only[eff,a9z,a8y]
   exact a6w h
 |some p=>
  obtain⟨l,ob⟩:=p
  cases δ' with
  |none=>
   simp only[eff,a9z,a8y]
   exact a6w h
  |some p'=>
   obtain⟨l',ob'⟩:=p'
   have hne:=hδ l ob l' ob' rfl rfl
   simp only[eff,a9z,a8y]
   rw[a6w h]
   congr 1
   congr 1
   simp only[St.setH,St.mk.injEq,true_and,and_true,a0t]
   exact List.set_comm _ _ hne
theorem e0m {F F':List a0u}{p j:a0u}{st:St}{K:St->Prop}(hm:May p j)(hj:j.o.op.kl≠ .m)(hk:b6b (std P A ro E) base F p st fun st1=>b6b (std P A ro E) base F' j st1 K):
 b6b (std P A ro E) base F j st fun st1=>b6b (std P A ro E) base F p st1 K:=by
 obtain⟨v,δ,hδ,_,hk,hd⟩:=det hm.am hk
 obtain⟨v',δ',hδ',_,hk,hd'⟩:=det hj hk
 refine hd' (AgU.eff hm.d2).symm (fun hr l hl=> ?_) (hd (AgU.eff hm.d1) (fun hr l hl=> ?_) ?_)
 ·rw[d8s]
  rcases hδ with rfl|⟨ha,ob,rfl⟩
  ·rfl
  ·simp only[a0p,a0t]
   rw[List.getElem?_set_ne]
   exact fun e=>hl p.slot (hm.ar ha hr) e.symm
 ·rw[d8s]
  rcases hδ' with rfl|⟨ha,ob,rfl⟩
  ·rfl
  ·simp only[a0p,a0t]
   rw[List.getElem?_set_ne]
   exact fun e=>hl j.slot (hm.ra hr ha) e.symm
 ·rw[d0c (δ:=δ') (δ':=δ)]
  ·exact hk
  ·intro t ht e
   exact hm.d3 t e ht
  ·rintro l ob l' ob' rfl rfl
   rcases hδ with h|⟨ha,ob,h⟩
   ·cases h
   ·rcases hδ' with h'|⟨ha',ob',h'⟩
    ·cases h'
    ·cases h;cases h'
     have:=hm.aa ha ha'
     omega
end
section
variable {P:Program} {A:Ann} {ro:Option Nat} {E:Ent} {base:Nat}
theorem a3l {st:St}{k:Prop}{r:a0u}{rs:List a0u}:a1v (std P A ro E) base st k (r::rs)=(if r.o.op.kl= .r then (match gst r.o st.ts with
 |some true=>if c9k base r st.ts then a0c (std P A ro E) r.o.op st fun v _ _=>match r.o.dst with
   |some d=>v=opd st.ts (.t d)/\a1v (std P A ro E) base st k rs
   |none=>a1v (std P A ro E) base st k rs
  else False
 |some false=>a1v (std P A ro E) base st k rs
 |none=>False) else a1v (std P A ro E) base st k rs):=by
 conv=>lhs;unfold a1v
 rw[b8n]
 rfl
theorem a7z {st st2:St}{k k2:Prop}(hkk:k->k2): ∀{rs:List a0u},a1v (std P A ro E) base st k rs->
 (∀r,r∈rs->r.o.op.kl= .r->AgU r.o st.ts st2.ts/\(∀t,r.o.dst=some t->a1x st.ts t=a1x st2.ts t)/\ ∀l,(∀s,s∈r.av->l≠base+s)->a1x st2.h l=a1x st.h l)->a1v (std P A ro E) base st2 k2 rs:=by
 intro rs
 induction rs with
 |nil=>intro hk _;exact hkk hk
 |cons r rs ih=>
  intro hk h
  have ih:=fun hk=>ih hk fun r hr=>h r (by simp[hr])
  rw[a3l] at hk⊢
  by_cases hkl:r.o.op.kl= .r
  ·obtain⟨hag,hdst,hh⟩:=h r (by simp) hkl
   rw[if_pos hkl] at hk⊢
   rw[<-a4o hag]
   split at hk
   ·split at hk
    ·rename_i hav
     rw[<-b1q hag,if_pos hav,b4z,<-a4p (mv:=st.mv) hag.opds]
     obtain⟨v,hv,hd⟩:=c2k hkl hk
     refine hd (fun x l hx hl=>hh l (c3f hav hx hl)) ?_
     cases hr:r.o.dst with
     |none=>rw[hr] at hv;exact ih hv
     |some d=>
      rw[hr] at hv
      refine⟨hv.1.trans ?_,ih hv.2⟩
      simp only[opd,hdst d hr]
    ·exact hk.elim
   ·exact ih hk
   ·exact hk
  ·rw[if_neg hkl] at hk⊢;exact ih hk
theorem b8t {F:List a0u}{st:St}{k:Prop}{r:a0u}{rs:List a0u}(hkl:r.o.op.kl= .r)(hk:a1v (std P A ro E) base st k (r::rs))
 (hg:gst r.o st.ts=some false->st.put r.o.dst .und=st):b6b (std P A ro E) base F r st fun st1=>st1=st/\a1v (std P A ro E) base st k rs:=by
 rw[a3l,if_pos hkl] at hk
 rw[a6z]
 split at hk
 ·rename_i h
  try rw[h]
  split at hk
  ·rename_i hav
   simp only[evD,hkl,if_pos hav]
   refine a6h (fun v _ _ hk=> ?_) hk
   cases hr:r.o.dst with
   |none=>rw[hr] at hk;exact⟨rfl,hk⟩
   |some d=>
    rw[hr] at hk
    refine⟨?_,hk.2⟩
    rw[hk.1]
    obtain⟨ts,hh,mv⟩:=st
    simp only[St.put,opd,St.mk.injEq,and_true]
    rw[a0t,a0p]
    cases hd:ts[d]? with
    |none=>
     simp only[]
     exact List.set_eq_of_length_le (by rw[List.getElem?_eq_none_iff] at hd;exact hd)
    |some v=>
     simp only[]
     obtain⟨h1,h2⟩:=List.getElem?_eq_some_iff.1 hd
     rw[<-h2]
     exact List.set_getElem_self h1
  ·exact hk.elim
 ·rename_i h;try rw[h]
  exact⟨hg h,hk⟩
 ·exact hk.elim
theorem a2u {m:Nat}: ∀{pg:List Nat},a5p m pg=true-> ∀l,l∈pg->Nat.beq l m=false:=by
 intro pg
 induction pg with
 |nil=>simp
 |cons l pg ih=>
  intro h
  simp only[a5p] at h
  split at h
  ·cases h
  ·rename_i hb
   intro l' hl'
   rcases List.mem_cons.1 hl' with rfl|hl'
   ·exact Bool.eq_false_iff.2 hb
   ·exact ih h l' hl'
mutual
theorem b3h {l:Nat}{pg:List Nat}(hl:l∈pg): ∀(v:AV),a2y pg v=true->v.forget l false=v
 | .agg cs,h=>by simp only[a2y] at h;simp only[AV.forget];rw[a3u hl cs h]
 | .tuple cs,h=>by simp only[a2y] at h;simp only[AV.forget];rw[a3u hl cs h]
 | .fn f us cs,h=>by
   simp only[a2y] at h
   split at h
   ·rename_i h1;simp only[AV.forget];rw[a3u hl us h1,a3u hl cs h]
   ·cases h
 | .ptr m _,h=>by simp only[a2y] at h;simp[AV.forget,a2u h l hl]
 | .aptr m _ _ _,h=>by simp only[a2y] at h;simp[AV.forget,a2u h l hl]
 | .msl m _ _ _ _,h=>by simp only[a2y] at h;simp[AV.forget,a2u h l hl]
 | .vsl m _ _,h=>by simp only[a2y] at h;simp[AV.forget,a2u h l hl]
 | .map m,h=>by simp only[a2y] at h;simp[AV.forget,a2u h l hl]
 | .yl m,h=>by simp only[a2y] at h;simp[AV.forget,a2u h l hl]
 | .d _,_=>rfl
 | .any,_=>rfl
 | .und,_=>rfl
 | .dptr _ _,_=>rfl
 | .dfs _ _ _,_=>rfl
 | .ge _,_=>rfl
theorem a3u {l:Nat}{pg:List Nat}(hl:l∈pg): ∀(vs:List AV),a9h pg vs=true->AV.forgetL l false vs=vs
 |[],_=>rfl
 |v::r,h=>by
  simp only[a9h] at h
  split at h
  ·rename_i h1;simp only[AV.forgetL];rw[b3h hl v h1,a3u hl r h]
  ·cases h
end
theorem b1g {v:AV}: ∀{pg pg':List Nat},(∀l,l∈pg'->l∈pg)->a2y pg v=true->a5b pg' v=v:=by
 intro pg pg'
 induction pg' with
 |nil=>intro _ _;rfl
 |cons l pg' ih=>
  intro hs h
  simp only[a5b]
  rw[b3h (hs l (by simp)) v h]
  exact ih (fun m hm=>hs m (by simp[hm])) h
theorem b7v {pg:List Nat}{ts:List AV}: ∀{l:List Nat},a5v pg ts l=true-> ∀t,t∈l-> ∀v,a1x ts t=some v->a2y pg v=true:=by
 intro l
 induction l with
 |nil=>simp
 |cons t l ih=>
  intro h
  simp only[a5v] at h
  intro t' ht' v hv
  cases hv0:a1x ts t with
  |none=>
   simp only[hv0,if_true] at h
   rcases List.mem_cons.1 ht' with rfl|ht'
   ·rw[hv0] at hv;cases hv
   ·exact ih h t' ht' v hv
  |some u=>
   simp only[hv0] at h
   split at h
   ·rename_i h1
    rcases List.mem_cons.1 ht' with rfl|ht'
    ·rw[hv0] at hv;cases hv;exact h1
    ·exact ih h t' ht' v hv
   ·cases h
theorem b3i {pg:List Nat}{ts ts2:List AV}: ∀{l:List Nat},(∀t,t∈l->a1x ts t=a1x ts2 t)->a5v pg ts l=a5v pg ts2 l:=by
 intro l
 induction l with
 |nil=>intro _;rfl
 |cons t l ih=>
  intro h
  simp only[a5v]
  rw[h t (by simp),ih fun t ht=>h t (by simp[ht])]
theorem d6a {st:St}{pg:List Nat}{t:Nat}:a1x (st.purge pg).ts t=(a1x st.ts t).map (a5b pg):=by
 rw[a0p,a0p,(a2t pg st).1,List.getElem?_map]
theorem d3z {pg:List Nat}{st:St}{dst:Option Nat}{v:AV}(hv:a2y pg v=true):(st.put dst v).purge pg=(st.purge pg).put dst v:=by
 have h1:=a2t pg (st.put dst v)
 have h2:=a2t pg st
 have hm: ∀(pg:List Nat) (st1 st2:St),st1.mv=st2.mv->(st1.purge pg).mv=(st2.purge pg).mv:=by
  intro pg
  induction pg with
  |nil=>intro st1 st2 h;exact h
  |cons l pg ih=>intro st1 st2 h;exact ih _ _ (by simp[h])
 have h3:=hm pg (st.put dst v) st f4m
 cases hst:(st.put dst v).purge pg with
 |mk ts h mv=>
  rw[hst] at h1 h3
  cases hst2:st.purge pg with
  |mk ts2 hh2 mv2=>
   rw[hst2] at h2 h3
   simp only at h1 h2 h3
   cases dst with
   |none=>simp only[St.put] at h1⊢;rw[h1.1,h1.2,h2.1,h2.2,h3]
   |some d=>
    simp only[St.put,a0t] at h1⊢
    rw[h1.1,h1.2,h2.1,h2.2,h3,List.map_set,b1g (fun _ h=>h) hv]
theorem b0z {d r:a0u}{F:List a0u}(h:r∈a5u d F):r∈F:=by
 induction F with
 |nil=>simp[a5u] at h
 |cons x F ih=>
  simp only[a5u] at h
  split at h
  ·exact List.mem_cons_of_mem _ (ih h)
  ·rcases List.mem_cons.1 h with rfl|h
   ·exact List.mem_cons_self
   ·exact List.mem_cons_of_mem _ (ih h)
theorem f5o {o:IOp}(h:o.kl= .m){x:a0o}(hx:o.at=some x): ∃sz y,o= .store sz x y:=by
 cases o with
 |store sz a y=>simp[IOp.at] at hx;subst hx;exact⟨sz,y,rfl⟩
 |load|lookup|lenm=>simp[IOp.kl] at h
 |_=>simp[IOp.at] at hx
theorem b0j {st:St}{dst:Option Nat}{v:AV}{t:Nat}(h:dst≠some t):a1x (st.put dst v).ts t=a1x st.ts t:=by
 cases dst with
 |none=>rfl
 |some d=>
  simp only[St.put,a0p,a0t]
  rw[List.getElem?_set_ne]
  intro e;subst e;exact h rfl
theorem d6k {pg:List Nat}{ts:List AV}: ∀{F:List a0u},b0c pg ts F=true-> ∀r,r∈F->a5v pg ts r.o.uses=true/\a5v pg ts (f1c r.o)=true:=by
 intro F
 induction F with
 |nil=>simp
 |cons x F ih=>
  intro h
  simp only[b0c] at h
  split at h
  ·rename_i h1
   split at h
   ·rename_i h2
    intro r hr
    rcases List.mem_cons.1 hr with rfl|hr
    ·exact⟨h1,h2⟩
    ·exact ih h r hr
   ·cases h
  ·cases h
theorem c4t {pg:List Nat}{ts ts2:List AV}: ∀{F:List a0u},(∀r,r∈F->AgU r.o ts ts2/\ ∀t,r.o.dst=some t->a1x ts t=a1x ts2 t)->b0c pg ts F=b0c pg ts2 F:=by
 intro F
 induction F with
 |nil=>intro _;rfl
 |cons x F ih=>
  intro h
  obtain⟨h1,h2⟩:=h x (by simp)
  simp only[b0c]
  rw[b3i h1,ih fun r hr=>h r (by simp[hr])]
  congr 2
  unfold f1c
  cases hd:x.o.dst with
  |none=>rfl
  |some d=>
   have:a5v pg ts [d]=a5v pg ts2 [d]:=b3i fun t ht=>by simp at ht;subst ht;exact h2 t hd
   simp only[this]
theorem b9o {st:St}{d:Nat}{v u:AV}(h:a1x (st.put (some d) v).ts d=some u):u=v:=by
 simp only[St.put,a0p,a0t,List.getElem?_set] at h
 split at h
 ·split at h
  ·simpa using h.symm
  ·cases h
 ·rename_i h1;exact absurd trivial h1
theorem f0a {F:List a0u}{p j:a0u}{st:St}{K:St->Prop}(hm:May p j)(hj:j.o.op.kl= .m)(hF: ∀r,r∈F->f5a r p)
 (hk:b6b (std P A ro E) base F p st fun st1=>b6b (std P A ro E) base (b1c p F) j st1 K):b6b (std P A ro E) base F j st fun st1=>b6b (std P A ro E) base F p st1 K:=by
 obtain⟨v,δ,hδ,hund,hk,hd⟩:=det hm.am hk
 have hag:AgU j.o st.ts (eff st δ p.o.dst v).ts:=AgU.eff hm.d2
 have eF:b1c p F=p::F:=by unfold b1c;rw[if_pos (hm.wt hj)]
 have eA:a5u j (b1c p F)=p::a5u j F:=by rw[eF,a5u,if_neg (by rw[hm.rm hj];simp)]
 rw[a6z] at hk⊢
 rw[<-a4o hag] at hk
 split at hk
 ·rename_i hg
  simp only[evD,hj] at hk⊢
  rw[<-b1q hag] at hk
  rw[eA] at hk
  split at hk
  ·rename_i hav
   rw[if_pos hav]
   rcases hδ with rfl|⟨ha,ob,rfl⟩
   ·
    rw[b4z,<-a4p (mv:=st.mv) hag.opds,d8s] at hk
    refine a6h (fun vj h' pg hk=> ?_) hk
    have fin: ∀(st2:St),AgU p.o st.ts st2.ts->a1v (std P A ro E) base (st2.put p.o.dst v) (K (st2.put p.o.dst v)) (p::a5u j F)->
     a1v (std P A ro E) base st2 (b6b (std P A ro E) base F p st2 K) (a5u j F):=by
     intro st2 ag2 hk
     have tr: ∀r,r∈F->r.o.op.kl= .r->AgU r.o (st2.put p.o.dst v).ts st2.ts/\(∀t,r.o.dst=some t->a1x (st2.put p.o.dst v).ts t=a1x st2.ts t)/\
      ∀l,(∀s,s∈r.av->l≠base+s)->a1x st2.h l=a1x (st2.put p.o.dst v).h l:=
      fun r hr _=>⟨(AgU.put (hF r hr).d1).symm,fun t ht=>b0j fun e=>(hF r hr).d2 t e ht,fun l _=>by rw[a9z]⟩
     by_cases hp:p.o.op.kl= .r
     ·have hgp:gst p.o (st2.put p.o.dst v).ts=gst p.o st.ts:=by
       rw[<-a4o (AgU.put (st:=st2) (v:=v) hm.self),a4o ag2]
      have hk:=b8t (F:=F) hp hk (fun hg'=>by
       rw[hgp] at hg'
       rw[hund hg',d3u])
      obtain⟨v2,δ2,hδ2,_,⟨h1,h2⟩,hd2⟩:=det hm.am hk
      rcases hδ2 with rfl|⟨ha,_⟩
      ·refine a7z (fun hk=> ?_) h2 fun r hr=>tr r (b0z hr)
       refine hd2 (AgU.put hm.self).symm (fun _ l _=>by rw[a9z]) ?_
       have:eff st2 none p.o.dst v2=st2.put p.o.dst v:=by
        rw[<-h1]
        simp only[eff,d3u]
       rw[this]
       exact hk
      ·rw[hp] at ha;cases ha
     ·rw[a3l,if_neg hp] at hk
      refine a7z (fun hk=> ?_) hk fun r hr=>tr r (b0z hr)
      exact hd ag2 (fun h=>absurd h hp) hk
    cases pg with
    |cons x pg=>
     simp only at hk⊢
     rw[hm.al] at hk⊢
     simp only[Bool.false_eq_true,if_false] at hk⊢
     split at hk
     ·rename_i hlt
      rw[if_pos hlt]
      split at hk
      ·rename_i hcalm
       obtain⟨hc1,hc2⟩:=d6k hcalm p (by simp)
       have hcr:b0c (x::pg) st.ts (a5u j F)=true:=by
        rw[c4t (ts2:=(eff st none p.o.dst v).ts) fun r hr=> ?_]
        ·have h9:=hcalm
         simp only[b0c,hc1,hc2,if_true] at h9
         exact h9
        ·have hr:=hF r (b0z hr)
         rw[c3l]
         exact⟨AgU.put hr.d1,fun t ht=>(b0j fun e=>hr.d2 t e ht).symm⟩
       rw[if_pos hcr]
       have hag2:AgU p.o st.ts (((st.setH h').purge (x::pg)).put j.o.dst vj).ts:=by
        intro t ht
        rw[b0j (fun e=>hm.d1 t e ht),d6a]
        show a1x st.ts t=(a1x st.ts t).map _
        cases hv:a1x st.ts t with
        |none=>rfl
        |some u=>
         have hcl:a2y (x::pg) u=true:=by
          refine b7v hc1 t ht u ?_
          rw[c3l,b0j fun e=>hm.self t e ht];exact hv
         simp only[Option.map_some]
         rw[b1g (fun _ h=>h) hcl]
       have hst:((((eff st none p.o.dst v).setH h').purge (x::pg)).put j.o.dst vj)=(((st.setH h').purge (x::pg)).put j.o.dst vj).put p.o.dst v:=by
        simp only[eff,a8y]
        cases hpd:p.o.dst with
        |none=>rfl
        |some d=>
         by_cases hin: ∃u,a1x (st.put (some d) v).ts d=some u
         ·obtain⟨u,hu⟩:=hin
          have hcv:a2y (x::pg) v=true:=by
           have:=b9o hu
           subst this
           refine b7v hc2 d (by simp[f1c,hpd]) u ?_
           rw[c3l,hpd];exact hu
          rw[d3z hcv]
          exact a6w fun t ht=>hm.d3 t (by rw[hpd];exact ht)
         ·have hnone:st.ts.length<=d:=by
           refine Nat.le_of_not_lt fun hlt=>hin ⟨v,?_⟩
           simp[St.put,a0p,a0t,hlt]
          have e1: ∀(s2:St),s2.ts.length<=d->s2.put (some d) v=s2:=by
           intro s2 h
           cases s2
           simp only[St.put,a0t,St.mk.injEq,and_true]
           exact List.set_eq_of_length_le h
          rw[e1 (st.setH h') hnone,e1]
          have hl:((st.setH h').purge (x::pg)).ts.length=st.ts.length:=by rw[(a2t _ _).1];simp[St.setH]
          cases j.o.dst with
          |none=>show ((st.setH h').purge (x::pg)).ts.length<=d;omega
          |some dj=>simp only[St.put,a0t,List.length_set];omega
       rw[hst] at hk
       exact fin _ hag2 hk
      ·exact hk.elim
     ·exact hk.elim
    |nil=>
     simp only at hk⊢
     have e1:((eff st none p.o.dst v).setH h').put j.o.dst vj=((st.setH h').put j.o.dst vj).put p.o.dst v:=by
      simp only[eff,a8y]
      exact a6w hm.d3
     rw[e1] at hk
     exact fin _ (AgU.put hm.d1:AgU p.o (st.setH h').ts _) hk
   ·
    have hnr:p.o.op.kl≠ .r:=by rw[ha];simp
    have hslot:=hm.amm ha hj
    have hx: ∃sz x y l' off,j.o.op= .store sz x y/\opd st.ts x= .ptr l' off/\l'≠base+p.slot:=by
     have hav':=hav
     unfold c9k at hav'
     split at hav'
     ·rename_i e;rw[e] at hslot;simp at hslot
     ·split at hav'
      ·rename_i x hx
       obtain⟨sz,y,hst⟩:=f5o hj hx
       split at hav'
       ·rename_i l' off e3
        exact⟨sz,x,y,l',off,hst,e3,a7f hav' _ hslot⟩
       ·rw[hj] at hav';simp at hav'
       ·rw[hj] at hav';simp at hav'
       ·rw[hj] at hav';simp at hav'
       ·cases hav'
      ·cases hav'
    obtain⟨sz,x,y,l',off,hst,hx,hne⟩:=hx
    rw[b4z,<-a4p (mv:=st.mv) hag.opds,d8s,hst] at hk
    obtain⟨h',hlen,hk,hd3⟩:=c2b hx hne hk
    rw[hst]
    refine hd3 ?_
    simp only at hk⊢
    rw[a3l,if_neg hnr] at hk
    have e1:((eff st (some (base+p.slot,ob)) p.o.dst v).setH (a4x h' (base+p.slot) ob)).put j.o.dst .und=eff ((st.setH h').put j.o.dst .und) (some (base+p.slot,ob)) p.o.dst v:=by
     simp only[eff,a8y,a9z]
     exact a6w hm.d3
    rw[e1] at hk
    generalize hst2:(st.setH h').put j.o.dst .und=st2 at hk⊢
    have ag2:AgU p.o st.ts st2.ts:=by subst hst2;exact (AgU.put hm.d1:AgU p.o (st.setH h').ts _)
    refine a7z (fun hk=>hd ag2 (fun h=>absurd h hnr) hk) hk fun r hr hrk=> ?_
    have hr:=hF r (b0z hr)
    refine⟨(AgU.eff hr.d1).symm,fun t ht=> ?_,fun l hl=> ?_⟩
    ·rw[c3l];exact b0j fun e=>hr.d2 t e ht
    ·rw[d8s]
     simp only[a0p,a0t]
     rw[List.getElem?_set_ne]
     exact fun e=>hl p.slot (hr.av hrk ha) e.symm
  ·exact hk.elim
 ·rename_i hg
  refine hd (AgU.put hm.d1) (fun _ l _=>by rw[a9z]) ?_
  have:eff (st.put j.o.dst .und) δ p.o.dst v=(eff st δ p.o.dst v).put j.o.dst .und:=by
   have:=d0c (st:=st) (δ:=none) (δ':=δ) (d:=j.o.dst) (d':=p.o.dst) (v:= .und) (v':=v) (fun t ht e=>hm.d3 t e ht) (by rintro l ob l' ob' h _;cases h)
   exact this
  rw[this]
  exact hk
 ·exact hk
end
end Go.Vf
