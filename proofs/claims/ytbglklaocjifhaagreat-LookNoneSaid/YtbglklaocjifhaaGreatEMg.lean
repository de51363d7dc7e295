/- The executor's twentieth text: contracts, loops, and the rules of a proof. The executor's text on loops: rounds, loops over functions, and a round that is asked for. Conditions: none. -/
import Derived.Test.YtbglklaocjifhaaGreatEMf
import Derived.LoopNIn
open Option renaming some->AA,none->AD,bind_eq_some_iff->AN
open Option.some renaming injEq->AB
open Array renaming getElem?_eq_some_iff->AC,getElem?_push->AH
open Go.World renaming putObj_heap_other->AE,size_alloc->AX,putObj->AZ
open Go renaming Value->AF,undef->AK,wpIn_mono->AM,World->AS,LeavesInM->AU,callsIn_wide->AW,callsIn_of_wp_marks->AY,Deferred->Ab,Code->Ac,asAddr->Ad,FuncId->Ae,Func->Af
open Nat renaming le_refl->AG
open Go.Fence renaming wide->AI
open Go.Result renaming andThen_ok->AJ
open List renaming mapM_cons->AL,getElem?_eq_some_iff->AO,getElem?_cons_zero->AP,getElem?_cons_succ->AQ,pairwise_cons->AT
open Go.Sem renaming run_bind->AR,run_pure->Aa
set_option linter.unusedSimpArgs false
set_option linter.unusedVariables false
namespace Go.Vf
open Go
def c1d (S:Sig)(st:St):List c5p->(List AV->Prop)->Prop
 |[],K=>K []
 | .t i::rs,K=>c1d S st rs fun vs=>K (opd st.ts (.t i)::vs)
 | .c i ag::rs,K=>a8s S st.h (opd st.ts (.t i)) ag fun v=>c1d S st rs fun vs=>K (v::vs)
def a5t:List AV->AV
 |[v]=>v
 |vs=> .tuple vs
def a0x (x y:AV):Prop:= ∀(w:AS) (S:Nat->Prop) (ρ:Rho) (v:AF),VR w S ρ x v->VR w S ρ y v
theorem a0x.refl (x:AV):a0x x x:=fun _ _ _ _ h=>h
theorem a0x.sl {sz n:Nat}{e e':Nat->List DV}(h: ∀i,i<n->e i=e' i):a0x (.d (.sl sz n e)) (.d (.sl sz n e')):=by
 intro w S ρ v hv;cases hv with
 |d hd=>
  cases hd with
  |sl0 sz e a cap=>exact .d (.sl0 _ _ _ _)
  |sl sz n e b off cap f hb hc hl hv hr=>exact .d (.sl sz n e' b off cap f hb hc (fun i hi=>by rw[<-h i hi];exact hl i hi) hv (fun i hi j x hx=>hr i hi j x (by rw[h i hi];exact hx)))
theorem a0x.int {k:IntKind}{x y:IX}(h:x.val=y.val):a0x (.d (.int k x)) (.d (.int k y)):=by intro w S ρ v hv;rw[hv.int,h];exact .d (.int k y)
theorem a0x.cells {cs ds:List AV}(hl:cs.length=ds.length)(h: ∀(i:Nat) (x y:AV),cs[i]? =AA x->ds[i]? =AA y->a0x x y){w:AS}{S:Nat->Prop}{ρ:Rho}{vs:Array AF}
 (hv: ∀(i:Nat) (x:AV) (v:AF),cs[i]? =AA x->vs[i]? =AA v->VR w S ρ x v): ∀(i:Nat) (x:AV) (v:AF),ds[i]? =AA x->vs[i]? =AA v->VR w S ρ x v:=by
 intro i y v hy hu;have hlt:=(AO.1 hy).1;have hx:cs[i]? =AA (cs[i]'(by omega)):=List.getElem?_eq_getElem _;exact h i _ y hx hy w S ρ v (hv i _ v hx hu)
theorem a0x.agg {cs ds:List AV}(hl:cs.length=ds.length)(h: ∀(i:Nat) (x y:AV),cs[i]? =AA x->ds[i]? =AA y->a0x x y):a0x (.agg cs) (.agg ds):=by
 intro w S ρ v hv;cases hv with
 |agg _ vs h1 h2=>exact .agg ds vs (by omega) (a0x.cells hl h h2)
theorem a0x.tuple {cs ds:List AV}(hl:cs.length=ds.length)(h: ∀(i:Nat) (x y:AV),cs[i]? =AA x->ds[i]? =AA y->a0x x y):a0x (.tuple cs) (.tuple ds):=by
 intro w S ρ v hv;cases hv with
 |tuple _ vs h1 h2=>exact .tuple ds vs (by omega) (a0x.cells hl h h2)
inductive a3x:List AV->List AV->Prop
 |nil:a3x [] []
 |cons {x y:AV} {xs ys:List AV} (h:a0x x y) (hs:a3x xs ys):a3x (x::xs) (y::ys)
theorem a3x.get {xs ys:List AV}(h:a3x xs ys):xs.length=ys.length/\ ∀(i:Nat) (x y:AV),xs[i]? =AA x->ys[i]? =AA y->a0x x y:=by
 induction h with
 |nil=>simp
 |cons h hs ih=>
  refine⟨by simp[ih.1],fun i x y hx hy=> ?_⟩;cases i with
  |zero=>simp at hx hy;subst hx;subst hy;exact h
  |succ i=>simp at hx hy;exact ih.2 i x y hx hy
theorem a3x.agg {xs ys:List AV}(h:a3x xs ys):a0x (.agg xs) (.agg ys):=a0x.agg h.get.1 h.get.2
theorem a3x.tuple {xs ys:List AV}(h:a3x xs ys):a0x (.tuple xs) (.tuple ys):=a0x.tuple h.get.1 h.get.2
section
variable {P:Program} {A:Ann} {ro:Option Nat} {E:Ent} {st:St} {a:Act} {w:AS} {S:Nat->Prop} {ρ:Rho}
theorem c3z {pa:Addr}:(Ad (.pointer (AA pa))).run P w= .ok pa w:=rfl
theorem e3h {rs:List ResultVar}: ∀{irs:List c5p} {K:List AV->Prop},(rs.mapM fun| .tmp t=>AA (.t t)| .cell a t=>do pure (.c a (<-d3e P t)))=AA irs->Rel E st a w S ρ->c1d (std P A ro E) st irs K->
 ∃xs vs,K xs/\xs.length=vs.length/\(∀(i:Nat) (x:AV) (v:AF),xs[i]? =AA x->vs[i]? =AA v->VR w S ρ x v)/\
  (rs.mapM fun| .tmp t=>pure (a.tmps.getD t AK)| .cell x t=>do loadVar t (<-Ad (a.tmps.getD x AK)):Sem (List AF)).run P w= .ok vs w:=by
 induction rs with
 |nil=>intro irs K h hr hk;simp at h;subst h;exact⟨[],[],hk,rfl,by simp,by simp⟩
 |cons r rs ih=>
  intro irs K h hr hk;simp only[AL,Option.bind_eq_bind,AN,Option.pure_def,AB] at h;obtain⟨ir,hir,irs',hirs,rfl⟩:=h;cases r with
  |tmp t=>
   simp at hir;subst hir;simp only[c1d] at hk;obtain⟨xs,vs,hk,hl,hv,hrun⟩:=ih hirs hr hk;have h0:VR w S ρ (opd st.ts (.t t)) (a.tmps.getD t AK):=a0t (X:= .tmp t) hr.ts rfl;refine⟨_,a.tmps.getD t AK::vs,hk,by simp[hl],fun i x v hx hv'=> ?_,?_⟩
   ·cases i with
    |zero=>simp only[AP,AB] at hx hv';subst hx;subst hv';exact h0
    |succ i=>simp only[AQ] at hx hv';exact hv i x v hx hv'
   ·simp only[AL,AR,Aa,AJ,hrun]
  |cell x t=>
   simp only[AN,AB] at hir;obtain⟨ag,hag,rfl⟩:=hir;simp only[c1d] at hk;have h0:VR w S ρ (opd st.ts (.t x)) (a.tmps.getD x AK):=a0t (X:= .tmp x) hr.ts rfl;obtain⟨y,v,pa,hp,hlv,hvr,hk⟩:=c1s hr.sim h0 hag hk;obtain⟨xs,vs,hk,hl,hv,hrun⟩:=ih hirs hr hk;refine⟨_,v::vs,hk,by simp[hl],fun i z u hz hu=> ?_,?_⟩
   ·cases i with
    |zero=>simp only[AP,AB] at hz hu;subst hz;subst hu;exact hvr
    |succ i=>simp only[AQ] at hz hu;exact hv i z u hz hu
   ·simp only[AL,AR,hp,c3z,Aa,AJ,hlv,hrun]
theorem b7e {fn:Af}{irs:List c5p}{K:List AV->Prop}(h:b0m P fn=AA irs)(hr:Rel E st a w S ρ)(hk:c1d (std P A ro E) st irs K):
 ∃xs v,K xs/\(results fn a.tmps).run P w= .ok v w/\VR w S ρ (a5t xs) v/\
  ∃vs:List AF,xs.length=vs.length/\(∀(i:Nat) (x:AV) (v:AF),xs[i]? =AA x->vs[i]? =AA v->VR w S ρ x v)/\v=(if h:vs.toArray.size=1 then vs.toArray[0] else .tuple vs.toArray):=by
 obtain⟨xs,vs,hk,hl,hv,hrun⟩:=e3h h hr hk;refine⟨xs,_,hk,?_,?_,vs,hl,hv,rfl⟩
 ·have:(fn.results.mapM fun| .tmp t=>pure (a.tmps.getD t AK)| .cell x t=>do loadVar t (<-Ad (a.tmps.getD x AK)):Sem (Array AF)).run P w= .ok vs.toArray w:=by rw[Array.mapM_eq_mapM_toList];simp only[Sem.run_map,hrun,AJ]
  unfold results;simp only[AR];generalize hm:(Array.mapM _ fn.results:Sem (Array AF))=m;have h2:m.run P w= .ok vs.toArray w:=by rw[<-hm];exact this
  rw[h2];rfl
 ·match xs,vs,hl,hv with
  |[],[],_,_=>exact .tuple [] #[] rfl (by simp)
  |[x],[v],_,hv=>simpa [a5t] using hv 0 x v (by simp) (by simp)
  |x::y::xs,u::v::vs,hl,hv=>
   have: ¬(u::v::vs).toArray.size=1:=by simp
   rw[dif_neg this];exact .tuple _ _ (by simpa using hl) (fun i x v hx hv'=>hv i x v hx (by simpa using hv'))
def d8h (Sg:Sig)(irs:List c5p)(r:AV):Lv->St->Prop
 | .exit _,_=>False
 |_,st=>c1d Sg st irs fun vs=>a1w Sg st.h vs fun vs' _=>a3z vs'=true/\a0x (a5t vs') r
def a9g (args:List AV)(n:Nat):List AV:=a2u args (b8q .und n)
theorem c2q {args:List AV}{vs:Array AF}{h:List a0f}{n nt:Nat}(hs:Sim w S ρ h)(hv:VRs w S ρ args vs)(hn:nt=vs.size+n):
 Rel ⟨w,S,ρ,h.length,[]⟩ ⟨a9g args n,h,[]⟩ {tmps:=vs++Array.replicate (nt-vs.size) AK,defers:=[]} w S ρ where
 ts:=by
  rw[a9g,a0r,a7i];refine VRs.app hv ⟨by simp;omega,fun i x v hx hv=> ?_⟩;rw[List.getElem?_replicate] at hx;rw[Array.getElem?_replicate] at hv;split at hx
  ·cases hx;split at hv
   ·cases hv;exact .und
   ·cases hv
  ·cases hx
 ds:=b4p.nil _ _ _ _ _
 sim:=hs
 ext:= .refl _ _ _
 keep:=fun _ _ _=>rfl
 len:=AG _
theorem c0r {vs:List AV}(hf:a3z vs=true){us:List AF}(hl:vs.length=us.length)(hv: ∀(i:Nat) (x:AV) (v:AF),vs[i]? =AA x->us[i]? =AA v->VR w S ρ x v):
 VR w S a2j (a5t vs) (if h:us.toArray.size=1 then us.toArray[0] else .tuple us.toArray):=by
 have hv':=b4t hf hv
 match vs,us,hl,hv' with
 |[],[],_,_=>exact .tuple [] #[] rfl (by simp)
 |[x],[v],_,hv=>simpa [a5t] using hv 0 x v (by simp) (by simp)
 |x::y::xs,u::v::vs,hl,hv=>
  have: ¬(u::v::vs).toArray.size=1:=by simp
  rw[dif_neg this];exact .tuple _ _ (by simpa using hl) (fun i x v hx hv'=>hv i x v hx (by simpa using hv'))
theorem Rel.take {D:Nat}{ds:List Ab}(hr:Rel E st a w S ρ)(hm:d4q w S ρ E.w.heap.size D)(hds:b4p (w.putObj D (.deferred AD)) S ρ E.w.heap.size E.ds ds):
 Rel E st {a with defers:=ds} (w.putObj D (.deferred AD)) S ρ:=by
 have hne: ∀b,b≠D->(w.putObj D (.deferred AD)).heap[b]? =w.heap[b]? :=fun b hb=>AE hb;have hS: ∀b,S b->(w.putObj D (.deferred AD)).heap[b]? =w.heap[b]? :=fun b hb=>hne b fun e=>hm.imm (e▸hb);have hsz:(w.putObj D (.deferred AD)).heap.size=w.heap.size:=by simp[AZ]
 refine⟨⟨hr.ts.1,fun i x v hx hv=>(hr.ts.2 i x v hx hv).mono (fun _ h=>h) hS (fun _ _ h=>h)⟩,hds,⟨fun b hb=>by rw[hsz];exact hr.sim.sblk b hb,fun l ob C hl=> ?_,hr.sim.inj,hr.sim.own⟩,
  ⟨hr.ext.os,hr.ext.tape,hr.ext.output,by rw[hsz];exact hr.ext.size,hr.ext.mono,fun b hb=>(hS b (hr.ext.mono b hb)).trans (hr.ext.cell b hb),hr.ext.news,fun b hb hn=>(hne b fun e=> ?_).trans (hr.ext.frame b hb hn),hr.ext.owned⟩,hr.keep,hr.len⟩
 ·obtain⟨oo,h1,h2⟩:=hr.sim.obj l ob C hl;refine⟨oo,h1,?_⟩;cases ob with
  |none=>exact h2
  |some b=>exact a0z.mono (fun _ h=>h) hS (fun _ _ h=>h) (hne b fun e=>hm.out l C (e▸hl)) h2
 ·have:=hm.new;omega
theorem d1v {fn:Af}{R:Ending->AS->Prop}(hE:E.ds=[]): ∀(Ds:List Nat) {a:Act} {w:AS},Rel E st a w S ρ->a.defers=Ds.map (fun D=>{target:= .collected D,args:= #[]})->(∀D,D∈Ds->d4q w S ρ E.w.heap.size D)->Ds.Pairwise (· ≠ ·)->
 (∀(a':Act) (w':AS),Rel E st a' w' S ρ->a'.tmps=a.tmps-> ∃v,(results fn a'.tmps).run P w'= .ok v w'/\R (.returned v) w')->AU AI 0 P fn a.tmps R a.defers .returning w:=by
 intro Ds
 induction Ds with
 |nil=>intro a w hr hd _ _ fin;rw[hd];obtain⟨v,h1,h2⟩:=fin a w hr rfl;exact⟨v,h1,h2⟩
 |cons D Ds ih=>
  intro a w hr hd hm hp fin;have hp:=AT.1 hp;have hmD:=hm D (by simp);have hlt:D<w.heap.size:=(AC.1 hmD.obj).1;have hms: ∀D',D'∈Ds->d4q (w.putObj D (.deferred AD)) S ρ E.w.heap.size D':=fun D' hD'=>by have h1:=hm D' (by simp[hD']);exact⟨(AE (Ne.symm (hp.1 D' hD'))).trans h1.obj,h1.new,h1.out,h1.imm⟩
  have hr':Rel E st {a with defers:=Ds.map (fun D=>{target:= .collected D,args:= #[]})} (w.putObj D (.deferred AD)) S ρ:=hr.take hmD ⟨Ds,by rw[hE];simp,hms,hp.2⟩;have:=ih hr' rfl hms hp.2 fin;rw[hd];exact⟨by simp,.inl ⟨D,_,rfl,run_takeDeferred hmD.obj,this⟩⟩
theorem Rel.leaves {fn:Af}{R:Ending->AS->Prop}(hE:E.ds=[])(hr:Rel E st a w S ρ)(fin: ∀(a':Act) (w':AS),Rel E st a' w' S ρ->a'.tmps=a.tmps-> ∃v,(results fn a'.tmps).run P w'= .ok v w'/\R (.returned v) w'):
 AU AI 0 P fn a.tmps R a.defers .returning w:=by
 obtain⟨Ds,h1,h2,h3⟩:=hr.ds;exact d1v hE Ds hr (by rw[h1,hE];simp) h2 h3 fin
theorem b1p {f:Ae}{fn:Af}{c:Ac}{ic:a0c}{irs:List c5p}{args:List AV}{r:AV}{n:Nat}(hm:P.follows .mixedOrders=true)(hok:OkP P)(hf:P.funcs[f]? =AA fn)(hb:fn.body=AA c)(hname:fn.name≠ "runtime.NumGoroutine")
 (A:Ann) (hc:comp P A c=AA ic) (hres:b0m P fn=AA irs) (hn:fn.ntmps=args.length+n)
 (h: ∀(E:Ent) (Sg:Sig),E.base=0->Sg=std P A AD E->ev Sg ic (d8h Sg irs r) ⟨a9g args n,[],[]⟩):a0j P false f args r:=by
 refine⟨⟨fn,hf,hname,by rw[hb];simp⟩,fun w S vs hS hv=> ?_⟩;have hs:Sim w S a2j []:=⟨hS,fun _ _ _ h=>(by cases h),fun _ _ _ _ _ h=>(by cases h),fun _ _ _ _ h=>(by cases h)⟩;have hr:=c2q (h:=[]) (n:=n) (nt:=fn.ntmps) hs hv (by rw[hn,hv.1]);have hev:=a4x (ro:=AD) hm hok c ic hc (h ⟨w,S,a2j,0,[]⟩ _ rfl rfl) _ w S a2j hr;refine AW (n:=0)|>.1 (AY hf hb trivial (AM hev fun e a' w' hp=> ?_))
 obtain⟨lv,st',S',ρ',h1,h2,h3⟩:=hp;have key: ∀{lv:Lv},(∀i,lv≠ .exit i)->d8h (std P A AD ⟨w,S,a2j,0,[]⟩) irs r lv st'->
  AU AI 0 P fn a'.tmps (fun e w'=> ∃v1 S',e= .returned v1/\VR w' S' a2j r v1/\(∀b,S' b->(false=false/\S b)\/(w.heap.size<=b/\b<w'.heap.size))/\d6d w w') a'.defers .returning w':=by
  intro lv hne hq;have hq:c1d (std P A AD ⟨w,S,a2j,0,[]⟩) st' irs fun vs=>a1w (std P A AD ⟨w,S,a2j,0,[]⟩) st'.h vs fun vs' _=>a3z vs'=true/\a0x (a5t vs') r:=by
   cases lv with
   |exit i=>exact absurd rfl (hne i)
   |normal=>exact hq
   |ret=>exact hq
  refine h3.leaves rfl fun a2 w2 h3 _=> ?_;obtain⟨xs,v,hk,hrun,_,us,hl,hv',rfl⟩:=b7e hres h3 hq;obtain⟨xs',h',S2,⟨hfr,hlike⟩,k,hl2,hv2⟩:=b1x h3.sim hl hv' hk;have e2:=h3.ext.trans k.chg.ext;refine⟨_,hrun,_,S2,rfl,hlike _ _ _ _ (c0r hfr hl2 hv2),fun b hb=> ?_,⟨h3.ext.os,h3.ext.tape,h3.ext.output,h3.ext.size,fun b hb=>h3.ext.frame b hb (fun l C h=>by cases h)⟩⟩;rcases e2.news b hb with h|h|⟨l,C,h⟩
  ·exact .inl ⟨rfl,h⟩
  ·exact .inr ⟨h,k.sim.sblk b hb⟩
  ·cases h
 cases lv with
 |exit i=>exact h2.elim
 |normal=>cases e<;>simp[a9d] at h1;exact key (by simp) h2
 |ret=>cases e<;>simp[a9d] at h1;exact key (by simp) h2
def d4j (Sg:Sig)(irs:List c5p)(base:Nat)(K:List Nat->AV->List a0f->Prop):Lv->St->Prop
 | .exit _,_=>False
 |_,st=>c1d Sg st irs fun vs=> ∃pg,(∀l,l<base->l∈st.mv->l∈pg)/\K pg (a5t vs) st.h
theorem b0s {f:Ae}{fn:Af}{c:Ac}{ic:a0c}{irs:List c5p}{args:List AV}{h0:List a0f}{K:List Nat->AV->List a0f->Prop}{n:Nat}(hm:P.follows .mixedOrders=true)(hok:OkP P)(hf:P.funcs[f]? =AA fn)(hb:fn.body=AA c)(hname:fn.name≠ "runtime.NumGoroutine")
 (A:Ann) (hc:comp P A c=AA ic) (hres:b0m P fn=AA irs) (hn:fn.ntmps=args.length+n)
 (h: ∀(E:Ent) (Sg:Sig),E.base=h0.length->Sg=std P A AD E->ev Sg ic (d4j Sg irs h0.length K) ⟨a9g args n,h0,[]⟩):a1h P f args h0 K:=by
 refine⟨⟨fn,hf,hname,by rw[hb];simp⟩,fun w S ρ0 vs hs hv=> ?_⟩;have hr:=c2q (h:=h0) (n:=n) (nt:=fn.ntmps) hs hv (by rw[hn,hv.1]);have hev:=a4x (ro:=AD) hm hok c ic hc (h ⟨w,S,ρ0,h0.length,[]⟩ _ rfl rfl) _ w S ρ0 hr;refine AW (n:=0)|>.1 (AY hf hb trivial (AM hev fun e a' w' hp=> ?_))
 obtain⟨lv,st',S',ρ',h1,h2,h3⟩:=hp;have key: ∀{lv:Lv},(∀i,lv≠ .exit i)->d4j (std P A AD ⟨w,S,ρ0,h0.length,[]⟩) irs h0.length K lv st'->
  AU AI 0 P fn a'.tmps (fun e w'=> ∃v x pg h' S' ρ',e= .returned v/\K pg x h'/\VR w' S' ρ' x v/\Sim w' S' ρ' h'/\Ext w S ρ0 w' S' ρ'/\h0.length<=h'.length/\ ∀l,l<h0.length->l∉pg->ρ' l=ρ0 l) a'.defers .returning w':=by
  intro lv hne hq;have hq:c1d (std P A AD ⟨w,S,ρ0,h0.length,[]⟩) st' irs fun vs=> ∃pg,(∀l,l<h0.length->l∈st'.mv->l∈pg)/\K pg (a5t vs) st'.h:=by
   cases lv with
   |exit i=>exact absurd rfl (hne i)
   |normal=>exact hq
   |ret=>exact hq
  refine h3.leaves rfl fun a2 w2 h3 _=> ?_;obtain⟨xs,v,⟨pg,hpg,hk⟩,hrun,hvr,_⟩:=b7e hres h3 hq;exact⟨_,hrun,v,_,pg,st'.h,S',ρ',rfl,hk,hvr,h3.sim,h3.ext,h3.len,fun l hl hn=>h3.keep l hl fun hmem=>hn (hpg l hl hmem)⟩
 cases lv with
 |exit i=>exact h2.elim
 |normal=>cases e<;>simp[a9d] at h1;exact key (by simp) h2
 |ret=>cases e<;>simp[a9d] at h1;exact key (by simp) h2
end
def b4o (S:Sig):Nat->a0c->(Lv->St->Prop)->St->Prop
 |0,_,_,_=>False
 |m+1,c,Q,st=>ev S c (fun lv st'=>match lv with
  | .normal=>b4o S m c Q st'
  | .exit i=>Q (.exit i) st'
  | .ret=>Q .ret st') st
section
variable {P:Program} {A:Ann} {ro:Option Nat} {E:Ent} {st:St} {a:Act} {w:AS} {S:Nat->Prop} {ρ:Rho} {Q:Lv->St->Prop}
theorem b2n (hm:P.follows .mixedOrders=true)(hok:OkP P){m:Nat}{ic:a0c}(h:b4o (std P A ro E) m ic Q st):(std P A ro E).loop ic Q st:=by
 intro c hc a w S ρ hr;refine wpIn_loop_rounds m ?_
 induction m generalizing st a w S ρ with
 |zero=>exact h.elim
 |succ m ih=>
  refine AM (a4x hm hok c ic hc h a w S ρ hr) fun e a' w' hp=> ?_;obtain⟨lv,st',S',ρ',h1,h2,h3⟩:=hp;cases lv with
  |normal=>cases e<;>simp[a9d] at h1;exact ih h2 a' w' S' ρ' h3
  |exit i=>cases e<;>simp[a9d] at h1;subst h1;exact⟨_,st',S',ρ',rfl,h2,h3⟩
  |ret=>cases e<;>simp[a9d] at h1;exact⟨_,st',S',ρ',rfl,h2,h3⟩
def b2p:List Nat->List AV->List AV->List AV
 |p::ps,v::vs,ts=>b2p ps vs (a2x ts p v)
 |_,_,ts=>ts
theorem d7l {ps:List Nat}: ∀{xs:List AV} {vs:List AF} {ts:List AV} {tmps:Array AF},xs.length=vs.length->ps.length=xs.length->(∀(i:Nat) (x:AV) (v:AF),xs[i]? =AA x->vs[i]? =AA v->VR w S ρ x v)->VRs w S ρ ts tmps->
 VRs w S ρ (b2p ps xs ts) ((ps.zip vs).foldl (fun tmps (t,a)=>tmps.setIfInBounds t a) tmps):=by
 induction ps with
 |nil=>intro xs vs ts tmps _ _ _ h;simpa [b2p] using h
 |cons p ps ih=>
  intro xs vs ts tmps hl hp hv h
  match xs,vs,hl,hp with
  |x::xs,v::vs,hl,hp=>
   simp only[b2p,List.zip_cons_cons,List.foldl_cons];refine ih (by simpa using hl) (by simpa using hp) (fun i x v hx hv'=>hv (i+1) x v (by simpa using hx) (by simpa using hv')) ⟨by simpa [a0l] using h.1,fun i y u hy hu=> ?_⟩;rw[a0l] at hy;by_cases e:i=p
   ·subst e;rw[List.getElem?_set] at hy;rw[Array.getElem?_setIfInBounds] at hu;simp at hy hu;obtain⟨_,rfl⟩:=hy;obtain⟨_,rfl⟩:=hu;exact hv 0 _ _ rfl rfl
   ·rw[List.getElem?_set_ne (Ne.symm e)] at hy;rw[Array.getElem?_setIfInBounds_ne (Ne.symm e)] at hu;exact h.2 i y u hy hu
def b5b (l base:Nat)(K:List Nat->AV->List a0f->Prop):Lv->St->Prop:=fun lv st=>
 l∉st.mv/\ ∃ts ps code,a1a st.h l=AA (.loop .busy ts ps code)/\ ∃pg,(∀m,m<base->m∈st.mv->m∈pg)/\(match lv with
  | .normal=>K pg (.d (.bool true)) (a2x st.h l (.loop .ready ts ps code))
  | .exit i=>K pg (.d (.bool false)) (a2x st.h l (.loop (.done (.exit i)) ts ps code))
  | .ret=>K pg (.d (.bool false)) (a2x st.h l (.loop (.done .ret) ts ps code)))
theorem a7l {h:List a0f}(hs:Sim w S ρ h){l b C:Nat}(hρ:ρ l=AA (AA b,C)){s s':LSt}{ts:List AV}{ps:List Nat}{code:Ac->Ac->Prop}(hl:h[l]? =AA (.loop s ts ps code)):
 ∃r:Loop,w.heap[b]? =AA (.loop r)/\r.state=s.state/\r.pending=s.pend/\r.params.toList=ps/\code r.assign r.body/\VRs w S ρ ts r.tmps/\
  Chg w S ρ h (w.putObj b (.loop {r with state:=s'.state,pending:=s'.pend})) S ρ (h.set l (.loop s' ts ps code)) []:=by
 obtain⟨oo,h1,h2⟩:=hs.obj l _ C hρ;rw[hl] at h1;cases h1;obtain⟨r,h3,h4,h5,h6,h7,h8,h9⟩:=h2;have hlt:b<w.heap.size:=(AC.1 h3).1;have hne: ∀k,k≠b->(w.putObj b (.loop {r with state:=s'.state,pending:=s'.pend})).heap[k]? =w.heap[k]? :=fun k hk=>AE hk;have hS: ∀k,S k->(w.putObj b (.loop {r with state:=s'.state,pending:=s'.pend})).heap[k]? =w.heap[k]? :=fun k hk=>hne k fun e=>hs.own l b C _ hρ hl rfl (e▸hk);refine⟨r,h3,h4,h5,h6,h7,⟨h8.symm,h9⟩,Chg.set hs hρ hl rfl rfl ⟨rfl,AG _⟩ rfl (by simp[AZ]) hne ⟨_,World.putObj_heap_same hlt,rfl,rfl,h6,h7,h8,fun i x v hx hv=>(h9 i x v hx hv).mono (fun _ h=>h) hS (fun _ _ h=>h)⟩⟩
theorem b9t (hm:P.follows .mixedOrders=true)(hok:OkP P){l:Nat}{args:List AV}{h:List a0f}{K:List Nat->AV->List a0f->Prop}{ts:List AV}{ps:List Nat}{code:Ac->Ac->Prop}{ia ib:a0c}
 (hl:a1a h l=AA (.loop .ready ts ps code)) (hcode: ∀ca cb,code ca cb->comp P A ca=AA ia/\comp P A cb=AA ib) (hps:ps.length=args.length)
 (hev: ∀(ro:Option Nat) (E:Ent) (Sg:Sig),Sg=std P A ro E->ev Sg ia (fun lv st=>lv= .normal/\l∉st.mv/\ ∃ts ps code,a1a st.h l=AA (.loop .ready ts ps code)/\
   ev Sg ib (b5b l h.length K) ⟨st.ts,a2x st.h l (.loop .busy ts ps code),st.mv⟩) ⟨b2p ps args ts,h,[]⟩):b5d P l args h K:=by
 intro w S ρ vs b C hs hv hρ;rw[a0i] at hl;have hlt:l<h.length:=(AO.1 hl).1;obtain⟨r,h3,h4,h5,h6,h7,h8,_⟩:=a7l (s':= .ready) hs hρ hl;obtain⟨c1,c2⟩:=hcode _ _ h7;have hpsz:vs.size=r.params.size:=by rw[<-hv.1,<-hps,<-h6];simp
 refine⟨r.fn,_,r.assign,r.body,run_yield h3 hpsz,?_⟩;have hro:(AI.inRound b)=a3i (AA b):=rfl;have hts:VRs w S ρ (b2p ps args ts) ((r.params.zip vs).foldl (fun tmps (t,a)=>tmps.setIfInBounds t a) r.tmps):=by have:=d7l (ps:=ps) (xs:=args) (vs:=vs.toList) (by simpa using hv.1) hps (fun i x v hx hv'=>hv.2 i x v hx (by simpa using hv')) h8;subst h6;rw[<-Array.foldl_toList,Array.toList_zip];exact this
 have hr:Rel ⟨w,S,ρ,h.length,[]⟩ ⟨b2p ps args ts,h,[]⟩ {tmps:=(r.params.zip vs).foldl (fun tmps (t,a)=>tmps.setIfInBounds t a) r.tmps,defers:=[]} w S ρ:=
  ⟨hts,b4p.nil _ _ _ _ _,hs,.refl _ _ _,fun _ _ _=>rfl,AG _⟩
 refine roundIn_of_wpIn trivial ?_;rw[hro];refine AM (a4x (ro:=AA b) hm hok r.assign ia c1 (hev (AA b) ⟨w,S,ρ,h.length,[]⟩ _ rfl) _ w S ρ hr) fun e a1 w1 hp=> ?_;obtain⟨lv,st1,S1,ρ1,g1,⟨rfl,hnm,ts1,ps1,code1,g2,g3⟩,g4⟩:=hp;cases e<;>simp[a9d] at g1;rw[a0i] at g2;have hρ1:ρ1 l=AA (AA b,C):=(g4.keep l hlt hnm).trans hρ;obtain⟨r1,q3,q4,q5,q6,q7,q8,chg⟩:=a7l (s':= .busy) g4.sim hρ1 g2;have hr1:({r1 with state:=LSt.busy.state,pending:=LSt.busy.pend}:Loop)={r1 with state:= .busy}:=by cases r1;simp[LSt.pend] at q5;subst q5;rfl
 rw[hr1] at chg;refine⟨_,run_beginRound q3 q4,?_⟩;have hr2:=g4.step chg AD (x:= .any) (v:=AK) (.any _);have g3:ev (std P A (AA b) ⟨w,S,ρ,h.length,[]⟩) ib (b5b l h.length K) (((st1.setH (st1.h.set l (.loop .busy ts1 ps1 code1))).purge []).put AD .any):=by rw[<-a0l];exact g3
 refine AM (a4x (ro:=AA b) hm hok r.body ib c2 g3 _ _ _ _ hr2) fun e a2 w2 hp=> ?_;obtain⟨lv,st2,S2,ρ2,k1,⟨hnm2,ts2,ps2,code2,k2,pg,k3,k4⟩,k5⟩:=hp;rw[a0i] at k2;simp only[a0l] at k4;have hρ2:ρ2 l=AA (AA b,C):=(k5.keep l hlt hnm2).trans hρ;have fin: ∀(s':LSt) (bo:Bool) (jump:Option Ac),s'.state=(if jump.isNone then .ready else .done)->s'.pend=jump->bo=jump.isNone->K pg (.d (.bool bo)) (st2.h.set l (.loop s' ts2 ps2 code2))->
  ∃v w',(Instr.endRound b jump).run P w2= .ok v w'/\(fun e w'=> ∃v x pg h' S' ρ',e=Ending.returned v/\K pg x h'/\VR w' S' ρ' x v/\Sim w' S' ρ' h'/\Ext w S ρ w' S' ρ'/\h.length<=h'.length/\ ∀l,l<h.length->l∉pg->ρ' l=ρ l) (.returned v) w':=by
  intro s' bo jump e1 e2 e3 hk;obtain⟨r2,m3,m4,m5,m6,m7,m8,chg2⟩:=a7l (s':=s') k5.sim hρ2 k2;rw[e1,e2] at chg2;refine⟨_,_,run_endRound jump m3,_,_,pg,_,S2,ρ2,rfl,hk,?_,chg2.sim,k5.ext.trans chg2.ext,Nat.le_trans k5.len chg2.len,fun m hm' hpg=>k5.keep m hm' fun hmem=>hpg (k3 m hm' hmem)⟩;rw[e3];exact .d (.bool _)
 cases lv with
 |normal=>cases e<;>simp[a9d] at k1;exact fin .ready true AD rfl rfl rfl k4
 |exit i=>cases e<;>simp[a9d] at k1;subst k1;exact fin (.done (.exit _)) false (AA (.exit _)) rfl rfl rfl k4
 |ret=>cases e<;>simp[a9d] at k1;exact fin (.done .ret) false (AA .ret) rfl rfl rfl k4
def b4r (l:Nat)(ts:List AV)(mv:List Nat)(Q:Lv->St->Prop)(pg:List Nat)(h:List a0f):Prop:=
 l∉pg/\ ∃s ts0 ps code,a1a h l=AA (.loop s ts0 ps code)/\(match s with
  | .ready=>Q .normal ((St.mk ts (a2x h l (.loop (.over .normal) ts0 ps code)) mv).purge pg)
  | .done .ret=>Q .ret ((St.mk ts (a2x h l (.loop (.over .ret) ts0 ps code)) mv).purge pg)
  | .done (.exit i)=>Q (.exit i) ((St.mk ts (a2x h l (.loop (.over (.exit i)) ts0 ps code)) mv).purge pg)
  |_=>False)
theorem c3w (o:Obj):d6d w (w.alloc o):=⟨rfl,⟨rfl,AG _⟩,rfl,by rw[AX];omega,fun b hb=>by show (w.heap.push o)[b]? =_;rw[AH,if_neg (by omega)]⟩
theorem b9s {f:a0h}{ps:List Nat}{ia ib:a0c}{g:Ae}{first cap:List AV}(hf:opd st.ts f= .fn g first cap)
 (h:a1h P g (AV.normL (a2u first (a2u [.yl (a3q st.h)] cap))) (a2u st.h [.loop .ready st.ts ps (fun ca cb=>comp P A ca=AA ia/\comp P A cb=AA ib)]) fun pg _ h2=>b4r (a3q st.h) st.ts st.mv Q pg h2):
 (std P A AD E).range f ps ia ib Q st:=by
 intro f' ps' a' b' hf' hps' ha' hb' a w S ρ hr;subst hps';have h0:=a0t hr.ts hf';rw[hf] at h0;generalize hv:a.eval f'=v at h0;cases h0 with
 |fn _ _ _ us cs hl1 h1 hl2 h2=>
  obtain⟨hent,hcall⟩:=h;obtain⟨fn0,e1,e2,e3⟩:=hent;refine wpIn_rangeFunc (n:=0) fun fn hfn=> ?_;rw[a0u,a0r,a0r,a0r] at hcall;have hsz:(w.alloc (.deferred (AA []))).heap.size=w.heap.size+1:=AX _ _;have c1:=b5v (S1:=fun _=>False) hr.sim (fun _ h=>h.elim) (c3w (w:=w) (.deferred (AA [])));have hSS:(fun b=>S b\/False)=S:=by funext b;simp
  rw[hSS] at c1;have r1:=hr.step c1 AD (x:= .any) (v:=AK) (.any _);have r1:Rel E st a (w.alloc (.deferred (AA []))) S ρ:=r1;have mk1:d4q (w.alloc (.deferred (AA []))) S ρ E.w.heap.size w.heap.size:=⟨World.alloc_heap_new w _,hr.ext.size,fun l C hl=>by have:=hr.sim.blk hl;omega,fun hs=>by have:=hr.sim.sblk _ hs;omega⟩;obtain⟨rec,hrec⟩: ∃rec:Loop,rec={state:= .ready,pending:=AD,fn:=fn,tmps:=a.tmps,params:=ps',assign:=a',body:=b',defers:=w.heap.size}:=⟨_,rfl⟩;have c2:=Chg.new (S:=S) (ρ:=ρ) (h:=st.h) r1.sim (hr.sim.fresh (AG _)) (.loop rec)
   (.loop .ready st.ts ps'.toList (fun ca cb=>comp P A ca=AA ia/\comp P A cb=AA ib)) 0 (fun w' hw'=>⟨rec,by rw[hw',AH,if_pos rfl],by rw[hrec];rfl,by rw[hrec];rfl,by rw[hrec],by rw[hrec];exact⟨ha',hb'⟩,by rw[hrec];exact r1.ts.1.symm,fun i x v hx hv=>(r1.ts.2 i x v hx (by rw[hrec] at hv;exact hv)).mono (fun _ h=>h) (fun b hb=>by
     rw[hw',AH,if_neg];have:=r1.sim.sblk b hb;omega) (fun _ _ h=>h)⟩)
  have hent2:(Instr.enterLoop fn a.tmps ps' a' b' (a3i AD).round).run P w= .ok (w.heap.size+1,[{target:= .collected w.heap.size,args:= #[]}]) ((w.alloc (.deferred (AA []))).alloc (.loop rec)):=by rw[hrec];exact run_enterLoop_outer _ _ _ _ _
  have hw2:({(w.alloc (.deferred (AA []))) with heap:=(w.alloc (.deferred (AA []))).heap.push (.loop rec)}:AS)=(w.alloc (.deferred (AA []))).alloc (.loop rec):=rfl;rw[hw2,hsz] at c2;have hcf:(callFunc g (us++ #[.func (.yield (w.heap.size+1)) #[] #[]]++cs)).run P ((w.alloc (.deferred (AA []))).alloc (.loop rec))= .ok (.enter g (us++ #[.func (.yield (w.heap.size+1)) #[] #[]]++cs)) ((w.alloc (.deferred (AA []))).alloc (.loop rec)):=by simp[callFunc,e1,e2,e3]
  refine⟨w.heap.size+1,_,_,{target:= .fn (.func g) cs,args:=us++ #[.func (.yield (w.heap.size+1)) #[] #[]]},(w.alloc (.deferred (AA []))).alloc (.loop rec),g,us++ #[.func (.yield (w.heap.size+1)) #[] #[]]++cs,(w.alloc (.deferred (AA []))).alloc (.loop rec),hent2,?_,fun f2 _=>trivial,?_,(fun hd=>by cases hd),?_⟩
  ·have hcst: ∀v,a.eval (.const v)=v:=fun _=>rfl;simp[resolve,hv,hcst,Deferred.ofValue]
  ·simp only[invoke];exact hcf
  ·have hlen:st.h.length<(st.h++[a0f.loop .ready st.ts ps'.toList (fun ca cb=>comp P A ca=AA ia/\comp P A cb=AA ib)]).length:=by simp
   have hvs:VRs ((w.alloc (.deferred (AA []))).alloc (.loop rec)) S (fun m=>if m=st.h.length then AA (AA (w.heap.size+1),0) else ρ m) (AV.normL (first++([.yl st.h.length]++cap))) (us++ #[.func (.yield (w.heap.size+1)) #[] #[]]++cs):=by
    have mono: ∀{x:AV} {v:AF},VR w S ρ x v->VR ((w.alloc (.deferred (AA []))).alloc (.loop rec)) S (fun m=>if m=st.h.length then AA (AA (w.heap.size+1),0) else ρ m) x v:=
     fun h=>h.mono (fun _ h=>h) (c1.ext.trans c2.ext).cell fun m p hp=>c2.keep m p (by simp) hp
    rw[<-List.append_assoc];refine VRs.norm (VRs.app (VRs.app ⟨hl1,fun i x v hx hv=>mono (h1 i x v hx hv)⟩ ⟨rfl,fun i x v hx hv=> ?_⟩) ⟨hl2,fun i x v hx hv=>mono (h2 i x v hx hv)⟩);cases i with
    |zero=>simp at hx hv;subst hx;subst hv;exact .yl _ (w.heap.size+1) 0 (if_pos rfl)
    |succ i=>simp at hx
   refine (AW (n:=0-1)|>.2 (hcall _ S _ _ c2.sim hvs)).mono fun e w3 hp=> ?_;obtain⟨v,x,pg,h3,S',ρ',rfl,⟨hnp,s,ts0,ps0,code0,g1,g2⟩,gvr,gsim,gext,glen,glow⟩:=hp;rw[a0i] at g1;have hρl:ρ' st.h.length=AA (AA (w.heap.size+1),0):=(glow _ hlen hnp).trans (if_pos rfl);have glow2: ∀m,m<st.h.length->m∉pg->ρ' m=ρ m:=fun m hm' hpg=>(glow m (by omega) hpg).trans (if_neg (by omega));have fin: ∀(lv:Lv),s.pend=lv.jump->s.state≠ .busy->Q lv ((St.mk st.ts (a2x h3 st.h.length (.loop (.over lv) ts0 ps0 code0)) st.mv).purge pg)->
    ∃w4,(Instr.endLoop (w.heap.size+1)).run P w3= .ok lv.jump w4/\ ∀(ex:Exit),a9d ex=AA lv->c7n E Q ex {a with defers:=[{target:= .collected w.heap.size,args:= #[]}]++a.defers} w4:=by
    intro lv hpd hst hq;obtain⟨r,m3,m4,m5,m6,m7,m8,chg⟩:=a7l (s':= .over lv) gsim hρl g1;have hrr:({r with state:=(LSt.over lv).state,pending:=(LSt.over lv).pend}:Loop)={r with state:= .exhausted}:=by
     have:(LSt.over lv).pend=r.pending:=by rw[m5,hpd];rfl
     rw[this];rfl
    rw[hrr] at chg;have hrun:(Instr.endLoop (w.heap.size+1)).run P w3= .ok lv.jump (w3.putObj (w.heap.size+1) (.loop {r with state:= .exhausted})):=by have e:r.pending=lv.jump:=m5.trans hpd;rw[run_endLoop (P:=P) m3 (by rw[m4];exact hst),e]
    refine⟨_,hrun,fun ex hex=>⟨lv,_,S',ρ',hex,hq,?_⟩⟩;have tot:Chg w S ρ st.h (w3.putObj (w.heap.size+1) (.loop {r with state:= .exhausted})) S' ρ' (h3.set st.h.length (.loop (.over lv) ts0 ps0 code0)) pg:=
     ⟨chg.sim,by simp at glen⊢;omega,((c1.ext.trans c2.ext).trans gext).trans chg.ext,fun m p hmp hp=>by
       have hlt:m<st.h.length:=Nat.lt_of_not_le fun hle=>by rw[hr.sim.fresh hle] at hp;cases hp
       rw[glow2 m hlt hmp];exact hp,glow2⟩
    have rr:=hr.step tot AD (x:= .any) (v:=AK) (.any _);rw[a0l];have rr:Rel E ((St.mk st.ts (h3.set st.h.length (.loop (.over lv) ts0 ps0 code0)) st.mv).purge pg) a (w3.putObj (w.heap.size+1) (.loop {r with state:= .exhausted})) S' ρ':=rr;refine⟨rr.ts,?_,rr.sim,rr.ext,rr.keep,rr.len⟩;obtain⟨Ds,d1,d2,d3⟩:=rr.ds;obtain⟨Ds0,d4,d5,d6⟩:=hr.ds;have hDs:Ds=Ds0:=by
     have h5:=d1.symm.trans d4;have h6:=List.append_cancel_right h5;have inj: ∀(l1 l2:List Nat),l1.map (fun D=>({target:= .collected D,args:= #[]}:Ab))=l2.map (fun D=>({target:= .collected D,args:= #[]}:Ab))->l1=l2:=by
      intro l1
      induction l1 with
      |nil=>intro l2 h;cases l2 with|nil=>rfl|cons y l2=>simp at h
      |cons x l1 ih=>
       intro l2 h;cases l2 with
       |nil=>simp at h
       |cons y l2=>simp at h;rw[h.1,ih l2 (by simpa using h.2)]
     exact inj _ _ h6
    subst hDs;refine⟨w.heap.size::Ds,by rw[d1];rfl,fun D hD=> ?_,AT.2 ⟨fun D hD=> ?_,d3⟩⟩
    ·rcases List.mem_cons.1 hD with rfl|hD
     ·exact mk1.ext ((c2.ext.trans gext).trans chg.ext)
     ·exact d2 D hD
    ·have:=(AC.1 (d5 D hD).obj).1;omega
   split at g2
   ·obtain⟨w4,h4,h5⟩:=fin .normal rfl (by simp[LSt.state]) g2;exact⟨AD,w4,h4,h5 .normal rfl⟩
   ·obtain⟨w4,h4,h5⟩:=fin .ret rfl (by simp[LSt.state]) g2;exact⟨AA .ret,w4,h4,wpIn_ret (h5 .ret rfl)⟩
   ·obtain⟨w4,h4,h5⟩:=fin (.exit _) rfl (by simp[LSt.state]) g2;exact⟨AA (.exit _),w4,h4,wpIn_exit (h5 (.exit _) rfl)⟩
   ·exact g2.elim
end
end Go.Vf
