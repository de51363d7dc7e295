/- A round that meets a part of the memory. Conditions: none. -/
import Derived.Test.YtbglklaocjifhaaGreatFNb
import Derived.ChangeArms
import Derived.DataReads
open List renaming getElem?_eq_some_iff->AA,getElem?_eq_getElem->AB,getElem?_map->AC,getElem?_append_left->AF,length_map->AJ,getElem?_of_mem->AP,getElem?_append_right->AQ,getElem?_set->AW,range'->Ab,getElem?_set_ne->Ac,mem_map->Ae,pairwise_iff_getElem->Ai,set_append_right->An,mem_of_getElem?->Ao,nodup_cons->Ax,mem_cons->A4
open Option renaming some->AD,none->AK,map_some->Aq
open Bool renaming true->AE,false->AG,and_eq_true->AH,false_eq_true->AI
open Go renaming Program->AM,Value->AO,FuncId->AU,World->AX,IntKind->Ag,start->A6,wpIn_loop_rounds->A7,MemPlace->BB
open Go.Vf.AV renaming forget->AN,forgetL->AR
open Int renaming ofNat->AS,natCast_nonneg->As,ofNat_lt->A8,ofNat_le->A9
open Go.Vf renaming std->AT,Rho->Ap,Ent->A3,Sim->BA,Sig->BC,VRs->BD
open Nat renaming add_sub_cancel_left->AY,blt->Ad,le_refl->Af,sub_self->Al,beq->Am,lt_trichotomy->At,ble->Au,lt_succ_self->Av,lt_of_not_le->Aw
open Go.Vf.a0f renaming forget->AZ
open Option.some renaming injEq->Aa,inj->Aj
open Array renaming getElem?_eq_getElem->Ah
open Go.Vf.a0x renaming cells->Ak,refl->A5
open Go.IntKind renaming signed->Ar,wrap->Ay,bits->Az,i64->BE
set_option linter.unusedSimpArgs false
set_option linter.unusedVariables false
namespace Go.Vf
open Go
structure a9v (o o':a0f):Prop where
 frz:o'.frozen=AG->o.frozen=AG
 holds: ∀(w:AX) (S:Nat->Prop) (ρ:Ap) (ob:Option Nat) (C:Nat),c7g w S ρ ob C o->c7g w S ρ ob C o'
theorem a9v.refl (o:a0f):a9v o o:=⟨id,fun _ _ _ _ _ h=>h⟩
theorem a0x.any (x:AV):a0x x .any:=fun _ _ _ v _=> .any v
theorem a9v.arr {sz n:Nat}{e e':Nat->List DV}(h: ∀i,i<n->e i=e' i):a9v (.arr sz n e) (.arr sz n e'):=by
 refine⟨id,fun w S ρ ob C hh=> ?_⟩;cases ob with
 |none=>
  obtain⟨h1,sz',e1,h2|h2⟩:=hh
  ·cases h2;exact⟨h1,sz,e',.inl rfl⟩
  ·cases h2
 |some b=>obtain⟨vs,ty,h1,h2,h3,h4⟩:=hh;exact⟨vs,ty,h1,h2,h3,fun i hi=>by rw[<-h i hi];exact h4 i hi⟩
theorem a9v.arr' {sz n m:Nat}{e e':Nat->List DV}(hn:n=m)(h: ∀i,i<n->e i=e' i):a9v (.arr sz n e) (.arr sz m e'):=by subst hn;exact .arr h
theorem a9v.var {cs ds:List AV}(h:a3x cs ds):a9v (.var cs) (.var ds):=by
 refine⟨id,fun w S ρ ob C hh=> ?_⟩;obtain⟨hl,hg⟩:=h.get;cases ob with
 |none=>obtain⟨h1,sz',e1,h2|h2⟩:=hh<;>cases h2
 |some b=>obtain⟨vs,ty,h1,h2,h3⟩:=hh;exact⟨vs,ty,h1,by omega,Ak hl hg h3⟩
theorem g2l.congr {wide:Bool}{ks:List Ag}{es:List MapEntry}{n:Nat}{f f':List KC->Option Int}(h:g2l wide ks es n f)(e: ∀k,f k=f' k):g2l wide ks es n f':=
 ⟨h.len,h.keys,h.vals,fun k=>(h.find k).trans (e k),h.nd⟩
theorem a9v.map {wide:Bool}{ks:List Ag}{n m:Nat}{f f':List KC->Option Int}(hn:n=m)(e: ∀k,f k=f' k):a9v (.map wide ks n f) (.map wide ks m f'):=by
 subst hn;refine⟨id,fun w S ρ ob C hh=> ?_⟩;cases ob with
 |none=>obtain⟨h1,sz',e1,h2|h2⟩:=hh<;>cases h2
 |some b=>obtain⟨es,clock,h1,h2⟩:=hh;exact⟨es,clock,h1,h2.congr e⟩
inductive a4k:List a0f->List a0f->Prop
 |nil (h:List a0f):a4k h []
 |cons {o o':a0f} {h h':List a0f} (e:a9v o o') (r:a4k h h'):a4k (o::h) (o'::h')
theorem a4k.get {h h':List a0f}(r:a4k h h'):h'.length<=h.length/\ ∀(i:Nat) (o o':a0f),h[i]? =AD o->h'[i]? =AD o'->a9v o o':=by
 induction r with
 |nil h=>simp
 |cons e r ih=>
  refine⟨by simp[ih.1],fun i o o' hx hy=> ?_⟩;cases i with
  |zero=>simp at hx hy;subst hx;subst hy;exact e
  |succ i=>simp at hx hy;exact ih.2 i o o' hx hy
mutual
def AV.low (n:Nat):AV->Bool
 | .agg cs=>AV.lowL n cs
 | .tuple cs=>AV.lowL n cs
 | .fn _ us cs=>AV.lowL n us&&AV.lowL n cs
 | .ptr m _=>Ad m n
 | .aptr m _ _ _=>Ad m n
 | .msl m _ _ _ _=>Ad m n
 | .vsl m _ _=>Ad m n
 | .map m=>Ad m n
 | .yl m=>Ad m n
 |_=>AE
def AV.lowL (n:Nat):List AV->Bool
 |[]=>AE
 |v::r=>v.low n&&AV.lowL n r
end
def a0f.low (n:Nat):a0f->Bool
 | .var cs=>AV.lowL n cs
 | .loop _ ts _ _=>AV.lowL n ts
 | .mapv _ _ _ vs=>AV.lowL n vs
 | .arrv vs=>AV.lowL n vs
 |_=>AE
def d5i (n:Nat):List a0f->Bool
 |[]=>AE
 |o::r=>o.low n&&d5i n r
theorem a2f {n:Nat}{l:List AV}(h:AV.lowL n l=AE){i:Nat}{x:AV}(hx:l[i]? =AD x):x.low n=AE:=by
 induction l generalizing i with
 |nil=>simp at hx
 |cons y l ih=>
  simp only[AV.lowL,AH] at h;cases i with
  |zero=>simp at hx;subst hx;exact h.1
  |succ i=>simp at hx;exact ih h.2 hx
theorem c1k {n:Nat}{l:List a0f}(h:d5i n l=AE){i:Nat}{x:a0f}(hx:l[i]? =AD x):x.low n=AE:=by
 induction l generalizing i with
 |nil=>simp at hx
 |cons y l ih=>
  simp only[d5i,AH] at h;cases i with
  |zero=>simp at hx;subst hx;exact h.1
  |succ i=>simp at hx;exact ih h.2 hx
def Rho.cut (ρ:Ap)(n:Nat):Ap:=fun l=>if l<n then ρ l else AK
theorem e0x {m n:Nat}(h:Ad m n=AE):m<n:=by simpa [Nat.blt_eq] using h
theorem Rho.cut_lt {ρ:Ap}{n m:Nat}(h:Ad m n=AE):ρ.cut n m=ρ m:=if_pos (e0x h)
theorem VR.cut {w:AX}{S:Nat->Prop}{ρ:Ap}{n:Nat}{x:AV}{v:AO}(h:VR w S ρ x v)(hb:x.low n=AE):VR w S (ρ.cut n) x v:=by
 induction h with
 |d h=>exact .d h
 |any v=>exact .any v
 |und=>exact .und
 |agg cs vs hl _ ih=>exact .agg cs vs hl fun i x v hx hv=>ih i x v hx hv (a2f (by simpa only[AV.low] using hb) hx)
 |tuple cs vs hl _ ih=>exact .tuple cs vs hl fun i x v hx hv=>ih i x v hx hv (a2f (by simpa only[AV.low] using hb) hx)
 |ptr l off b C h=>exact .ptr l off b C ((Rho.cut_lt (by simpa only[AV.low] using hb)).trans h)
 |aptr l sz i off b C h=>exact .aptr l sz i off b C ((Rho.cut_lt (by simpa only[AV.low] using hb)).trans h)
 |dptr row off b base f hb' hv hr=>exact .dptr row off b base f hb' hv hr
 |dfs sz n e a h=>exact .dfs sz n e a h
 |msl l sz A6 len full ob C cap a h hc hcap ha=>exact .msl l sz A6 len full ob C cap a ((Rho.cut_lt (by simpa only[AV.low] using hb)).trans h) hc hcap ha
 |vsl l off n b C cap h hc=>exact .vsl l off n b C cap ((Rho.cut_lt (by simpa only[AV.low] using hb)).trans h) hc
 |map l b C h=>exact .map l b C ((Rho.cut_lt (by simpa only[AV.low] using hb)).trans h)
 |fn f first cap us vs hl1 _ hl _ ih1 ih=>
  simp only[AV.low,AH] at hb;exact .fn f first cap us vs hl1 (fun i x v hx hv=>ih1 i x v hx hv (a2f hb.1 hx)) hl (fun i x v hx hv=>ih i x v hx hv (a2f hb.2 hx))
 |ge m n h=>exact .ge m n h
 |yl l b C h=>exact .yl l b C ((Rho.cut_lt (by simpa only[AV.low] using hb)).trans h)
theorem a0z.cut {w:AX}{S:Nat->Prop}{ρ:Ap}{n b C:Nat}{o:a0f}(h:a0z w S ρ b C o)(hb:o.low n=AE):a0z w S (ρ.cut n) b C o:=by
 cases o with
 |var cs=>obtain⟨vs,ty,h1,h2,h3⟩:=h;exact⟨vs,ty,h1,h2,fun i x v hx hv=>(h3 i x v hx hv).cut (a2f (by simpa only[a0f.low] using hb) hx)⟩
 |arr sz n e=>exact h
 |frz sz n e=>exact h
 |map wide ks n f=>exact h
 |arrv vals=>obtain⟨vs,ty,h1,h2,h3,h4⟩:=h;exact⟨vs,ty,h1,h2,h3,fun i x v hx hv=>(h4 i x v hx hv).cut (a2f (by simpa only[a0f.low] using hb) hx)⟩
 |mapv wide ks keys vals=>obtain⟨es,clock,h1,h2,h3,h4⟩:=h;exact⟨es,clock,h1,h2,h3,fun i x e hx he=>(h4 i x e hx he).cut (a2f (by simpa only[a0f.low] using hb) hx)⟩
 |loop s ts ps code=>obtain⟨r,h1,h2,h3,h4,h5,h6,h7⟩:=h;exact⟨r,h1,h2,h3,h4,h5,h6,fun i x v hx hv=>(h7 i x v hx hv).cut (a2f (by simpa only[a0f.low] using hb) hx)⟩
 |gone=>exact h
def e1s:List Nat->List Nat->Bool
 |[],_=>AE
 |l::r,m=>b2l l m&&e1s r m
theorem b4g: ∀{l m:List Nat},e1s l m=AE-> ∀i,i∈l->i∈m
 |[],_,_,i,h=>by simp at h
 |j::l,m,h,i,hi=>by
  simp only[e1s,AH] at h;rcases A4.1 hi with rfl|hi
  ·exact a1o.1 h.1
  ·exact b4g h.2 i hi
structure Le (base:Nat)(st st':St):Prop where
 ts:a3x st.ts st'.ts
 h:a4k st.h st'.h
 len:base<=st'.h.length
 cut:(AV.lowL st'.h.length st'.ts=AE/\d5i st'.h.length st'.h=AE)\/st.h.length=st'.h.length
 mv:e1s st.mv st'.mv=AE
theorem Rel.le {E:A3}{st st':St}{a:Act}{w:AX}{S:Nat->Prop}{ρ:Ap}(l:Le E.base st st')(r:Rel E st a w S ρ): ∃ρ',Rel E st' a w S ρ':=by
 obtain⟨l1,l2⟩:=l.ts.get;obtain⟨l3,l4⟩:=l.h.get;have ht:BD w S ρ st'.ts a.tmps:=⟨by rw[<-l1];exact r.ts.1,Ak l1 l2 r.ts.2⟩;have hobj: ∀l ob C,l<st'.h.length->ρ l=AD (ob,C)-> ∃o o',st.h[l]? =AD o/\st'.h[l]? =AD o'/\a9v o o'/\c7g w S ρ ob C o':=fun m ob C hm hl=>by obtain⟨o,h1,h2⟩:=r.sim.obj m ob C hl;have h3:st'.h[m]? =AD (st'.h[m]'hm):=AB _;have:=l4 m o _ h1 h3;exact⟨o,_,h1,h3,this,this.holds _ _ _ _ _ h2⟩
 have hlt: ∀l ob C,ρ l=AD (ob,C)->l<st.h.length:=fun m ob C hl=>by obtain⟨o,h1,_⟩:=r.sim.obj m ob C hl;exact (AA.1 h1).1
 by_cases hn:st.h.length=st'.h.length
 ·refine⟨ρ,⟨ht,r.ds,⟨r.sim.sblk,fun m ob C hl=> ?_,r.sim.inj,fun m b C o hl ho hf=> ?_⟩,r.ext,fun m hm hmv=>r.keep m hm fun h=>hmv (b4g l.mv m h),l.len⟩⟩
  ·obtain⟨o,o',_,h2,_,h4⟩:=hobj m ob C (hn▸hlt m ob C hl) hl;exact⟨o',h2,h4⟩
  ·obtain⟨o1,o',h1,h2,h3,_⟩:=hobj m _ C (hn▸hlt m _ C hl) hl;rw[ho] at h2;cases h2;exact r.sim.own m b C o1 hl h1 (h3.frz hf)
 ·obtain⟨c1,c2⟩:=l.cut.resolve_right hn;have hcut: ∀m p,ρ.cut st'.h.length m=AD p->m<st'.h.length/\ρ m=AD p:=fun m p hp=>by
   unfold Rho.cut at hp;split at hp
   ·rename_i h;exact⟨h,hp⟩
   ·cases hp
  refine⟨ρ.cut st'.h.length,⟨⟨ht.1,fun i x v hx hv=>(ht.2 i x v hx hv).cut (a2f c1 hx)⟩,?_,⟨r.sim.sblk,fun m ob C hl=> ?_,fun m m' b C C' h1 h2=>r.sim.inj m m' b C C' (hcut _ _ h1).2 (hcut _ _ h2).2,fun m b C o hl ho hf=> ?_⟩,?_,fun m hm hmv=> ?_,l.len⟩⟩
  ·obtain⟨Ds,d1,d2,d3⟩:=r.ds;exact⟨Ds,d1,fun D hD=>⟨(d2 D hD).obj,(d2 D hD).new,fun m C hl=>(d2 D hD).out m C (hcut _ _ hl).2,(d2 D hD).imm⟩,d3⟩
  ·obtain⟨hm,hl⟩:=hcut _ _ hl;obtain⟨o,o',_,h2,_,h4⟩:=hobj m ob C hm hl;refine⟨o',h2,?_⟩;cases ob with
   |none=>exact h4
   |some b=>exact a0z.cut h4 (c1k c2 h2)
  ·obtain⟨hm,hl⟩:=hcut _ _ hl;obtain⟨o1,o',h1,h2,h3,_⟩:=hobj m _ C hm hl;rw[ho] at h2;cases h2;exact r.sim.own m b C o1 hl h1 (h3.frz hf)
  ·exact⟨r.ext.os,r.ext.tape,r.ext.output,r.ext.size,r.ext.mono,r.ext.cell,r.ext.news,r.ext.frame,fun m b C hl=>r.ext.owned m b C (hcut _ _ hl).2⟩
  ·have:=l.len;have e:ρ.cut st'.h.length m=ρ m:=if_pos (by omega);rw[e];exact r.keep m hm fun h=>hmv (b4g l.mv m h)
section
variable {P:AM} {A:Ann} {ro:Option Nat} {E:A3} {Sg:BC} {Q:Lv->St->Prop}
def e4f {σ:Type}(base:Nat)(R:σ->Prop)(μ:σ->Nat)(st:σ->St)(Q:Lv->St->Prop)(s:σ):Lv->St->Prop
 | .normal,st'=> ∃s',R s'/\μ s'<μ s/\Le base st' (st s')
 | .exit i,st'=>Q (.exit i) st'
 | .ret,st'=>Q .ret st'
theorem d1u (hm:P.follows .mixedOrders=AE)(hok:OkP P)(hS:Sg=AT P A ro E){σ:Type}(R:σ->Prop)(μ:σ->Nat)(st:σ->St){ic:a0c}{st0:St}(s:σ)(hs:R s)(h0:Le E.base st0 (st s))
 (h: ∀s,R s->ev Sg ic (e4f E.base R μ st Q s) (st s)):Sg.loop ic Q st0:=by
 subst hS;intro c hc a w S ρ hr;obtain⟨ρ1,hr1⟩:=hr.le h0;clear hr h0;refine A7 (μ s+1) ?_;have hk:μ s<μ s+1:=Av _;generalize μ s+1=m at hk⊢
 induction m generalizing s a w S ρ1 with
 |zero=>omega
 |succ m ih=>
  refine wpIn_mono (a4x hm hok c ic hc (h s hs) a w S ρ1 hr1) fun e a' w' hp=> ?_;obtain⟨lv,st',S',ρ',h1,h2,h3⟩:=hp;cases lv with
  |normal=>cases e<;>simp[a9d] at h1;obtain⟨s',g1,g2,g3⟩:=h2;obtain⟨ρ',h3⟩:=h3.le g3;exact ih s' g1 a' w' S' ρ' h3 (by omega)
  |exit i=>cases e<;>simp[a9d] at h1;subst h1;exact⟨_,st',S',ρ',rfl,h2,h3⟩
  |ret=>cases e<;>simp[a9d] at h1;exact⟨_,st',S',ρ',rfl,h2,h3⟩
end
def b5r:List (Nat×AV)->Nat->List AV
 |[],n=>b8q .any n
 |(i,v)::l,n=>a2x (b5r l n) i v
def b9b (ts:List AV):List (Nat×AV)->Prop
 |[]=>True
 |(i,v)::l=>(match a1a ts i with|some x=>a0x x v|none=>False)/\b9b ts l
theorem a3x.of_get: ∀{xs ys:List AV},xs.length=ys.length->(∀(i:Nat) (x y:AV),xs[i]? =AD x->ys[i]? =AD y->a0x x y)->a3x xs ys
 |[],[],_,_=> .nil
 |x::xs,y::ys,hl,h=> .cons (h 0 x y rfl rfl) (a3x.of_get (by simpa using hl) fun i a b ha hb=>h (i+1) a b (by simpa using ha) (by simpa using hb))
 |[],_::_,hl,_=>by simp at hl
 |_::_,[],hl,_=>by simp at hl
theorem b8u (l:List (Nat×AV))(n:Nat):(b5r l n).length=n:=by
 induction l with
 |nil=>simp[b5r,a7i]
 |cons p l ih=>obtain⟨i,v⟩:=p;simp[b5r,a0l,ih]
theorem d2w {ts:List AV}{l:List (Nat×AV)}{n:Nat}(hn:a3q ts=n)(h:b9b ts l):a3x ts (b5r l n):=by
 rw[a0u] at hn;refine a3x.of_get (by rw[b8u,hn]) ?_
 induction l with
 |nil=>
  intro i x y hx hy;rw[b5r,a7i,List.getElem?_replicate] at hy;split at hy
  ·cases hy;exact a0x.any x
  ·cases hy
 |cons p l ih=>
  obtain⟨k,v⟩:=p;obtain⟨h1,h2⟩:=h;intro i x y hx hy;rw[b5r,a0l] at hy;by_cases e:i=k
  ·subst e;rw[a0i,hx] at h1;rw[AW] at hy;simp at hy;rw[<-hy.2];exact h1
  ·rw[Ac (Ne.symm e)] at hy;exact ih h2 i x y hx hy
theorem a4c {base:Nat}{ts:List AV}{h h':List a0f}{mv mv':List Nat}{l:List (Nat×AV)}{n:Nat}(hn:a3q ts=n)(hl:b9b ts l)(hh:a4k h h')(hb:base<=h'.length)
 (hc:(AV.lowL h'.length (b5r l n)=AE/\d5i h'.length h'=AE)\/h.length=h'.length) (hv:e1s mv mv'=AE):Le base ⟨ts,h,mv⟩ ⟨b5r l n,h',mv'⟩:=
 ⟨d2w hn hl,hh,hb,hc,hv⟩
section
variable {P:AM} {A:Ann} {ro:Option Nat} {E:A3} {Sg:BC} {Q:Lv->St->Prop}
theorem a1g (hS:Sg=AT P A ro E){p q:Prop}(hp:p)(hq:q):Sg.req p q:=by subst hS;exact⟨hp,hq⟩
theorem a0v (hS:Sg=AT P A ro E){own:Bool}{f:AU}{args:List AV}{K:AV->Prop}(r:AV)(h:a0j P own f args r)(hk:K r):Sg.callb own f args K:=by subst hS;exact⟨r,h,hk⟩
def c1l (N:St->Prop)(Q:Lv->St->Prop):Lv->St->Prop
 | .normal,st=>N st
 | .exit i,st=>Q (.exit i) st
 | .ret,st=>Q .ret st
theorem a7r (hm:P.follows .mixedOrders=AE)(hok:OkP P)(hS:Sg=AT P A ro E){σ:Type}(R:σ->Prop)(μ:σ->Nat)(st:σ->St){ic:a0c}{st0:St}(s:σ)(hs:R s)(h0:Le E.base st0 (st s))
 (h: ∀s,R s-> ∀N:St->Prop,(∀s' st',R s'->μ s'<μ s->Le E.base st' (st s')->N st')->ev Sg ic (c1l N Q) (st s)):Sg.loop ic Q st0:=by
 refine d1u hm hok hS R μ st s hs h0 fun s hs=> ?_;have:=h s hs (fun st'=> ∃s',R s'/\μ s'<μ s/\Le E.base st' (st s')) fun s' st' h1 h2 h3=>⟨s',h1,h2,h3⟩;have e:c1l (fun st'=> ∃s',R s'/\μ s'<μ s/\Le E.base st' (st s')) Q=e4f E.base R μ st Q s:=by funext lv st';cases lv<;>rfl
 rw[e] at this;exact this
end
section
variable {P:AM} {f:AU} {x:XFn} {args:List AV}
theorem a0k (hm:P.follows .mixedOrders=AE)(hok:OkP P)(hx:a0q P f x)(r:AV)(hn:Au args.length x.n=AE)
 (h: ∀(E:A3) (Sg:BC),E.base=0->Sg=AT P x.A AK E->ev Sg x.ic (d8h Sg x.irs r) ⟨a9g args (x.n-args.length),[],[]⟩):a0j P AG f args r:=by
 obtain⟨fn,c,hf,hb,hname,hc,hres,hnt⟩:=hx;have hle:args.length<=x.n:=by simpa using hn
 exact b1p (n:=x.n-args.length) hm hok hf hb hname x.A hc hres (by rw[hnt];omega) h
theorem b9y (hm:P.follows .mixedOrders=AE)(hok:OkP P)(hx:a0q P f x){h0:List a0f}{K:List Nat->AV->List a0f->Prop}(hn:Au args.length x.n=AE)
 (h: ∀(E:A3) (Sg:BC),E.base=h0.length->Sg=AT P x.A AK E->ev Sg x.ic (d4j Sg x.irs h0.length K) ⟨a9g args (x.n-args.length),h0,[]⟩):a1h P f args h0 K:=by
 obtain⟨fn,c,hf,hb,hname,hc,hres,hnt⟩:=hx;have hle:args.length<=x.n:=by simpa using hn
 exact b0s (n:=x.n-args.length) hm hok hf hb hname x.A hc hres (by rw[hnt];omega) h
theorem b8m {r:DV}(hf:c0j (.d r))(h:a0j P AG f args (.d r)):a0j P AE f args (.d r):=by have:=b4e (xs:=[.d r]) (fun x hx=>by simp at hx;subst hx;exact hf) h;exact this
theorem a1e {b:Bool}(h:a0j P AG f args (.d (.bool b))):a0j P AE f args (.d (.bool b)):=b8m (by trivial) h
theorem a4e {k:Ag}{n:IX}(h:a0j P AG f args (.d (.int k n))):a0j P AE f args (.d (.int k n)):=b8m (by trivial) h
end
mutual
def AV.ren (π:Nat->Nat):AV->AV
 | .agg cs=> .agg (AV.renL π cs)
 | .tuple cs=> .tuple (AV.renL π cs)
 | .fn f us cs=> .fn f (AV.renL π us) (AV.renL π cs)
 | .ptr m off=> .ptr (π m) off
 | .aptr m sz i off=> .aptr (π m) sz i off
 | .msl m sz s n f=> .msl (π m) sz s n f
 | .vsl m off n=> .vsl (π m) off n
 | .map m=> .map (π m)
 | .yl m=> .yl (π m)
 |v=>v
def AV.renL (π:Nat->Nat):List AV->List AV
 |[]=>[]
 |v::r=>v.ren π::AV.renL π r
end
def a0f.ren (π:Nat->Nat):a0f->a0f
 | .var cs=> .var (AV.renL π cs)
 | .loop s ts ps code=> .loop s (AV.renL π ts) ps code
 | .mapv wide ks keys vals=> .mapv wide ks keys (AV.renL π vals)
 | .arrv vals=> .arrv (AV.renL π vals)
 |o=>o
def i2l (π:Nat->Nat):List a0f->List a0f
 |[]=>[]
 |o::r=>o.ren π::i2l π r
theorem AV.renL_eq (π:Nat->Nat)(l:List AV):AV.renL π l=l.map (AV.ren π):=by
 induction l with
 |nil=>rfl
 |cons x l ih=>simp[AV.renL,ih]
theorem h5f (π:Nat->Nat)(l:List a0f):i2l π l=l.map (a0f.ren π):=by
 induction l with
 |nil=>rfl
 |cons x l ih=>simp[i2l,ih]
theorem h6j (π:Nat->Nat)(o:a0f):(o.ren π).frozen=o.frozen:=by cases o<;>rfl
section
variable {w:AX} {S:Nat->Prop} {ρ ρ':Ap} {π:Nat->Nat}
theorem VR.ren (hρ: ∀i p,ρ i=AD p->ρ' (π i)=AD p){x:AV}{v:AO}(hv:VR w S ρ x v):VR w S ρ' (x.ren π) v:=by
 have key: ∀{cs:List AV} {vs:Array AO},(∀(i:Nat) (x:AV) (v:AO),cs[i]? =AD x->vs[i]? =AD v->VR w S ρ' (x.ren π) v)->
  ∀(i:Nat) (x:AV) (v:AO),(AV.renL π cs)[i]? =AD x->vs[i]? =AD v->VR w S ρ' x v:=by
  intro cs vs ih i x v hx hv;rw[AV.renL_eq,AC] at hx;cases hc:cs[i]? with
  |none=>simp[hc] at hx
  |some y=>simp[hc] at hx;subst hx;exact ih i y v hc hv
 induction hv with
 |d h=>exact .d h
 |any v=>exact .any v
 |und=>exact .und
 |agg cs vs hl _ ih=>exact .agg _ vs (by simpa [AV.renL_eq] using hl) (key ih)
 |tuple cs vs hl _ ih=>exact .tuple _ vs (by simpa [AV.renL_eq] using hl) (key ih)
 |ptr l off b C h=>exact .ptr _ off b C (hρ _ _ h)
 |aptr l sz i off b C h=>exact .aptr _ sz i off b C (hρ _ _ h)
 |dptr row off b base f hb hv hr=>exact .dptr row off b base f hb hv hr
 |dfs sz n e a h=>exact .dfs sz n e a h
 |msl l sz A6 len full ob C cap a h hc hcap ha=>exact .msl _ sz A6 len full ob C cap a (hρ _ _ h) hc hcap ha
 |vsl l off n b C cap h hc=>exact .vsl _ off n b C cap (hρ _ _ h) hc
 |map l b C h=>exact .map _ b C (hρ _ _ h)
 |fn f first cap us vs hl1 _ hl _ ih1 ih=>exact .fn f _ _ us vs (by simpa [AV.renL_eq] using hl1) (key ih1) (by simpa [AV.renL_eq] using hl) (key ih)
 |ge m n h=>exact .ge m n h
 |yl l b C h=>exact .yl _ b C (hρ _ _ h)
theorem VR.unren {y:AV}{v:AO}(hv:VR w S ρ y v): ∀{x:AV},y=x.ren π->VR w S (fun i=>ρ (π i)) x v:=by
 have key: ∀{cs ds:List AV} {vs:Array AO},cs=AV.renL π ds->(∀(i:Nat) (y:AV) (v:AO),cs[i]? =AD y->vs[i]? =AD v-> ∀{x:AV},y=x.ren π->VR w S (fun i=>ρ (π i)) x v)->
  ∀(i:Nat) (x:AV) (v:AO),ds[i]? =AD x->vs[i]? =AD v->VR w S (fun i=>ρ (π i)) x v:=by
  intro cs ds vs he ih i x v hx hv;refine ih i (x.ren π) v ?_ hv rfl;rw[he,AV.renL_eq,AC,hx];rfl
 have len: ∀{cs ds:List AV} {n:Nat},cs=AV.renL π ds->cs.length=n->ds.length=n:=by intro cs ds n he hl;rw[he,AV.renL_eq] at hl;simpa using hl
 induction hv with
 |d h=>intro x hx;cases x<;>simp only[AV.ren] at hx<;>(try cases hx);exact .d h
 |any v=>intro x hx;cases x<;>simp only[AV.ren] at hx<;>(try cases hx);exact .any v
 |und=>intro x hx;cases x<;>simp only[AV.ren] at hx<;>(try cases hx);exact .und
 |agg cs vs hl _ ih=>intro x hx;cases x<;>simp only[AV.ren,AV.agg.injEq] at hx<;>(try cases hx);exact .agg _ vs (len rfl hl) (key rfl ih)
 |tuple cs vs hl _ ih=>intro x hx;cases x<;>simp only[AV.ren,AV.tuple.injEq] at hx<;>(try cases hx);exact .tuple _ vs (len rfl hl) (key rfl ih)
 |ptr l off b C h=>intro x hx;cases x<;>simp only[AV.ren] at hx<;>(try cases hx);exact .ptr _ off b C h
 |aptr l sz i off b C h=>intro x hx;cases x<;>simp only[AV.ren] at hx<;>(try cases hx);exact .aptr _ sz i off b C h
 |dptr row off b base f hb hv hr=>intro x hx;cases x<;>simp only[AV.ren] at hx<;>(try cases hx);exact .dptr row off b base f hb hv hr
 |dfs sz n e a h=>intro x hx;cases x<;>simp only[AV.ren] at hx<;>(try cases hx);exact .dfs sz n e a h
 |msl l sz A6 len full ob C cap a h hc hcap ha=>intro x hx;cases x<;>simp only[AV.ren] at hx<;>(try cases hx);exact .msl _ sz A6 len full ob C cap a h hc hcap ha
 |vsl l off n b C cap h hc=>intro x hx;cases x<;>simp only[AV.ren] at hx<;>(try cases hx);exact .vsl _ off n b C cap h hc
 |map l b C h=>intro x hx;cases x<;>simp only[AV.ren] at hx<;>(try cases hx);exact .map _ b C h
 |fn f first cap us vs hl1 _ hl _ ih1 ih=>intro x hx;cases x<;>simp only[AV.ren,AV.fn.injEq] at hx<;>(try cases hx;done);obtain⟨rfl,hx1,hx2⟩:=hx;exact .fn _ _ _ us vs (len hx1 hl1) (key hx1 ih1) (len hx2 hl) (key hx2 ih)
 |ge m n h=>intro x hx;cases x<;>simp only[AV.ren] at hx<;>(try cases hx);exact .ge m n h
 |yl l b C h=>intro x hx;cases x<;>simp only[AV.ren] at hx<;>(try cases hx);exact .yl _ b C h
theorem a0z.ren (hρ: ∀i p,ρ i=AD p->ρ' (π i)=AD p){b C:Nat}{oo:a0f}(hv:a0z w S ρ b C oo):a0z w S ρ' b C (oo.ren π):=by
 cases oo with
 |var cs=>
  obtain⟨vs,ty,h1,h2,h3⟩:=hv;refine⟨vs,ty,h1,by simpa [AV.renL_eq] using h2,fun i x v hx hv=> ?_⟩;rw[AV.renL_eq,AC] at hx;cases hc:cs[i]? with
  |none=>simp[hc] at hx
  |some y=>simp[hc] at hx;subst hx;exact (h3 i y v hc hv).ren hρ
 |arr sz n e=>exact hv
 |frz sz n e=>exact hv
 |map wide ks n f=>exact hv
 |arrv vals=>
  obtain⟨vs,ty,h1,h2,h3,h4⟩:=hv;refine⟨vs,ty,h1,h2,by simpa [AV.renL_eq] using h3,fun i x v hx hv=> ?_⟩;rw[AV.renL_eq,AC] at hx;cases hc:vals[i]? with
  |none=>simp[hc] at hx
  |some y=>simp[hc] at hx;subst hx;exact (h4 i y v hc hv).ren hρ
 |mapv wide ks keys vals=>
  obtain⟨es,clock,h1,h2,h3,h4⟩:=hv;refine⟨es,clock,h1,h2,by simpa [AV.renL_eq] using h3,fun i x e hx he=> ?_⟩;rw[AV.renL_eq,AC] at hx;cases hc:vals[i]? with
  |none=>simp[hc] at hx
  |some y=>simp[hc] at hx;subst hx;exact (h4 i y e hc he).ren hρ
 |loop s ts ps code=>
  obtain⟨r,h1,h2,h3,h4,h5,h6,h7⟩:=hv;refine⟨r,h1,h2,h3,h4,h5,by simpa [AV.renL_eq] using h6,fun i x v hx hv=> ?_⟩;rw[AV.renL_eq,AC] at hx;cases hc:ts[i]? with
  |none=>simp[hc] at hx
  |some y=>simp[hc] at hx;subst hx;exact (h7 i y v hc hv).ren hρ
 |gone=>exact hv
theorem a0z.unren {b C:Nat}{oo:a0f}(hv:a0z w S ρ b C (oo.ren π)):a0z w S (fun i=>ρ (π i)) b C oo:=by
 cases oo with
 |var cs=>obtain⟨vs,ty,h1,h2,h3⟩:=hv;refine⟨vs,ty,h1,by simpa [AV.renL_eq] using h2,fun i x v hx hv=> ?_⟩;exact (h3 i (x.ren π) v (by rw[AV.renL_eq,AC,hx];rfl) hv).unren rfl
 |arr sz n e=>exact hv
 |frz sz n e=>exact hv
 |map wide ks n f=>exact hv
 |arrv vals=>obtain⟨vs,ty,h1,h2,h3,h4⟩:=hv;exact⟨vs,ty,h1,h2,by simpa [AV.renL_eq] using h3,fun i x v hx hv=>(h4 i (x.ren π) v (by rw[AV.renL_eq,AC,hx];rfl) hv).unren rfl⟩
 |mapv wide ks keys vals=>obtain⟨es,clock,h1,h2,h3,h4⟩:=hv;exact⟨es,clock,h1,h2,by simpa [AV.renL_eq] using h3,fun i x e hx he=>(h4 i (x.ren π) e (by rw[AV.renL_eq,AC,hx];rfl) he).unren rfl⟩
 |loop s ts ps code=>obtain⟨r,h1,h2,h3,h4,h5,h6,h7⟩:=hv;refine⟨r,h1,h2,h3,h4,h5,by simpa [AV.renL_eq] using h6,fun i x v hx hv=> ?_⟩;exact (h7 i (x.ren π) v (by rw[AV.renL_eq,AC,hx];rfl) hv).unren rfl
 |gone=>exact hv
def h4h:List Nat->a0f->a0f
 |[],o=>o
 |l::pg,o=>h4h pg (o.forget l AG)
theorem h5y (pg:List Nat): ∀(h:List a0f) (m:Nat),(h4b pg h)[m]? =(h[m]?).map (h4h pg):=by
 induction pg with
 |nil=>intro h m;simp[h4b,h4h]
 |cons l pg ih=>intro h m;rw[h4b,ih,a3s,Option.map_map];rfl
theorem h6g (pg:List Nat): ∀(o:a0f),(h4h pg o).frozen=o.frozen:=by
 induction pg with
 |nil=>intro o;rfl
 |cons l pg ih=>intro o;rw[h4h,ih,a0f.forget_frozen]
theorem a0z.forgets {w':AX}{S':Nat->Prop}(hS: ∀b,S b->S' b)(hw: ∀b,S b->w'.heap[b]? =w.heap[b]?){b C:Nat}(hb:w'.heap[b]? =w.heap[b]?)(pg:List Nat):
 ∀{ρ:Ap},(∀m p,m∉pg->ρ m=AD p->ρ' m=AD p)-> ∀{o:a0f},a0z w S ρ b C o->a0z w' S' ρ' b C (h4h pg o):=by
 induction pg with
 |nil=>intro ρ hρ o h;exact h.mono hS hw (fun m p=>hρ m p (by simp)) hb
 |cons l pg ih=>
  intro ρ hρ o h;have h1:a0z w S (fun m=>if m=l then AK else ρ m) b C (o.forget l AG):=by refine a0z.forget (fun _ h=>h) (fun _ _=>rfl) l AG (fun m p hg hm=> ?_) rfl h;show (if m=l then AK else ρ m)=AD p;rw[if_neg (fun e=>by subst e;simp[gone] at hg)];exact hm
  refine ih (ρ:=fun m=>if m=l then AK else ρ m) (fun m p hm hp=> ?_) h1;by_cases e:m=l
  ·simp[e] at hp
  ·simp[e] at hp;exact hρ m p (by simp[e,hm]) hp
end
def b2u:List Nat->Nat->Nat->Nat
 |[],base,i=>base+i
 |l::_,_,0=>l
 |_::pos,base,i+1=>b2u pos base i
def h4m:List a0f->List Nat->List a0f->List a0f
 |H,[],os=>a2u H os
 |H,_::_,[]=>H
 |H,l::pos,o::os=>h4m (a2x H l o) pos os
theorem h9j {base:Nat}: ∀{pos:List Nat} {i:Nat},i<pos.length->pos[i]? =AD (b2u pos base i)
 |[],i,h=>by simp at h
 |l::pos,0,_=>rfl
 |l::pos,i+1,h=>by have:=h9j (base:=base) (pos:=pos) (i:=i) (by simpa using h);simpa [b2u] using this
theorem h9d {base:Nat}: ∀{pos:List Nat} {i:Nat},pos.length<=i->b2u pos base i=base+(i-pos.length)
 |[],i,_=>by simp[b2u]
 |l::pos,0,h=>by simp at h
 |l::pos,i+1,h=>by have:=h9d (base:=base) (pos:=pos) (i:=i) (by simpa using h);simp only[b2u,this,List.length_cons];omega
theorem h5m: ∀{pos:List Nat} {H os:List a0f},pos.length<=os.length->(h4m H pos os).length=H.length+(os.length-pos.length)
 |[],H,os,_=>by simp[h4m,a0r]
 |l::pos,H,[],h=>by simp at h
 |l::pos,H,o::os,h=>by
  have h':pos.length<=os.length:=by simpa using h
  rw[h4m,h5m h',a0l];simp
theorem h4n: ∀{pos:List Nat} {H os:List a0f} {m:Nat},m<H.length->m∉pos->(h4m H pos os)[m]? =H[m]?
 |[],H,os,m,hm,_=>by rw[h4m,a0r,AF hm]
 |l::pos,H,[],m,_,_=>rfl
 |l::pos,H,o::os,m,hm,hn=>by simp only[A4,not_or] at hn;rw[h4m,h4n (by rw[a0l];simpa using hm) hn.2,a0l,Ac (Ne.symm hn.1)]
theorem h5u: ∀{pos:List Nat} {H os:List a0f} {i:Nat},pos.Nodup->(∀l,l∈pos->l<H.length)->pos.length<=os.length->i<os.length->(h4m H pos os)[b2u pos H.length i]? =os[i]?
 |[],H,os,i,_,_,_,hi=>by rw[h4m,a0r,b2u,AQ (by omega)];congr 1;omega
 |l::pos,H,[],i,_,_,hl,_=>by simp at hl
 |l::pos,H,o::os,i,hd,hlt,hl,hi=>by
  have hd':=Ax.1 hd;have hlen:(a2x H l o).length=H.length:=by rw[a0l];simp
  cases i with
  |zero=>rw[h4m,b2u,h4n (by rw[hlen];exact hlt l (by simp)) hd'.1,a0l,List.getElem?_set_self (hlt l (by simp))];rfl
  |succ i=>rw[h4m,b2u,<-hlen,h5u hd'.2 (fun m hm=>by rw[hlen];exact hlt m (by simp[hm])) (by simpa using hl) (by simpa using hi)];simp
def i4y (H:List a0f):List Nat->List a0f->Prop
 |[],[]=>True
 |l::pos,o::os=>(match a1a H l with|some o'=>a9v o' o|none=>False)/\i4y H pos os
 |_,_=>False
theorem h7m {H:List a0f}: ∀{pos:List Nat} {os:List a0f},i4y H pos os->pos.length=os.length/\ ∀(i l:Nat) (o:a0f),pos[i]? =AD l->os[i]? =AD o-> ∃o',H[l]? =AD o'/\a9v o' o
 |[],[],_=>⟨rfl,by simp⟩
 |[],_::_,h=>h.elim
 |_::_,[],h=>h.elim
 |l::pos,o::os,h=>by
  obtain⟨h1,h2⟩:=h;obtain⟨h3,h4⟩:=h7m h2;refine⟨by simp[h3],fun i l' o' hl ho=> ?_⟩;cases i with
  |zero=>
   simp at hl ho;subst hl;subst ho;rw[a0i] at h1;split at h1
   ·rename_i o' e;exact⟨o',e,h1⟩
   ·exact h1.elim
  |succ i=>simp at hl ho;exact h4 i l' o' hl ho
def h8z:List Nat->Bool
 |[]=>AE
 |l::r=>!b2l l r&&h8z r
theorem h7h: ∀{l:List Nat},h8z l=AE->l.Nodup
 |[],_=> .nil
 |l::r,h=>by simp only[h8z,AH,Bool.not_eq_true'] at h;exact Ax.2 ⟨fun hm=>by rw[a1o.2 hm] at h;exact Bool.noConfusion h.1,h7h h.2⟩
def i3s (H:List a0f)(pos:List Nat)(K:List Nat->AV->List a0f->Prop)(pg:List Nat)(v:AV)(H':List a0f):Prop:=
 ∃pg0 v0 h0,K pg0 v0 h0/\pg=b3y (b2u pos (a3q H)) pg0/\v=v0.ren (b2u pos (a3q H))/\H'=h4m (h4b pg H) pos (i2l (b2u pos (a3q H)) h0)
theorem a1h.frame {P:AM}{f:AU}{args args':List AV}{h:List a0f}{K:List Nat->AV->List a0f->Prop}(hc:a1h P f args h K){H:List a0f}(pos:List Nat)(hd:h8z pos=AE)
 (ha:args'=AV.renL (b2u pos (a3q H)) args) (hH:i4y H pos (i2l (b2u pos (a3q H)) h)):a1h P f args' H (i3s H pos K):=by
 refine⟨hc.1,fun w S ρ vs hs hv=> ?_⟩;unfold i3s;rw[a0u] at ha hH⊢;generalize hπ:b2u pos H.length=π at ha hH⊢;have hnd:=h7h hd;obtain⟨a1,a2⟩:=h7m hH;rw[h5f,AJ] at a1;have hlt: ∀l,l∈pos->l<H.length:=fun l hl=>by obtain⟨i,hi⟩:=AP hl;have hi':=(AA.1 hi).1;have ho:h[i]? =AD (h[i]'(by omega)):=AB _;obtain⟨o',h1,_⟩:=a2 i l _ hi (by rw[h5f,AC,ho];rfl);exact (AA.1 h1).1
 have πlt: ∀i,i<h.length->pos[i]? =AD (π i):=fun i hi=>by rw[<-hπ];exact h9j (by omega)
 have πge: ∀i,h.length<=i->π i=H.length+(i-h.length):=fun i hi=>by rw[<-hπ,h9d (by omega),a1]
 have πmem: ∀i,i<h.length->π i∈pos:=fun i hi=>Ao (πlt i hi);have πinj: ∀i j,π i=π j->i=j:=fun i j e=>by
  by_cases hi:i<h.length
  ·by_cases hj:j<h.length
   ·have h1:=πlt i hi;have h2:=πlt j hj;rw[<-e] at h2;obtain⟨q1,q2⟩:=AA.1 h1;obtain⟨q3,q4⟩:=AA.1 h2;have hp:=Ai.1 hnd;rcases At i j with hij|hij|hij
    ·exact absurd (q2.trans q4.symm) (hp i j q1 q3 hij)
    ·exact hij
    ·exact absurd (q4.trans q2.symm) (hp j i q3 q1 hij)
   ·have:=hlt _ (πmem i hi);have:=πge j (by omega);omega
  ·by_cases hj:j<h.length
   ·have:=hlt _ (πmem j hj);have:=πge i (by omega);omega
   ·have:=πge i (by omega);have:=πge j (by omega);omega
 have hfresh: ∀l,H.length<=l->ρ l=AK:=fun l hl=>by
  cases hr:ρ l with
  |none=>rfl
  |some p=>obtain⟨o,h1,_⟩:=hs.obj l p.1 p.2 hr;have:=(AA.1 h1).1;omega
 have hs0:BA w S (fun i=>ρ (π i)) h:=by
  refine⟨hs.sblk,fun i ob C hi=> ?_,fun i j b C C' h1 h2=>πinj _ _ (hs.inj _ _ b C C' h1 h2),fun i b C o hi ho hf=> ?_⟩
  ·by_cases hil:i<h.length
   ·have ho:h[i]? =AD (h[i]'hil):=AB _;obtain⟨o',h1,h2⟩:=a2 i (π i) _ (πlt i hil) (by rw[h5f,AC,ho];rfl);obtain⟨o2,h3,h4⟩:=hs.obj (π i) ob C hi;rw[h1] at h3;cases h3;refine⟨_,ho,?_⟩;have h5:=h2.holds _ _ _ _ _ h4;cases ob with
    |none=>obtain⟨hC,sz',e',h6⟩:=h5;refine⟨hC,sz',e',?_⟩;cases hoo:h[i]'hil<;>rw[hoo] at h6<;>simp[a0f.ren] at h6⊢ <;>exact h6
    |some b=>exact a0z.unren h5
   ·have:=hfresh (π i) (by have:=πge i (by omega);omega);rw[this] at hi;cases hi
  ·have hil:=(AA.1 ho).1;obtain⟨o',h1,h2⟩:=a2 i (π i) _ (πlt i hil) (by rw[h5f,AC,ho];rfl);exact hs.own (π i) b C o' hi h1 (h2.frz (by rw[h6j];exact hf))
 have hv0:BD w S (fun i=>ρ (π i)) args vs:=by subst ha;refine⟨by have:=hv.1;rw[AV.renL_eq] at this;simpa using this,fun i x v hx hv'=>(hv.2 i (x.ren π) v (by rw[AV.renL_eq,AC,hx];rfl) hv').unren rfl⟩
 refine (hc.2 w S _ vs hs0 hv0).mono fun e w' he=> ?_;obtain⟨v,x,pg,h',S',ρ1,he,hk,hvr,hsim,hext,hlen,hlow⟩:=he;obtain⟨ρ',r1,r2⟩: ∃ρ':Ap,(∀i,ρ' (π i)=ρ1 i)/\(∀l,l<H.length->l∉pos->ρ' l=ρ l):=by
  classical
  refine⟨fun l=>if hl: ∃i,π i=l then ρ1 hl.choose else ρ l,fun i=> ?_,fun l hl hp=> ?_⟩
  ·have hex: ∃j,π j=π i:=⟨i,rfl⟩;simp only[dif_pos hex];rw[πinj _ _ hex.choose_spec]
  ·have: ¬ ∃i,π i=l:=fun⟨i,hi⟩=>by
    by_cases hil:i<h.length
    ·exact hp (hi▸πmem i hil)
    ·have:=πge i (by omega);omega
   simp only[dif_neg this]
 have hcase: ∀l,(l<H.length/\l∉pos)\/ ∃i,π i=l:=fun l=>by
  by_cases hl:l<H.length
  ·by_cases hp:l∈pos
   ·obtain⟨i,hi⟩:=AP hp;have hi':=(AA.1 hi).1;have:=πlt i (by omega);rw[hi] at this;exact .inr ⟨i,(Aj this).symm⟩
   ·exact .inl ⟨hl,hp⟩
  ·exact .inr ⟨h.length+(l-H.length),by have:=πge (h.length+(l-H.length)) (by omega);omega⟩
 have hkeep: ∀l p,l∉pg.map π->ρ l=AD p->ρ' l=AD p:=fun l p hl hp=>by
  rcases hcase l with⟨h1,h2⟩|⟨i,rfl⟩
  ·rw[r2 l h1 h2];exact hp
  ·rw[r1];by_cases hil:i<h.length
   ·rw[hlow i hil (fun hm=>hl (Ae.2 ⟨i,hm,rfl⟩))];exact hp
   ·have:=hfresh (π i) (by have:=πge i (by omega);omega);rw[this] at hp;cases hp
 have hlow': ∀l,l<H.length->l∉pg.map π->ρ' l=ρ l:=fun l hl hn=>by
  rcases hcase l with⟨h1,h2⟩|⟨i,rfl⟩
  ·exact r2 l h1 h2
  ·have hil:i<h.length:=Aw fun hle=>by have:=πge i hle;omega
   rw[r1,hlow i hil (fun hm=>hn (Ae.2 ⟨i,hm,rfl⟩))]
 have hfl:(h4b (pg.map π) H).length=H.length:=h6c _ _;have hplen:pos.length<=(i2l π h').length:=by rw[h5f,AJ];omega
 have hlt': ∀l,l∈pos->l<(h4b (pg.map π) H).length:=fun l hl=>by rw[hfl];exact hlt l hl
 have hget: ∀i o,h'[i]? =AD o->(h4m (h4b (pg.map π) H) pos (i2l π h'))[π i]? =AD (o.ren π):=fun i o hi=>by have hil:=(AA.1 hi).1;have:=h5u (H:=h4b (pg.map π) H) (os:=i2l π h') (i:=i) hnd hlt' hplen (by rw[h5f,AJ];exact hil);rw[hfl,hπ] at this;rw[this,h5f,AC,hi];rfl
 have hout: ∀l b C,l<H.length->l∉pos->ρ l=AD (AD b,C)->w'.heap[b]? =w.heap[b]? /\ ¬ ∃i C',ρ1 i=AD (AD b,C'):=fun l b C hl hp hr=>by
  have hb:=hs.blk hr;have hno: ∀i C',ρ (π i)≠AD (AD b,C'):=fun i C' h1=>by
   have:=hs.inj _ _ b _ _ hr h1;subst this;by_cases hil:i<h.length
   ·exact hp (πmem i hil)
   ·have:=πge i (by omega);omega
  refine⟨hext.frame b hb hno,fun⟨i,C',h1⟩=> ?_⟩;rcases hext.owned i b C' h1 with h2|⟨j,C2,h2⟩
  ·omega
  ·exact hno j C2 h2
 have hsim':BA w' S' ρ' (h4m (h4b (pg.map π) H) pos (i2l π h')):=by
  refine⟨hsim.sblk,fun l ob C hl=> ?_,fun l l' b C C' h1 h2=> ?_,fun l b C o hl ho hf=> ?_⟩
  ·rcases hcase l with⟨h1,h2⟩|⟨i,rfl⟩
   ·rw[r2 l h1 h2] at hl;obtain⟨o,h3,h4⟩:=hs.obj l ob C hl;refine⟨h4h (pg.map π) o,by rw[h4n (by rw[hfl];exact h1) h2,h5y,h3];rfl,?_⟩;cases ob with
    |none=>
     obtain⟨hC,sz',e',h6⟩:=h4;refine⟨hC,sz',e',?_⟩;have: ∀(pg:List Nat) (o:a0f),(o= .arr sz' 0 e'\/o= .frz sz' 0 e')->h4h pg o=o:=by
      intro pg
      induction pg with
      |nil=>intro o _;rfl
      |cons l pg ih=>intro o h;rw[h4h];rcases h with rfl|rfl<;>exact ih _ (by simp[AZ])
     rw[this _ _ h6];exact h6
    |some b=>exact a0z.forgets hext.mono hext.cell (hout l b C h1 h2 hl).1 _ hkeep h4
   ·rw[r1] at hl;obtain⟨o,h3,h4⟩:=hsim.obj i ob C hl;refine⟨_,hget i o h3,?_⟩;cases ob with
    |none=>
     obtain⟨hC,sz',e',h6⟩:=h4;refine⟨hC,sz',e',?_⟩;rcases h6 with rfl|rfl
     ·exact .inl rfl
     ·exact .inr rfl
    |some b=>exact a0z.ren (fun j p hp=>by rw[r1];exact hp) h4
  ·rcases hcase l with⟨g1,g2⟩|⟨i,rfl⟩
   ·rcases hcase l' with⟨g3,g4⟩|⟨j,rfl⟩
    ·rw[r2 l g1 g2] at h1;rw[r2 l' g3 g4] at h2;exact hs.inj _ _ b C C' h1 h2
    ·rw[r2 l g1 g2] at h1;rw[r1] at h2;exact absurd ⟨j,C',h2⟩ (hout l b C g1 g2 h1).2
   ·rcases hcase l' with⟨g3,g4⟩|⟨j,rfl⟩
    ·rw[r1] at h1;rw[r2 l' g3 g4] at h2;exact absurd ⟨i,C,h1⟩ (hout l' b C' g3 g4 h2).2
    ·rw[r1] at h1 h2;rw[hsim.inj i j b C C' h1 h2]
  ·rcases hcase l with⟨g1,g2⟩|⟨i,rfl⟩
   ·rw[r2 l g1 g2] at hl;rw[h4n (by rw[hfl];exact g1) g2,h5y] at ho;obtain⟨o1,h3,_⟩:=hs.obj l _ C hl;rw[h3] at ho;simp at ho;subst ho;rw[h6g] at hf;intro hS;rcases hext.news b hS with h4|h4|⟨j,C',h4⟩
    ·exact hs.own l b C o1 hl h3 hf h4
    ·have:=hs.blk hl;omega
    ·have:=hs.inj _ _ b _ _ hl h4;subst this;by_cases hil:j<h.length
     ·exact g2 (πmem j hil)
     ·have:=πge j (by omega);omega
   ·rw[r1] at hl;obtain⟨o1,h3,_⟩:=hsim.obj i _ C hl;rw[hget i o1 h3] at ho;cases ho;rw[h6j] at hf;exact hsim.own i b C o1 hl h3 hf
 refine⟨v,x.ren π,pg.map π,_,S',ρ',he,⟨pg,x,h',hk,(a5m _ _).symm,rfl,rfl⟩,hvr.ren (fun i p hp=>by rw[r1];exact hp),hsim',?_,?_,hlow'⟩
 ·refine⟨hext.os,hext.tape,hext.output,hext.size,hext.mono,hext.cell,fun b hb=> ?_,fun b hb hn=>hext.frame b hb (fun i C=>hn (π i) C),fun l b C hl=> ?_⟩
  ·rcases hext.news b hb with h1|h1|⟨i,C,h1⟩
   ·exact .inl h1
   ·exact .inr (.inl h1)
   ·exact .inr (.inr ⟨π i,C,h1⟩)
  ·rcases hcase l with⟨g1,g2⟩|⟨i,rfl⟩
   ·rw[r2 l g1 g2] at hl;exact .inr ⟨l,C,hl⟩
   ·rw[r1] at hl;rcases hext.owned i b C hl with h1|⟨j,C',h1⟩
    ·exact .inl h1
    ·exact .inr ⟨π j,C',h1⟩
 ·rw[h5m hplen,hfl];omega
def int (z:Int):AV:= .d (.int .i64 (.v z))
def u8 (z:Int):AV:= .d (.int .u8 (.v z))
def bool (b:Bool):AV:= .d (.bool b)
def isl (n:Nat)(g:Nat->Int):AV:= .d (.sl 1 n fun i=>[.int .i64 (.v (g i))])
theorem b6g {x:Int}(h1: -9223372036854775808<=x)(h2:x<=9223372036854775807):BE.wrap x=x:=by simp[Ay,Az,Ar];omega
theorem a0s {a b:Bool}(h:a=b):a0x (.d (.bool a)) (.d (.bool b)):=by subst h;exact A5 _
theorem ff {r:Bool}{p:Prop}(hr:r=AE↔p)(h: ¬p):AG=r:=by
 cases r
 ·rfl
 ·exact absurd (hr.1 rfl) h
theorem tt {r:Bool}{p:Prop}(hr:r=AE↔p)(h:p):AE=r:=(hr.2 h).symm
theorem e8z {r:Bool}{p:Prop}(hr:r=AE↔p)(h: ¬p):a0x (.d (.bool AG)) (.d (.bool r)):=a0s (ff hr h)
theorem h8e {r:Bool}{p:Prop}(hr:r=AE↔p)(h:p):a0x (.d (.bool AE)) (.d (.bool r)):=a0s (tt hr h)
theorem a6c {k:Ag}{a b:Int}(h:a=b):a0x (.d (.int k (.l a))) (.d (.int k (.v b))):=a0x.int h
theorem b0a {k:Ag}{a b:Int}(h:a=b):a0x (.d (.int k (.v a))) (.d (.int k (.v b))):=a0x.int h
theorem a0x.nil0 {sz:Nat}{e:Nat->List DV}:a0x (.d .nil) (.d (.sl sz 0 e)):=by
 intro w S ρ v h;cases h with
 |d h=>cases h;exact .d (.sl0 _ _ _ _)
theorem a0x.sl' {sz n m:Nat}{e e':Nat->List DV}(hn:n=m)(h: ∀i,i<n->e i=e' i):a0x (.d (.sl sz n e)) (.d (.sl sz m e')):=by subst hn;exact a0x.sl h
theorem a0x.isl {n m:Nat}{g h:Nat->Int}(hn:n=m)(hg: ∀i,i<n->g i=h i):a0x (.d (.sl 1 n fun i=>[.int .i64 (.v (g i))])) (.d (.sl 1 m fun i=>[.int .i64 (.v (h i))])):=
 a0x.sl' hn fun i hi=>by rw[hg i hi]
theorem b4i {P:AM}{f:AU}{args:List AV}{x y:AV}{l:List AV}(hf: ∀z,z∈x::y::l->c0j z)(h:a0j P AG f args (.tuple (x::y::l))):a0j P AE f args (.tuple (x::y::l)):=
 b4e (xs:=x::y::l) hf h
theorem i5z {P:AM}{A:Ann}{ro:Option Nat}{E:A3}{Sg:BC}{Q:Lv->St->Prop}(hm:P.follows .mixedOrders=AE)(hok:OkP P)(hS:Sg=AT P A ro E)(m:Nat){ic:a0c}{st:St}(h:b4o Sg m ic Q st):Sg.loop ic Q st:=by subst hS;exact b2n hm hok h
theorem a4k.same: ∀(h:List a0f),a4k h h
 |[]=> .nil _
 |o::h=> .cons (.refl o) (a4k.same h)
def ro (h:List a0f)(r:AV)(pg:List Nat)(v:AV)(h':List a0f):Prop:=pg=[]/\v=r/\h'=h
section
variable {P:AM} {f:AU} {args:List AV} {h:List a0f}
theorem a1h.of_pure {own:Bool}{r:AV}(hf:a3z args=AE)(hp:a0j P own f args r):a1h P f args h (ro h r):=by
 refine⟨hp.1,fun w S ρ vs hs hv=> ?_⟩;have hv0:BD w S a2j args vs:=⟨hv.1,fun i x v hx hu=>b4t (vs:=vs.toList) hf (fun i x v hx hu=>hv.2 i x v hx (by simpa using hu)) i x v hx (by simpa using hu)⟩;refine (hp.2 w S vs hs.sblk hv0).mono fun e w' he=> ?_;obtain⟨v,S',h1,h2,h3,h4⟩:=he;have c:=b5v (S1:=S') hs (fun b hb=>by
  rcases h3 b hb with h|h
  ·exact .inl h.2
  ·exact .inr h) h4
 exact⟨v,r,[],h,_,ρ,h1,⟨rfl,rfl,rfl⟩,h2.mono (fun b hb=> .inr hb) (fun _ _=>rfl) (fun l p hl=>by cases hl),c.sim,c.ext,Af _,fun l _ _=>rfl⟩
theorem a1h.cut {K:List Nat->AV->List a0f->Prop}(hc:a1h P f args h (fun pg v h'=> ∃h0 v0,a4k h' h0/\a0x v v0/\h.length<=h0.length/\((v0.low h0.length=AE/\d5i h0.length h0=AE)\/h'.length=h0.length)/\K pg v0 h0)):a1h P f args h K:=by
 refine⟨hc.1,fun w S ρ vs hs hv=>(hc.2 w S ρ vs hs hv).mono fun e w' he=> ?_⟩;obtain⟨v,x,pg,h',S',ρ',h1,⟨h0,v0,k1,k2,k3,k45,k6⟩,h2,h3,h4,h5,h6⟩:=he;obtain⟨l3,l4⟩:=k1.get;have hcut: ∀m p,ρ'.cut h0.length m=AD p->m<h0.length/\ρ' m=AD p:=fun m p hp=>by
  unfold Rho.cut at hp;split at hp
  ·rename_i h;exact⟨h,hp⟩
  ·cases hp
 by_cases hn:h'.length=h0.length
 ·refine⟨v,v0,pg,h0,S',ρ',h1,k6,k2 _ _ _ _ h2,⟨h3.sblk,fun m ob C hl=> ?_,h3.inj,fun m b C o hl ho hf=> ?_⟩,h4,k3,h6⟩
  ·obtain⟨o,q1,q2⟩:=h3.obj m ob C hl;have hm:=(AA.1 q1).1;have q3:h0[m]? =AD (h0[m]'(by omega)):=AB _;exact⟨_,q3,(l4 m o _ q1 q3).holds _ _ _ _ _ q2⟩
  ·obtain⟨o1,q1,q2⟩:=h3.obj m _ C hl;exact h3.own m b C o1 hl q1 ((l4 m o1 o q1 ho).frz hf)
 obtain⟨k4,k5⟩:=k45.resolve_right hn;refine⟨v,v0,pg,h0,S',ρ'.cut h0.length,h1,k6,(k2 _ _ _ _ h2).cut k4,⟨h3.sblk,fun m ob C hl=> ?_,fun m m' b C C' q1 q2=>h3.inj m m' b C C' (hcut _ _ q1).2 (hcut _ _ q2).2,fun m b C o hl ho hf=> ?_⟩,?_,k3,fun m hm hmv=> ?_⟩
 ·obtain⟨hm,hl⟩:=hcut _ _ hl;obtain⟨o,q1,q2⟩:=h3.obj m ob C hl;have q3:h0[m]? =AD (h0[m]'hm):=AB _;refine⟨_,q3,?_⟩;have q4:=(l4 m o _ q1 q3).holds _ _ _ _ _ q2;cases ob with
  |none=>exact q4
  |some b=>exact a0z.cut q4 (c1k k5 q3)
 ·obtain⟨hm,hl⟩:=hcut _ _ hl;obtain⟨o1,q1,q2⟩:=h3.obj m _ C hl;exact h3.own m b C o1 hl q1 ((l4 m o1 o q1 ho).frz hf)
 ·exact⟨h4.os,h4.tape,h4.output,h4.size,h4.mono,h4.cell,h4.news,h4.frame,fun m b C hl=>h4.owned m b C (hcut _ _ hl).2⟩
 ·have e:ρ'.cut h0.length m=ρ' m:=if_pos (by omega);rw[e];exact h6 m hm hmv
theorem VRs.like {w:AX}{S:Nat->Prop}{ρ:Ap}{xs ys:List AV}{vs:Array AO}(h:a3x xs ys)(hv:BD w S ρ xs vs):BD w S ρ ys vs:=
 ⟨by rw[<-h.get.1];exact hv.1,Ak h.get.1 h.get.2 hv.2⟩
theorem a0j.like {own:Bool}{args':List AV}{r:AV}(h:a3x args' args)(hp:a0j P own f args r):a0j P own f args' r:=
 ⟨hp.1,fun w S vs hS hv=>hp.2 w S vs hS (hv.like h)⟩
theorem a1h.like {args':List AV}{K:List Nat->AV->List a0f->Prop}(hl:a3x args' args)(hp:a1h P f args h K):a1h P f args' h K:=
 ⟨hp.1,fun w S ρ vs hs hv=>hp.2 w S ρ vs hs (hv.like hl)⟩
theorem a3x.same: ∀(xs:List AV),a3x xs xs
 |[]=> .nil
 |x::xs=> .cons (A5 x) (a3x.same xs)
def roK (h0:List a0f)(r:AV)(pg:List Nat)(v:AV)(h':List a0f):Prop:=
 ∃h1 v0,a4k h' h1/\a0x v v0/\h0.length<=h1.length/\((v0.low h1.length=AE/\d5i h1.length h1=AE)\/h'.length=h1.length)/\ro h0 r pg v0 h1
theorem a2s {base:Nat}{h':List a0f}{v r:AV}(hv:a0x v r)(hl:a4k h' h)(hc:(r.low h.length=AE/\d5i h.length h=AE)\/h'.length=h.length):
 ∃pg,(∀l,l<base->l∈([]:List Nat)->l∈pg)/\roK h r pg v h':=
 ⟨[],by simp,h,r,hl,hv,Af _,hc,rfl,rfl,rfl⟩
theorem a2y {x:XFn}(hm:P.follows .mixedOrders=AE)(hok:OkP P)(hx:a0q P f x)(r:AV)(hn:Au args.length x.n=AE)
 (hv: ∀(E:A3) (Sg:BC),E.base=h.length->Sg=AT P x.A AK E->ev Sg x.ic (d4j Sg x.irs h.length (roK h r)) ⟨a9g args (x.n-args.length),h,[]⟩):a1h P f args h (ro h r):=
 a1h.cut (b9y hm hok hx hn hv)
theorem h3w {x:XFn}{K:List Nat->AV->List a0f->Prop}(hm:P.follows .mixedOrders=AE)(hok:OkP P)(hx:a0q P f x)(hn:Au args.length x.n=AE)
 (hv: ∀(E:A3) (Sg:BC),E.base=h.length->Sg=AT P x.A AK E-> ∀F:List Nat->AV->List a0f->Prop,
   (∀{pg:List Nat} {v v0:AV} {h' h1:List a0f},a4k h' h1->a0x v v0->h.length<=h1.length->((v0.low h1.length=AE/\d5i h1.length h1=AE)\/h'.length=h1.length)->K pg v0 h1->F pg v h')->
   ev Sg x.ic (d4j Sg x.irs h.length F) ⟨a9g args (x.n-args.length),h,[]⟩):a1h P f args h K:=by
 refine a1h.cut (b9y hm hok hx hn fun E Sg hb hS=>hv E Sg hb hS _ ?_);intro pg v v0 h' h1 k1 k2 k3 k4 k5;exact⟨h1,v0,k1,k2,k3,k4,k5⟩
theorem h3v {A:Ann}{rr:Option Nat}{E:A3}{Sg:BC}(hS:Sg=AT P A rr E){K K':List Nat->AV->List a0f->Prop}(hc:a1h P f args h K)(hk: ∀pg v h',K pg v h'->K' pg v h'):Sg.call f args h K':=by subst hS;exact a1h.mono hk hc
theorem a3v {A:Ann}{rr:Option Nat}{E:A3}{Sg:BC}(hS:Sg=AT P A rr E){r:AV}{K:List Nat->AV->List a0f->Prop}(hc:a1h P f args h (ro h r))(hk:K [] r h):Sg.call f args h K:=by subst hS;refine a1h.mono (fun pg v h' e=> ?_) hc;obtain⟨rfl,rfl,rfl⟩:=e;exact hk
end
def d6k (l sz:Nat):List AV->List AV->Prop
 |[],[]=>True
 |x::xs,y::ys=>(y=x\/(x= .d .nil/\y= .msl l sz AK 0 AG))/\d6k l sz xs ys
 |_,_=>False
def a5b (ρ:Ap)(l:Nat):Ap:=fun m=>if m=l then AD (AK,0) else ρ m
theorem b6s {ρ:Ap}{l:Nat}(h:ρ l=AK): ∀m p,ρ m=AD p->a5b ρ l m=AD p:=fun m p hm=>by
 unfold a5b;split
 ·rename_i e;subst e;rw[h] at hm;cases hm
 ·exact hm
theorem a2e {ρ:Ap}{l m b C:Nat}(h:a5b ρ l m=AD (AD b,C)):m≠l/\ρ m=AD (AD b,C):=by
 unfold a5b at h;split at h
 ·cases h
 ·rename_i e;exact⟨e,h⟩
theorem Sim.add_nil {w:AX}{S:Nat->Prop}{ρ:Ap}{h:List a0f}(hs:BA w S ρ h)(sz:Nat)(e:Nat->List DV):ρ h.length=AK/\BA w S (a5b ρ h.length) (h++[.arr sz 0 e]):=by
 have hn:ρ h.length=AK:=by
  cases hh:ρ h.length with
  |none=>rfl
  |some p=>obtain⟨ob,C⟩:=p;obtain⟨o,h1,_⟩:=hs.obj _ _ _ hh;have:=(AA.1 h1).1;omega
 refine⟨hn,⟨hs.sblk,fun l ob C hl=> ?_,fun l l' b C C' h1 h2=> ?_,fun l b C o h1 h2 h3=> ?_⟩⟩
 ·by_cases he:l=h.length
  ·subst he;simp only[a5b,if_pos] at hl;cases hl;exact⟨_,by simp,rfl,sz,e,.inl rfl⟩
  ·have hl':ρ l=AD (ob,C):=by simpa [a5b,he] using hl
   obtain⟨o,h1,h2⟩:=hs.obj _ _ _ hl';have hlt:=(AA.1 h1).1;refine⟨o,by rw[AF hlt];exact h1,?_⟩;cases ob with
   |none=>exact h2
   |some b=>exact a0z.mono (fun _ h=>h) (fun _ _=>rfl) (b6s hn) rfl h2
 ·exact hs.inj l l' b C C' (a2e h1).2 (a2e h2).2
 ·obtain⟨a1,a2⟩:=a2e h1;obtain⟨o',h4,_⟩:=hs.obj _ _ _ a2;have hlt:=(AA.1 h4).1;rw[AF hlt] at h2;exact hs.own l b C o a2 h2 h3
theorem b9q {w:AX}{S:Nat->Prop}{ρ:Ap}{l sz:Nat}(hn:ρ l=AK): ∀{xs ys:List AV},d6k l sz xs ys->xs.length=ys.length/\ ∀(i:Nat) (x y:AV) (v:AO),xs[i]? =AD x->ys[i]? =AD y->VR w S ρ x v->VR w S (a5b ρ l) y v
 |[],[],_=>⟨rfl,by simp⟩
 |[],_::_,h=>h.elim
 |_::_,[],h=>h.elim
 |x::xs,y::ys,h=>by
  obtain⟨h1,h2⟩:=h;obtain⟨h3,h4⟩:=b9q hn h2;refine⟨by simp[h3],fun i u z v hu hz hv=> ?_⟩;cases i with
  |succ i=>simp at hu hz;exact h4 i u z v hu hz hv
  |zero=>
   simp at hu hz;subst hu;subst hz;rcases h1 with rfl|⟨rfl,rfl⟩
   ·exact VR.mono (fun _ h=>h) (fun _ _=>rfl) (b6s hn) hv
   ·cases hv with
    |d hd=>cases hd;exact .msl l sz AK 0 AG AK 0 0 AK (by simp[a5b]) (by simp) (by simp) (by simp)
def nilH (l sz:Nat):List a0f->List a0f->Prop
 |[],[]=>True
 |o::os,p::ps=>(p=o\/ ∃cs ds,o= .var cs/\p= .var ds/\d6k l sz cs ds)/\nilH l sz os ps
 |_,_=>False
theorem b5q {l sz:Nat}: ∀{os ps:List a0f},nilH l sz os ps->os.length=ps.length/\ ∀(i:Nat) (o p:a0f),os[i]? =AD o->ps[i]? =AD p->p=o\/ ∃cs ds,o= .var cs/\p= .var ds/\d6k l sz cs ds
 |[],[],_=>⟨rfl,by simp⟩
 |[],_::_,h=>h.elim
 |_::_,[],h=>h.elim
 |o::os,p::ps,h=>by
  obtain⟨h1,h2⟩:=h;obtain⟨h3,h4⟩:=b5q h2;refine⟨by simp[h3],fun i u v hu hv=> ?_⟩;cases i with
  |zero=>simp at hu hv;subst hu;subst hv;exact h1
  |succ i=>simp at hu hv;exact h4 i u v hu hv
theorem Sim.add_nilH {w:AX}{S:Nat->Prop}{ρ:Ap}{h h2:List a0f}(hs:BA w S ρ h)(sz:Nat)(e:Nat->List DV)(hh:nilH h.length sz h h2):ρ h.length=AK/\BA w S (a5b ρ h.length) (h2++[.arr sz 0 e]):=by
 obtain⟨hn,hs'⟩:=hs.add_nil sz e;obtain⟨g1,g2⟩:=b5q hh;refine⟨hn,⟨hs'.sblk,fun l ob C hl=> ?_,hs'.inj,fun l b C o q1 q2 q3=> ?_⟩⟩
 ·obtain⟨o,h1,h3⟩:=hs'.obj l ob C hl;by_cases hlt:l<h.length
  ·rw[AF hlt] at h1;have hx:h2[l]? =AD (h2[l]'(by omega)):=AB _;refine⟨_,by rw[AF (by omega)];exact hx,?_⟩;rcases g2 l o _ h1 hx with e1|⟨cs,ds,e1,e2,e3⟩
   ·rw[e1];exact h3
   ·subst e1;rw[e2];cases ob with
    |none=>obtain⟨_,sz',e',k|k⟩:=h3<;>cases k
    |some b=>obtain⟨vs,ty,k1,k2,k3⟩:=h3;have hl':ρ l=AD (AD b,C):=(a2e hl).2;obtain⟨o0,m1,m2⟩:=hs.obj l _ C hl';rw[h1] at m1;cases m1;obtain⟨vs',ty',n1,n2,n3⟩:=m2;rw[n1] at k1;cases k1;obtain⟨a1,a2⟩:=b9q (w:=w) (S:=S) hn e3;refine⟨vs,ty,n1,by omega,fun i x v hx hv=> ?_⟩;have hi:i<ds.length:=(AA.1 hx).1;have hc:cs[i]? =AD (cs[i]'(by omega)):=AB _;exact a2 i _ x v hc hx (n3 i _ v hc hv)
  ·have h4:l=h.length:=by have:=(AA.1 h1).1;simp at this;omega
   subst h4;rw[AQ (by omega)] at h1;refine⟨o,?_,h3⟩;rw[g1,AQ (by omega)];simpa using h1
 ·obtain⟨a1,a2⟩:=a2e q1;obtain⟨o',h4,_⟩:=hs.obj _ _ _ a2;have hlt:=(AA.1 h4).1;rw[AF (by omega)] at q2;rcases g2 l o' o h4 q2 with e1|⟨cs,ds,e1,e2,e3⟩
  ·rw[e1] at q3;exact hs.own l b C o' a2 h4 q3
  ·rw[e1] at h4;exact hs.own l b C _ a2 h4 rfl
theorem a1h.nilH {P:AM}{f:AU}{args args':List AV}{h h2:List a0f}{K:List Nat->AV->List a0f->Prop}(sz:Nat)(e:Nat->List DV)(hc:a1h P f args' (h2++[.arr sz 0 e]) K)
 (hl:d6k h.length sz args args') (hh:Vf.nilH h.length sz h h2):a1h P f args h K:=by
 refine⟨hc.1,fun w S ρ vs hs hv=> ?_⟩;obtain⟨hn,hs'⟩:=hs.add_nilH sz e hh;have g1:=(b5q hh).1;obtain⟨a1,a2⟩:=b9q (w:=w) (S:=S) hn hl;have hv':BD w S (a5b ρ h.length) args' vs:=⟨by rw[<-a1];exact hv.1,fun i y v hy hu=>by
  have hi:i<args'.length:=(AA.1 hy).1;have hx:args[i]? =AD (args[i]'(by omega)):=AB _;exact a2 i _ y v hx hy (hv.2 i _ v hx hu)⟩
 refine (hc.2 w S (a5b ρ h.length) vs hs' hv').mono fun x w' hR=> ?_;obtain⟨v,x,pg,h',S',ρ',b1,b2,b3,b4,b5,b6,b7⟩:=hR;refine⟨v,x,pg,h',S',ρ',b1,b2,b3,b4,⟨b5.os,b5.tape,b5.output,b5.size,b5.mono,b5.cell,fun b hb=> ?_,fun b hb hfr=> ?_,fun l b C hl=> ?_⟩,?_,fun l hl hp=> ?_⟩
 ·rcases b5.news b hb with h1|h1|⟨l,C,h1⟩
  ·exact .inl h1
  ·exact .inr (.inl h1)
  ·exact .inr (.inr ⟨l,C,(a2e h1).2⟩)
 ·exact b5.frame b hb fun l C h1=>hfr l C (a2e h1).2
 ·rcases b5.owned l b C hl with h1|⟨l,C,h1⟩
  ·exact .inl h1
  ·exact .inr ⟨l,C,(a2e h1).2⟩
 ·simp at b6;omega
 ·rw[b7 l (by simp;omega) hp];unfold a5b;rw[if_neg (by omega)]
theorem b6l (l sz:Nat): ∀h:List a0f,Vf.nilH l sz h h
 |[]=>trivial
 |_::h=>⟨.inl rfl,b6l l sz h⟩
theorem a1h.nil {P:AM}{f:AU}{args args':List AV}{h:List a0f}{K:List Nat->AV->List a0f->Prop}(sz:Nat)(e:Nat->List DV)(hc:a1h P f args' (h++[.arr sz 0 e]) K)(hl:d6k h.length sz args args'):a1h P f args h K:=
 a1h.nilH sz e hc hl (b6l _ _ h)
theorem a1h.pgs {P:AM}{f:AU}{args:List AV}{h:List a0f}{K:List Nat->AV->List a0f->Prop}(hc:a1h P f args h K):a1h P f args h fun pg v h'=> ∃pg1,K pg1 v h'/\pg=pg1.filter fun l=>decide (l<h.length):=by refine⟨hc.1,fun w S ρ vs hs hv=>(hc.2 w S ρ vs hs hv).mono fun x w' hR=> ?_⟩;obtain⟨v,x,pg,h',S',ρ',b1,b2,b3,b4,b5,b6,b7⟩:=hR;exact⟨v,x,_,h',S',ρ',b1,⟨pg,b2,rfl⟩,b3,b4,b5,b6,fun l hl hp=>b7 l hl fun hm=>hp (by simp[hm,hl])⟩
theorem a0j.empty {P:AM}{own:Bool}{f:AU}{sz:Nat}{e:Nat->List DV}{asx:List AV}{r:AV}
 (h: ∀a cap,a0j P own f (.d (.raw (.slice a 0 cap))::asx) r):a0j P own f (.d (.sl sz 0 e)::asx) r:=by
 refine⟨(h AK 0).1,fun w S vs hS hv=> ?_⟩;have h0: ∃v,vs[0]? =AD v:=⟨_,Ah (by rw[<-hv.1];simp)⟩;obtain⟨v,hv0⟩:=h0;have h1:=hv.2 0 _ v rfl hv0;have hx: ∃a cap,v= .slice a 0 cap:=by
  cases h1 with
  |d hd=>
   cases hd with
   |sl0 _ _ a cap=>exact⟨a,cap,rfl⟩
   |sl _ _ _ b off cap f hb hc hl hv hr=>exact⟨_,_,rfl⟩
 obtain⟨a,cap,rfl⟩:=hx;refine (h a cap).2 w S vs hS ⟨hv.1,fun i x u hi hu=> ?_⟩;cases i with
 |zero=>rw[hv0] at hu;cases hu;simp at hi;subst hi;exact .d (.raw _ rfl)
 |succ i=>exact hv.2 (i+1) x u hi hu
theorem a1h.empty {P:AM}{f:AU}{sz:Nat}{e:Nat->List DV}{asx:List AV}{H:List a0f}{K:List Nat->AV->List a0f->Prop}
 (h: ∀a cap,a1h P f (.d (.raw (.slice a 0 cap))::asx) H K):a1h P f (.d (.sl sz 0 e)::asx) H K:=by
 refine⟨(h AK 0).1,fun w S ρ vs hS hv=> ?_⟩;have h0: ∃v,vs[0]? =AD v:=⟨_,Ah (by rw[<-hv.1];simp)⟩;obtain⟨v,hv0⟩:=h0;have h1:=hv.2 0 _ v rfl hv0;have hx: ∃a cap,v= .slice a 0 cap:=by
  cases h1 with
  |d hd=>
   cases hd with
   |sl0 _ _ a cap=>exact⟨a,cap,rfl⟩
   |sl _ _ _ b off cap f hb hc hl hv hr=>exact⟨_,_,rfl⟩
 obtain⟨a,cap,rfl⟩:=hx;refine (h a cap).2 w S ρ vs hS ⟨hv.1,fun i x u hi hu=> ?_⟩;cases i with
 |zero=>rw[hv0] at hu;cases hu;simp at hi;subst hi;exact .d (.raw _ rfl)
 |succ i=>exact hv.2 (i+1) x u hi hu
theorem a1h.ret_nil {P:AM}{f:AU}{args:List AV}{h:List a0f}{K:List Nat->AV->List a0f->Prop}(sz:Nat)(e:Nat->List DV)
 (hc:a1h P f args h fun pg v h'=>(v= .d .nil/\K pg (.msl h'.length sz AK 0 AG) (h'++[.arr sz 0 e]))\/K pg v h'):a1h P f args h K:=by
 refine⟨hc.1,fun w S ρ vs hs hv=> ?_⟩;refine (hc.2 w S ρ vs hs hv).mono fun x w' hR=> ?_;obtain⟨v,x,pg,h',S',ρ',b1,⟨rfl,b2⟩|b2,b3,b4,b5,b6,b7⟩:=hR
 ·obtain⟨hn,hs'⟩:=b4.add_nil sz e;refine⟨v,_,pg,_,S',a5b ρ' h'.length,b1,b2,?_,hs',⟨b5.os,b5.tape,b5.output,b5.size,b5.mono,b5.cell,b5.news,b5.frame,fun l b C hl=>b5.owned l b C (a2e hl).2⟩,?_,fun l hl hp=> ?_⟩
  ·cases b3 with
   |d hd=>cases hd;exact .msl h'.length sz AK 0 AG AK 0 0 AK (by simp[a5b]) (by simp) (by simp) (by simp)
  ·simp;omega
  ·unfold a5b;rw[if_neg (by omega)];exact b7 l hl hp
 ·exact⟨v,x,pg,h',S',ρ',b1,b2,b3,b4,b5,b6,b7⟩
theorem i5x {P:AM}{A:Ann}{rr:Option Nat}{E:A3}{Sg:BC}(hS:Sg=AT P A rr E){l:Nat}{args:List AV}{h:List a0f}{K K':List Nat->AV->List a0f->Prop}(hc:b5d P l args h K)(hk: ∀pg v h',K pg v h'->K' pg v h'):Sg.yld l args h K':=by subst hS;exact b5d.mono hk hc
theorem i0x {P:AM}{A:Ann}{E:A3}{Sg:BC}(hS:Sg=AT P A AK E){st:St}{Q:Lv->St->Prop}{f:a0h}{ps:List Nat}{ia ib:a0c}{g:AU}{first cap:List AV}(hf:opd st.ts f= .fn g first cap)
 (h:a1h P g (AV.normL (a2u first (a2u [.yl (a3q st.h)] cap))) (a2u st.h [.loop .ready st.ts ps (fun ca cb=>comp P A ca=AD ia/\comp P A cb=AD ib)]) fun pg _ h2=>b4r (a3q st.h) st.ts st.mv Q pg h2):
 Sg.range f ps ia ib Q st:=by
 subst hS;exact b9s hf h
theorem b5d.cut {P:AM}{l:Nat}{args:List AV}{h:List a0f}{K:List Nat->AV->List a0f->Prop}(hc:b5d P l args h (fun pg v h'=> ∃h0 v0,a4k h' h0/\a0x v v0/\h.length<=h0.length/\((v0.low h0.length=AE/\d5i h0.length h0=AE)\/h'.length=h0.length)/\K pg v0 h0)):b5d P l args h K:=by
 intro w S ρ vs b0 C0 hs hv hρ;refine YieldAt.mono' (hc w S ρ vs b0 C0 hs hv hρ) fun e w' he=> ?_;obtain⟨v,x,pg,h',S',ρ',h1,⟨h0,v0,k1,k2,k3,k45,k6⟩,h2,h3,h4,h5,h6⟩:=he;obtain⟨l3,l4⟩:=k1.get;have hcut: ∀m p,ρ'.cut h0.length m=AD p->m<h0.length/\ρ' m=AD p:=fun m p hp=>by
  unfold Rho.cut at hp;split at hp
  ·rename_i h;exact⟨h,hp⟩
  ·cases hp
 by_cases hn:h'.length=h0.length
 ·refine⟨v,v0,pg,h0,S',ρ',h1,k6,k2 _ _ _ _ h2,⟨h3.sblk,fun m ob C hl=> ?_,h3.inj,fun m b C o hl ho hf=> ?_⟩,h4,k3,h6⟩
  ·obtain⟨o,q1,q2⟩:=h3.obj m ob C hl;have hm:=(AA.1 q1).1;have q3:h0[m]? =AD (h0[m]'(by omega)):=AB _;exact⟨_,q3,(l4 m o _ q1 q3).holds _ _ _ _ _ q2⟩
  ·obtain⟨o1,q1,q2⟩:=h3.obj m _ C hl;exact h3.own m b C o1 hl q1 ((l4 m o1 o q1 ho).frz hf)
 obtain⟨k4,k5⟩:=k45.resolve_right hn;refine⟨v,v0,pg,h0,S',ρ'.cut h0.length,h1,k6,(k2 _ _ _ _ h2).cut k4,⟨h3.sblk,fun m ob C hl=> ?_,fun m m' b C C' q1 q2=>h3.inj m m' b C C' (hcut _ _ q1).2 (hcut _ _ q2).2,fun m b C o hl ho hf=> ?_⟩,?_,k3,fun m hm hmv=> ?_⟩
 ·obtain⟨hm,hl⟩:=hcut _ _ hl;obtain⟨o,q1,q2⟩:=h3.obj m ob C hl;have q3:h0[m]? =AD (h0[m]'hm):=AB _;refine⟨_,q3,?_⟩;have q4:=(l4 m o _ q1 q3).holds _ _ _ _ _ q2;cases ob with
  |none=>exact q4
  |some b=>exact a0z.cut q4 (c1k k5 q3)
 ·obtain⟨hm,hl⟩:=hcut _ _ hl;obtain⟨o1,q1,q2⟩:=h3.obj m _ C hl;exact h3.own m b C o1 hl q1 ((l4 m o1 o q1 ho).frz hf)
 ·exact⟨h4.os,h4.tape,h4.output,h4.size,h4.mono,h4.cell,h4.news,h4.frame,fun m b C hl=>h4.owned m b C (hcut _ _ hl).2⟩
 ·have e:ρ'.cut h0.length m=ρ' m:=if_pos (by omega);rw[e];exact h6 m hm hmv
theorem a9v.loop {s:LSt}{ts ts':List AV}{ps:List Nat}{code code':Code->Code->Prop}(h:a3x ts ts')(hc: ∀a b,code a b->code' a b):a9v (.loop s ts ps code) (.loop s ts' ps code'):=by
 refine⟨id,fun w S ρ ob C hh=> ?_⟩;obtain⟨hl,hg⟩:=h.get;cases ob with
 |none=>obtain⟨h1,sz',e1,h2|h2⟩:=hh<;>cases h2
 |some b=>obtain⟨r,h1,h2,h3,h4,h5,h6,h7⟩:=hh;exact⟨r,h1,h2,h3,h4,hc _ _ h5,by omega,Ak hl hg h7⟩
theorem Sim.heap {w:AX}{S:Nat->Prop}{ρ:Ap}{h h0:List a0f}(h3:BA w S ρ h)(k1:a4k h h0)(hn:h.length=h0.length):BA w S ρ h0:=by
 obtain⟨l3,l4⟩:=k1.get;refine⟨h3.sblk,fun m ob C hl=> ?_,h3.inj,fun m b C o hl ho hf=> ?_⟩
 ·obtain⟨o,q1,q2⟩:=h3.obj m ob C hl;have hm:=(AA.1 q1).1;have q3:h0[m]? =AD (h0[m]'(by omega)):=AB _;exact⟨_,q3,(l4 m o _ q1 q3).holds _ _ _ _ _ q2⟩
 ·obtain⟨o1,q1,q2⟩:=h3.obj m _ C hl;exact h3.own m b C o1 hl q1 ((l4 m o1 o q1 ho).frz hf)
theorem a1h.heap {P:AM}{f:AU}{args:List AV}{h h0:List a0f}{K:List Nat->AV->List a0f->Prop}(hc:a1h P f args h0 K)(k1:a4k h h0)(hn:h.length=h0.length):a1h P f args h K:=
 ⟨hc.1,fun w S ρ vs hs hv=>by rw[hn];exact hc.2 w S ρ vs (hs.heap k1 hn) hv⟩
def b4w (E:A3)(st st':St):Prop:= ∀a w S ρ,Rel E st a w S ρ-> ∃ρ',Rel E st' a w S ρ'
theorem b4w.le {E:A3}{st st':St}(h:Le E.base st st'):b4w E st st':=fun _ _ _ _ r=>r.le h
theorem b4w.trans {E:A3}{st st' st'':St}(h:b4w E st st')(k:b4w E st' st''):b4w E st st'':=fun a w S ρ r=>by obtain⟨ρ',r'⟩:=h a w S ρ r;exact k a w S ρ' r'
theorem b1c (l sz:Nat): ∀xs:List AV,d6k l sz xs xs
 |[]=>trivial
 |_::xs=>⟨.inl rfl,b1c l sz xs⟩
theorem c2l {l sz:Nat}: ∀{xs:List AV} {i:Nat},a1a xs i=AD (.d .nil)->d6k l sz xs (a2x xs i (.msl l sz AK 0 AG))
 |[],i,h=>by cases i<;>simp[a1a] at h
 |x::xs,0,h=>by simp only[a1a,Aa] at h;subst h;exact⟨.inr ⟨rfl,rfl⟩,b1c l sz xs⟩
 |x::xs,i+1,h=>by simp only[a1a] at h;exact⟨.inl rfl,c2l h⟩
theorem c2f {l sz:Nat}: ∀{h:List a0f} {m i:Nat} {cs:List AV},a1a h m=AD (.var cs)->a1a cs i=AD (.d .nil)->nilH l sz h (a2x h m (.var (a2x cs i (.msl l sz AK 0 AG))))
 |[],m,i,cs,h,_=>by cases m<;>simp[a1a] at h
 |o::os,0,i,cs,h,hc=>by simp only[a1a,Aa] at h;subst h;exact⟨.inr ⟨_,_,rfl,rfl,c2l hc⟩,b6l l sz os⟩
 |o::os,m+1,i,cs,h,hc=>by simp only[a1a] at h;exact⟨.inl rfl,c2f h hc⟩
theorem b4w.ghost {E:A3}{st:St}{ts':List AV}{h2:List a0f}(sz:Nat)(e:Nat->List DV)(ht:d6k st.h.length sz st.ts ts')(hh:nilH st.h.length sz st.h h2):b4w E st ⟨ts',h2++[.arr sz 0 e],st.mv⟩:=by
 intro a w S ρ r;obtain⟨hn,hs'⟩:=r.sim.add_nilH sz e hh;have g1:=(b5q hh).1;obtain⟨a1,a2⟩:=b9q (w:=w) (S:=S) hn ht;refine⟨a5b ρ st.h.length,⟨⟨by rw[<-a1];exact r.ts.1,fun i y v hy hu=> ?_⟩,?_,hs',⟨r.ext.os,r.ext.tape,r.ext.output,r.ext.size,r.ext.mono,r.ext.cell,r.ext.news,r.ext.frame,fun m b C hl=>r.ext.owned m b C (a2e hl).2⟩,fun m hm hmv=> ?_,by have:=r.len;simp;omega⟩⟩
 ·have hi:i<ts'.length:=(AA.1 hy).1;have hx:st.ts[i]? =AD (st.ts[i]'(by omega)):=AB _;exact a2 i _ y v hx hy (r.ts.2 i _ v hx hu)
 ·obtain⟨Ds,d1,d2,d3⟩:=r.ds;exact⟨Ds,d1,fun D hD=>⟨(d2 D hD).obj,(d2 D hD).new,fun m C hl=>(d2 D hD).out m C (a2e hl).2,(d2 D hD).imm⟩,d3⟩
 ·have:=r.len;unfold a5b;rw[if_neg (by omega)];exact r.keep m hm hmv
theorem b4w.gt {E:A3}{ts:List AV}{h:List a0f}{mv:List Nat}(i sz:Nat)(e:Nat->List DV)(hi:a1a ts i=AD (.d .nil)):b4w E ⟨ts,h,mv⟩ ⟨a2x ts i (.msl h.length sz AK 0 AG),h++[.arr sz 0 e],mv⟩:=
 b4w.ghost (st:=⟨ts,h,mv⟩) sz e (c2l hi) (b6l _ _ _)
theorem b4w.gh {E:A3}{ts:List AV}{h:List a0f}{mv:List Nat}(m i sz:Nat)(e:Nat->List DV){cs:List AV}(hm:a1a h m=AD (.var cs))(hi:a1a cs i=AD (.d .nil)):
 b4w E ⟨ts,h,mv⟩ ⟨ts,a2x h m (.var (a2x cs i (.msl h.length sz AK 0 AG)))++[.arr sz 0 e],mv⟩:=
 b4w.ghost (st:=⟨ts,h,mv⟩) sz e (b1c _ _ _) (c2f hm hi)
section
variable {P:AM} {A:Ann} {ro:Option Nat} {E:A3} {Sg:BC} {Q:Lv->St->Prop}
def e1r {σ:Type}(E:A3)(R:σ->Prop)(μ:σ->Nat)(st:σ->St)(Q:Lv->St->Prop)(s:σ):Lv->St->Prop
 | .normal,st'=> ∃s',R s'/\μ s'<μ s/\b4w E st' (st s')
 | .exit i,st'=>Q (.exit i) st'
 | .ret,st'=>Q .ret st'
theorem e4p (hm:P.follows .mixedOrders=AE)(hok:OkP P)(hS:Sg=AT P A ro E){σ:Type}(R:σ->Prop)(μ:σ->Nat)(st:σ->St){ic:a0c}{st0:St}(s:σ)(hs:R s)(h0:b4w E st0 (st s))
 (h: ∀s,R s-> ∀N:St->Prop,(∀s' st',R s'->μ s'<μ s->b4w E st' (st s')->N st')->ev Sg ic (c1l N Q) (st s)):Sg.loop ic Q st0:=by
 have h: ∀s,R s->ev Sg ic (e1r E R μ st Q s) (st s):=fun s hs=>by
  have:=h s hs (fun st'=> ∃s',R s'/\μ s'<μ s/\b4w E st' (st s')) fun s' st' h1 h2 h3=>⟨s',h1,h2,h3⟩;have e:c1l (fun st'=> ∃s',R s'/\μ s'<μ s/\b4w E st' (st s')) Q=e1r E R μ st Q s:=by funext lv st';cases lv<;>rfl
  rw[e] at this;exact this
 subst hS;intro c hc a w S ρ hr;obtain⟨ρ1,hr1⟩:=h0 a w S ρ hr;clear hr h0;refine A7 (μ s+1) ?_;have hk:μ s<μ s+1:=Av _;generalize μ s+1=m at hk⊢
 induction m generalizing s a w S ρ1 with
 |zero=>omega
 |succ m ih=>
  refine wpIn_mono (a4x hm hok c ic hc (h s hs) a w S ρ1 hr1) fun e a' w' hp=> ?_;obtain⟨lv,st',S',ρ',h1,h2,h3⟩:=hp;cases lv with
  |normal=>cases e<;>simp[a9d] at h1;obtain⟨s',g1,g2,g3⟩:=h2;obtain⟨ρ',h3⟩:=g3 _ _ _ _ h3;exact ih s' g1 a' w' S' ρ' h3 (by omega)
  |exit i=>cases e<;>simp[a9d] at h1;subst h1;exact⟨_,st',S',ρ',rfl,h2,h3⟩
  |ret=>cases e<;>simp[a9d] at h1;exact⟨_,st',S',ρ',rfl,h2,h3⟩
end
def DL (x y:DV):Prop:= ∀(w:AX) (S:Nat->Prop) (v:AO),DVR w S x v->DVR w S y v
def RL (xs ys:List DV):Prop:=xs.length=ys.length/\ ∀(j:Nat) (x y:DV),xs[j]? =AD x->ys[j]? =AD y->DL x y
theorem DL.refl (x:DV):DL x x:=fun _ _ _ h=>h
theorem DL.int {k:Ag}{x y:IX}(h:x.val=y.val):DL (.int k x) (.int k y):=by intro w S v hv;cases hv;rw[h];exact .int k y
theorem RL.refl (xs:List DV):RL xs xs:=⟨rfl,fun j x y h1 h2=>by rw[h1] at h2;cases h2;exact .refl _⟩
theorem RL.nil:RL [] []:= .refl []
theorem RL.cons {x y:DV}{xs ys:List DV}(h:DL x y)(hs:RL xs ys):RL (x::xs) (y::ys):=
 ⟨by simp[hs.1],fun j u v h1 h2=>by
   cases j with
   |zero=>simp at h1 h2;subst h1;subst h2;exact h
   |succ j=>simp at h1 h2;exact hs.2 j u v h1 h2⟩
theorem RL.one {x y:DV}(h:DL x y):RL [x] [y]:= .cons h .nil
theorem RL.back {xs ys:List DV}(h:RL xs ys){w:AX}{S:Nat->Prop}{f:Nat->AO}(hx: ∀(j:Nat) (x:DV),xs[j]? =AD x->DVR w S x (f j)):
 ∀(j:Nat) (y:DV),ys[j]? =AD y->DVR w S y (f j):=fun j y hy=>by
 have hj:j<ys.length:=(AA.1 hy).1;have:xs[j]? =AD (xs[j]'(by rw[h.1];exact hj)):=AB _;exact h.2 j _ y this hy w S _ (hx j _ this)
theorem DL.sl {sz n m:Nat}{e e':Nat->List DV}(hn:n=m)(h: ∀i,i<n->RL (e i) (e' i)):DL (.sl sz n e) (.sl sz m e'):=by
 subst hn;intro w S v hv;cases hv with
 |sl0 _ _ a cap=>exact .sl0 _ _ _ _
 |sl _ _ _ b off cap f hb hc hl hv hr=>exact .sl sz n e' b off cap f hb hc (fun i hi=>by rw[<-(h i hi).1];exact hl i hi) hv fun i hi j x hx=>(h i hi).back (fun j x hx=>hr i hi j x hx) j x hx
theorem a0x.dl {x y:DV}(h:DL x y):a0x (.d x) (.d y):=by
 intro w S ρ v hv;cases hv with
 |d hd=>exact .d (h w S v hd)
theorem a0x.slr {sz n m:Nat}{e e':Nat->List DV}(hn:n=m)(h: ∀i,i<n->RL (e i) (e' i)):a0x (.d (.sl sz n e)) (.d (.sl sz m e')):= .dl (.sl hn h)
theorem a9v.arrr {sz n m:Nat}{e e':Nat->List DV}(hn:n=m)(h: ∀i,i<n->RL (e i) (e' i)):a9v (.arr sz n e) (.arr sz m e'):=by
 subst hn;refine⟨id,fun w S ρ ob C hh=> ?_⟩;cases ob with
 |none=>
  obtain⟨h1,sz',e1,h2|h2⟩:=hh
  ·cases h2;exact⟨h1,sz,e',.inl rfl⟩
  ·cases h2
 |some b=>obtain⟨vs,ty,h1,h2,h3,h4⟩:=hh;refine⟨vs,ty,h1,h2,h3,fun i hi=> ?_⟩;obtain⟨h5,h6⟩:=h4 i hi;refine⟨by rw[<-(h i hi).1];exact h5,fun j y v hy hv=> ?_⟩;have hj:j<(e' i).length:=(AA.1 hy).1;have:(e i)[j]? =AD ((e i)[j]'(by rw[(h i hi).1];exact hj)):=AB _;exact (h i hi).2 j _ y this hy w S v (h6 j _ v this hv)
section
variable {P:AM} {A:Ann} {ro:Option Nat} {E:A3} {Sg:BC}
structure g8j (Sg:BC):Prop where
 iadd: ∀a b,Sg.iadd a b=a+b
 isub: ∀a b,Sg.isub a b=a-b
 imul: ∀a b,Sg.imul a b=a*b
 iquo: ∀a b,Sg.iquo a b=a.tdiv b
 irem: ∀a b,Sg.irem a b=a.tmod b
 iwrap: ∀k a,Sg.iwrap k a=k.wrap a
 ilt: ∀a b,Sg.ilt a b=decide (a<b)
 ile: ∀a b,Sg.ile a b=decide (a<=b)
 ieq: ∀a b,Sg.ieq a b=(a==b)
 isel: ∀c a b,Sg.isel c a b=if c then a else b
 bnot: ∀a,Sg.bnot a=!a
 band: ∀a b,Sg.band a b=(a&&b)
 beq: ∀a b,Sg.beq a b=(a==b)
 ofNat: ∀n,Sg.ofNat n=(n:Int)
 toNat: ∀n,Sg.toNat n=n.toNat
 nadd: ∀a b,Sg.nadd a b=a+b
 nsub: ∀a b,Sg.nsub a b=a-b
 nmul: ∀a b,Sg.nmul a b=a*b
 nlt: ∀a b,Sg.nlt a b=decide (a<b)
 nmin: ∀a b,Sg.nmin a b=min b a
 upd: ∀e i row j,Sg.upd e i row j=if j=i then row else e j
 app: ∀n e e2 j,Sg.app n e e2 j=if j<n then e j else e2 (j-n)
 shift: ∀e s j,Sg.shift e s j=e (s+j)
 rep: ∀n zs j,Sg.rep n zs j=if j<n then zs else []
 put: ∀at' m e e2 j,Sg.put at' m e e2 j=if at'<=j/\j<at'+m then e2 (j-at') else e j
 mget: ∀f k,Sg.mget f k=(f k).getD 0
 mhas: ∀f k,Sg.mhas f k=(f k).isSome
 mset: ∀f k v k',Sg.mset f k v k'=if k'=k then AD v else f k'
 mcnt: ∀f k n,Sg.mcnt f k n=if (f k).isSome then n else n+1
theorem b2k (hS:Sg=AT P A ro E):g8j Sg:=by
 subst hS;refine⟨?_,?_,?_,?_,?_,?_,?_,?_,?_,?_,?_,?_,?_,?_,?_,?_,?_,?_,?_,?_,?_,?_,?_,?_,?_,?_,?_,?_,?_⟩
 all_goals first|exact fun _=>rfl|exact fun _ _=>rfl|exact fun _ _ _=>rfl|exact fun _ _ _ _=>rfl|exact fun _ _ _ _ _=>rfl|exact fun a b=>Nat.min_comm _ _
theorem i2b (hS:Sg=AT P A ro E){z:Int}{n:Nat}(h:0<=z/\z<n):Sg.inb z n:=by subst hS;exact h
theorem a5p (hS:Sg=AT P A ro E){i n:Nat}(h:i<n):Sg.inb (AS i) n:=by subst hS;exact⟨As i,A8.2 h⟩
theorem e7p (hS:Sg=AT P A ro E){z:Int}(h: -9223372036854775808<=z/\z<=9223372036854775807):Sg.inr .i64 z:=by subst hS;exact b6g h.1 h.2
theorem a4p (hS:Sg=AT P A ro E){a b:Int}(h: -9223372036854775808<=a+b/\a+b<=9223372036854775807):Sg.inr .i64 (Sg.iadd a b):=by subst hS;exact b6g h.1 h.2
theorem a9o (hS:Sg=AT P A ro E){a b:Int}(h: -9223372036854775808<=a-b/\a-b<=9223372036854775807):Sg.inr .i64 (Sg.isub a b):=by subst hS;exact b6g h.1 h.2
theorem k1t (hS:Sg=AT P A ro E){z:Int}(h:0<=z/\z<=255):Sg.inr .u8 z:=by subst hS;simp[AT,Ay,Az,Ar];omega
theorem i2h (hS:Sg=AT P A ro E){a b:Nat}(h:a<b):Sg.pnlt a b:=by subst hS;exact h
theorem e8l (hS:Sg=AT P A ro E){a b:Nat}(h:a<=b):Sg.pnle a b:=by subst hS;exact h
theorem l4n (hS:Sg=AT P A ro E){z:Int}{b:Nat}(h:z.toNat<b):Sg.pnlt (Sg.toNat z) b:=by subst hS;exact h
theorem f1i (hS:Sg=AT P A ro E){a b c:Nat}(h:a+b<=c):Sg.pnle (Sg.nadd a b) c:=by subst hS;exact h
theorem c3d (hS:Sg=AT P A ro E){a:AV}:Sg.same a a:=by subst hS;rfl
theorem i0n (hS:Sg=AT P A ro E){a b:Int}(h:a<=b):Sg.pile a b:=by subst hS;exact h
theorem i4a (hS:Sg=AT P A ro E){a b:Nat}(h:a<=b):Sg.pile (Sg.ofNat a) (Sg.ofNat b):=by subst hS;exact A9.2 h
theorem i4c (hS:Sg=AT P A ro E){a:Nat}:Sg.pile (AS 0) (Sg.ofNat a):=by subst hS;exact As a
theorem i6p (hS:Sg=AT P A ro E){a:Int}(h:a≠0):Sg.nz a:=by subst hS;exact h
theorem e1n (hS:Sg=AT P A ro E){i:Nat}(h:i<=1000000000000):Sg.inr .i64 (Sg.iadd (AS i) (AS 1)):=
 e7p hS (by rw[(b2k hS).iadd];simp only[Int.ofNat_eq_natCast];omega)
theorem b2s (hS:Sg=AT P A ro E){i:Nat}:a0x (.d (.int .i64 (.v (Sg.iadd (AS i) (AS 1))))) (.d (.int .i64 (.v ((i+1:Nat):Int)))):=
 b0a (by rw[(b2k hS).iadd];rfl)
theorem b3h (hS:Sg=AT P A ro E){a b:Int}(h:Sg.ilt a b=AE):a<b:=by subst hS;simpa [AT] using h
theorem b3r (hS:Sg=AT P A ro E){a b:Int}(h:Sg.ilt a b=AG):b<=a:=by subst hS;simpa [AT] using h
theorem d3r (hS:Sg=AT P A ro E){a b:Nat}(h:Sg.ilt (AS a) (Sg.ofNat b)=AE):a<b:=by have:=b3h hS h;rw[(b2k hS).ofNat] at this;exact A8.1 this
theorem d3c (hS:Sg=AT P A ro E){a b:Nat}(h:Sg.ilt (AS a) (Sg.ofNat b)=AG):b<=a:=by have:=b3r hS h;rw[(b2k hS).ofNat] at this;exact A9.1 this
theorem e3n (hS:Sg=AT P A ro E){a b:Int}(h:Sg.ile a b=AE):a<=b:=by subst hS;simpa [AT] using h
theorem e3g (hS:Sg=AT P A ro E){a b:Int}(h:Sg.ile a b=AG):b<a:=by subst hS;simpa [AT] using h
theorem e2h (hS:Sg=AT P A ro E){a b:Int}(h:Sg.ieq a b=AE):a=b:=by subst hS;simpa [AT] using h
theorem c8k (hS:Sg=AT P A ro E){a b:Int}(h:Sg.ieq a b=AG):a≠b:=by subst hS;simpa [AT] using h
theorem j6i (hS:Sg=AT P A ro E){a b:Nat}(h:a=b):Sg.ieq (AS a) (Sg.ofNat b)=AE:=by subst hS;subst h;simp[AT]
theorem j6f (hS:Sg=AT P A ro E){a b:Nat}(h:a≠b):Sg.ieq (AS a) (Sg.ofNat b)=AG:=by subst hS;simp[AT];omega
theorem e8q (hS:Sg=AT P A ro E){a b:Int}(h:Sg.bnot (Sg.ieq a b)=AE):a≠b:=by subst hS;simpa [AT] using h
theorem e8o (hS:Sg=AT P A ro E){a b:Int}(h:Sg.bnot (Sg.ieq a b)=AG):a=b:=by subst hS;simpa [AT] using h
theorem d7h (hS:Sg=AT P A ro E){sz n:Nat}{e e2 e':Nat->List DV}(h1: ∀j,j<n->RL (e j) (e' j))(h2:RL (e2 0) (e' n)):a9v (.arr sz (Sg.nadd n 1) (Sg.app n e e2)) (.arr sz (n+1) e'):=by
 refine a9v.arrr (by rw[(b2k hS).nadd]) fun j hj=> ?_;rw[(b2k hS).nadd] at hj;rw[(b2k hS).app];by_cases h:j<n
 ·rw[if_pos h];exact h1 j h
 ·obtain rfl:j=n:=by omega
  rw[if_neg h,Al];exact h2
theorem h8m (hS:Sg=AT P A ro E){sz n:Nat}{zs:List DV}{e':Nat->List DV}(h1: ∀j,j<n->RL zs (e' j)):a9v (.arr sz n (Sg.rep n zs)) (.arr sz n e'):=by refine a9v.arrr rfl fun j hj=> ?_;rw[(b2k hS).rep,if_pos hj];exact h1 j hj
theorem d8n (hS:Sg=AT P A ro E){l sz n:Nat}{s:Option Nat}{f:Bool}:a0x (.msl l sz s (Sg.nadd n 1) f) (.msl l sz s (n+1) f):=by rw[(b2k hS).nadd];exact A5 _
theorem h8j (hS:Sg=AT P A ro E){sz n i:Nat}{row:List DV}{e e':Nat->List DV}(h1: ∀j,j<n->j≠i->RL (e j) (e' j))(h2:i<n->RL row (e' i)):a9v (.arr sz n (Sg.upd e i row)) (.arr sz n e'):=by
 refine a9v.arrr rfl fun j hj=> ?_;rw[(b2k hS).upd];by_cases h:j=i
 ·subst h;rw[if_pos rfl];exact h2 hj
 ·rw[if_neg h];exact h1 j hj h
end
theorem a1h.ghost {P:AM}{f:AU}{args args':List AV}{h:List a0f}{K:List Nat->AV->List a0f->Prop}(sz:Nat)(e:Nat->List DV)(hc:a1h P f args' (h++[.arr sz 0 e]) K)
 (hg: ∀(w:AX) (S:Nat->Prop) (ρ:Ap) (vs:Array AO),ρ h.length=AK->BD w S ρ args vs->BD w S (a5b ρ h.length) args' vs):a1h P f args h K:=by
 refine⟨hc.1,fun w S ρ vs hs hv=> ?_⟩;obtain⟨hn,hs'⟩:=hs.add_nil sz e;refine (hc.2 w S (a5b ρ h.length) vs hs' (hg w S ρ vs hn hv)).mono fun x w' hR=> ?_;obtain⟨v,x,pg,h',S',ρ',b1,b2,b3,b4,b5,b6,b7⟩:=hR;refine⟨v,x,pg,h',S',ρ',b1,b2,b3,b4,⟨b5.os,b5.tape,b5.output,b5.size,b5.mono,b5.cell,fun b hb=> ?_,fun b hb hfr=> ?_,fun l b C hl=> ?_⟩,?_,fun l hl hp=> ?_⟩
 ·rcases b5.news b hb with h1|h1|⟨l,C,h1⟩
  ·exact .inl h1
  ·exact .inr (.inl h1)
  ·exact .inr (.inr ⟨l,C,(a2e h1).2⟩)
 ·exact b5.frame b hb fun l C h1=>hfr l C (a2e h1).2
 ·rcases b5.owned l b C hl with h1|⟨l,C,h1⟩
  ·exact .inl h1
  ·exact .inr ⟨l,C,(a2e h1).2⟩
 ·simp at b6;omega
 ·rw[b7 l (by simp;omega) hp];unfold a5b;rw[if_neg (by omega)]
theorem a1h.nilA {P:AM}{f:AU}{cs ds asx:List AV}{h:List a0f}{K:List Nat->AV->List a0f->Prop}(sz:Nat)(e:Nat->List DV)(hc:a1h P f (.agg ds::asx) (h++[.arr sz 0 e]) K)(hl:d6k h.length sz cs ds):a1h P f (.agg cs::asx) h K:=by
 refine a1h.ghost sz e hc fun w S ρ vs hn hv=>⟨hv.1,fun i x v hx hu=> ?_⟩;cases i with
 |zero=>
  simp at hx;subst hx;have h0:=hv.2 0 _ v rfl hu;obtain⟨a1,a2⟩:=b9q (w:=w) (S:=S) hn hl;cases h0 with
  |agg _ us hlen hh=>refine .agg _ _ (by rw[<-a1];exact hlen) fun j y u hy hu=> ?_;have hj:j<ds.length:=(AA.1 hy).1;have hxj:cs[j]? =AD (cs[j]'(by omega)):=AB _;exact a2 j _ y u hxj hy (hh j _ u hxj hu)
 |succ i=>exact VR.mono (fun _ h=>h) (fun _ _=>rfl) (b6s hn) (hv.2 (i+1) x v hx hu)
theorem a0j.of_acall {P:AM}{f:AU}{args:List AV}{K:List Nat->AV->List a0f->Prop}{r:AV}(hc:a1h P f args [] K)
 (hk: ∀(E:A3) (Sg:BC),Sg=AT P ⟨[],[]⟩ AK E-> ∀pg v h',K pg v h'->a2m Sg h' v fun v' _=>a3z [v']=AE/\a0x v' r):a0j P AG f args r:=by
 refine⟨hc.1,fun w S vs hS hv=> ?_⟩;have hs:BA w S a2j []:=⟨hS,fun _ _ _ h=>(by cases h),fun _ _ _ _ _ h=>(by cases h),fun _ _ _ _ h=>(by cases h)⟩;refine (hc.2 w S a2j vs hs hv).mono fun e w' hR=> ?_;obtain⟨v,x,pg,h',S',ρ',h1,h2,h3,h4,h5,_⟩:=hR;obtain⟨x',h2',S2,⟨hfr,hlike⟩,k,hv2⟩:=b0b h4 h3 (hk ⟨w,S,a2j,0,[]⟩ _ rfl pg x h' h2);have e2:=h5.trans k.chg.ext;have hv3:VR w' S2 a2j x' v:=b4t (vs:=[v]) hfr (fun i y u hy hu=>by
  cases i with
  |zero=>simp at hy hu;subst hy;subst hu;exact hv2
  |succ i=>simp at hy) 0 x' v rfl rfl
 refine⟨v,S2,h1,hlike _ _ _ _ hv3,fun b hb=> ?_,⟨h5.os,h5.tape,h5.output,h5.size,fun b hb=>h5.frame b hb (fun l C h=>by cases h)⟩⟩;rcases e2.news b hb with h|h|⟨l,C,h⟩
 ·exact .inl ⟨rfl,h⟩
 ·exact .inr ⟨h,k.sim.sblk b hb⟩
 ·cases h
def l4g (p:Option (Option Nat×Nat)):Ap:=fun m=>if m=0 then p else AK
theorem l4a {p:Option (Option Nat×Nat)}{m:Nat}{q:Option Nat×Nat}(h:l4g p m=AD q):m=0/\p=AD q:=by
 unfold l4g at h;split at h
 ·rename_i e;exact⟨e,h⟩
 ·cases h
theorem Sim.only {w:AX}{S:Nat->Prop}{ρ:Ap}{h:List a0f}(hs:BA w S ρ h){l sz n:Nat}{e:Nat->List DV}(hl:h[l]? =AD (.arr sz n e)):BA w S (l4g (ρ l)) [.arr sz n e]:=by
 refine⟨hs.sblk,fun m ob C hm=> ?_,fun m m' b C C' h1 h2=> ?_,fun m b C o h1 h2 h3=> ?_⟩
 ·obtain⟨rfl,hp⟩:=l4a hm;obtain⟨o,h1,h2⟩:=hs.obj l ob C hp;rw[hl] at h1;cases h1;refine⟨_,rfl,?_⟩;cases ob with
  |none=>exact h2
  |some b=>exact h2
 ·rw[(l4a h1).1,(l4a h2).1]
 ·obtain⟨rfl,hp⟩:=l4a h1;simp at h2;subst h2;exact hs.own l b C _ hp hl rfl
section
variable {P:AM} {f:AU} {args:List AV} {sz n:Nat} {e:Nat->List DV}
theorem VR.only {w:AX}{S:Nat->Prop}{ρ:Ap}{l:Nat}{v:AO}(h:VR w S ρ (.msl l sz AK n AG) v):VR w S (l4g (ρ l)) (.msl 0 sz AK n AG) v:=by
 cases h with
 |msl _ _ _ _ _ ob C cap a h hc hcap ha=>exact .msl 0 sz AK n AG ob C cap a h hc hcap ha
theorem a1h.own0 (hc:a1h P f args [] fun pg v h'=>pg=[]/\ ∃l,v= .msl l sz AK n AG/\h'[l]? =AD (.arr sz n e)):a1h P f args [] fun pg v h'=>pg=[]/\v= .msl 0 sz AK n AG/\h'=[.arr sz n e]:=by refine⟨hc.1,fun w S ρ vs hs hv=>(hc.2 w S ρ vs hs hv).mono fun x w' hR=> ?_⟩;obtain⟨v,y,pg,h',S',ρ',b1,⟨rfl,l,rfl,hl⟩,b3,b4,b5,b6,b7⟩:=hR;refine⟨v,_,[],_,S',l4g (ρ' l),b1,⟨rfl,rfl,rfl⟩,b3.only,b4.only hl,⟨b5.os,b5.tape,b5.output,b5.size,b5.mono,b5.cell,b5.news,b5.frame,fun m b C hm=> ?_⟩,by simp,fun m hm=>by simp at hm⟩;exact b5.owned l b C (l4a hm).2
end
section
variable {H:Type} {enc:TypeId×AO->H} {P:AM} {w:AX} {spare:Nat->Bool} {held:Bool}
def d6a (w:AX)(b:Nat):Prop:=b<w.heap.size
def Row (w:AX)(xs:List DV)(cs:List AO):Prop:=xs.length=cs.length/\ ∀(j:Nat) (x:DV) (v:AO),xs[j]? =AD x->cs[j]? =AD v->DVR w (d6a w) x v
theorem c6d {a:Addr}{v:AO}(h:w.cell? a=AD v):a.spot=AK/\a.block<w.heap.size:=by
 unfold World.cell? at h;split at h
 ·rename_i c _ _ hb;refine⟨?_,(Array.getElem?_eq_some_iff.1 hb).1⟩;split at h
  ·cases h
  ·rename_i hs;cases hh:a.spot with
   |none=>rfl
   |some s=>simp[hh] at hs
 ·cases h
theorem d8i {a:Addr}(h:a.spot=AK)(m j:Nat):(a.add m).add j=⟨a.block,a.off+m+j,AK⟩:=by obtain⟨b,o,s⟩:=a;simp only at h;subst h;unfold Addr.add;by_cases h1:m=0<;>by_cases h2:j=0<;>simp[h1,h2]
theorem h5b {t e:TypeId}(ht:P.underlying t=AD (.slice e)){fuel:Nat}{cs:List AO}{x:DataW H×List BB}(h:DataW.trod enc P w 0 spare held fuel t cs=AD x)
 {α:Type} [Inhabited α] (row:α->List DV) (R:α->Prop) {sz:Nat} (hsz:P.cellsOf e=sz) (hpos:0<sz)
 (hrow: ∀(n:Nat) (cs:List AO) (y:DataW H×List BB),cs.length=sz->DataW.trod enc P w 0 spare held n e cs=AD y-> ∃z:α,R z/\Row w (row z) cs):
 ∃(v:AO) (n:Nat) (f:Nat->α),cs=[v]/\DVR w (d6a w) (.sl sz n fun i=>row (f i)) v/\ ∀i,i<n->R (f i):=by
 classical
 rcases DataW.trod_slice ht h with⟨rfl,_⟩|⟨a,len,cap,elems,rest,n,_,rfl,_,_,hlc,_,hel,hget,_⟩
 ·exact⟨_,0,fun _=>default,rfl,.sl0 _ _ _ _,fun i hi=>by omega⟩
 rw[hsz] at hget;have hex: ∀i,i<len-> ∃(cs:List AO) (z:α),cs.length=sz/\R z/\Row w (row z) cs/\ ∀j,j<sz->w.cell? ((a.add (i*sz)).add j)=cs[j]? :=fun i hi=>by have h1:=hget i hi;have h2:elems[i]? =AD (elems[i]'(by omega)):=AB _;rw[h2,Option.bind_eq_some_iff] at h1;obtain⟨cs,h3,h4⟩:=h1;obtain⟨_,h5,h6⟩:=World.cells?_some h3;obtain⟨z,h7,h8⟩:=hrow n cs _ h5 h4;exact⟨cs,z,h5,h7,h8,h6⟩
 by_cases h0:len=0
 ·subst h0;exact⟨_,0,fun _=>default,rfl,.sl0 _ _ _ _,fun i hi=>by omega⟩
 have hspot:a.spot=AK/\a.block<w.heap.size:=by obtain⟨cs,z,h1,_,_,h4⟩:=hex 0 (by omega);have h5:=h4 0 hpos;have h6:cs[0]? =AD (cs[0]'(by omega)):=AB _;rw[h6] at h5;simpa [Addr.add] using c6d h5
 obtain⟨C,hC⟩: ∃C:Nat->List AO×α,∀i,i<len->(C i).1.length=sz/\R (C i).2/\Row w (row (C i).2) (C i).1/\ ∀j,j<sz->w.cell? ((a.add (i*sz)).add j)=(C i).1[j]? :=
  ⟨fun i=>if hi:i<len then ((hex i hi).choose,(hex i hi).choose_spec.choose) else ([],default),fun i hi=>by simp only[dif_pos hi];exact (hex i hi).choose_spec.choose_spec⟩
 obtain⟨b,off,s⟩:=a;simp only at hspot;obtain⟨rfl,hb⟩:=hspot;refine⟨_,len,fun i=>(C i).2,rfl,.sl sz len _ b off cap (fun i j=>((C i).1[j]?).getD undef) (fun _=>hb) hlc (fun i hi=>(hC i hi).2.2.1.1.trans (hC i hi).1) (fun i hi j hj=> ?_) (fun i hi j x hx=> ?_),fun i hi=>(hC i hi).2.1⟩
 ·have h1:=(hC i hi).2.2.2 j hj;rw[d8i rfl] at h1;have h2:(C i).1[j]? =AD ((C i).1[j]'(by rw[(hC i hi).1];exact hj)):=AB _;rw[h1,h2];rfl
 ·have hj:j<(row (C i).2).length:=(AA.1 hx).1;have hlen:(row (C i).2).length=(C i).1.length:=(hC i hi).2.2.1.1;have h2:(C i).1[j]? =AD ((C i).1[j]'(by omega)):=AB _;rw[h2];exact (hC i hi).2.2.1.2 j x _ hx h2
theorem b5t {t:TypeId}{k:Ag}(ht:P.underlying t=AD (.int k)){fuel:Nat}{cs:List AO}{x:DataW H×List BB}(h:DataW.trod enc P w 0 spare held fuel t cs=AD x):
 ∃z:Int,(k.min<=z/\z<=k.max)/\cs=[.int k z]:=by
 obtain⟨n,h1,_,h3⟩:=DataW.trod_int ht h;simp[Lit.wf] at h3;exact⟨n,h3,h1⟩
theorem d0e {x:DV}{v:AO}(h:DVR w (d6a w) x v):Row w [x] [v]:=by
 refine⟨rfl,fun j y u hy hu=> ?_⟩;cases j with
 |zero=>simp at hy hu;subst hy;subst hu;exact h
 |succ j=>simp at hy
theorem b5g {x:DV}{v:AO}{xs:List DV}{cs:List AO}(h:DVR w (d6a w) x v)(hs:Row w xs cs):Row w (x::xs) (v::cs):=by
 refine⟨by simp[hs.1],fun j y u hy hu=> ?_⟩;cases j with
 |zero=>simp at hy hu;subst hy;subst hu;exact h
 |succ j=>simp at hy hu;exact hs.2 j y u hy hu
end
theorem j7t {a b:Nat}(h:a≠b):Am a b=AG:=by
 cases hb:Am a b
 ·rfl
 ·exact absurd (Nat.eq_of_beq_eq_true hb) h
theorem j7q (a:Nat):Am a a=AE:=Nat.beq_refl a
theorem j7o (a b:Nat):Nat.beq.match_1 (fun _ _=>Bool) a b (fun _=>AE) (fun _=>AG) (fun _=>AG) (fun n m=>Am n m)=Am a b:=by cases a<;>cases b<;>rfl
section
variable {α:Type}
theorem j8f (l:List α)(i:Nat)(x:α):a3q (a2x l i x)=a3q l:=by rw[a0u,a0u,a0l,List.length_set]
theorem j7l (l m:List α):a3q (a2u l m)=a3q l+a3q m:=by rw[a0u,a0u,a0u,a0r,List.length_append]
theorem j7w {l:List α}{i j:Nat}{x:α}(h:i≠j):a1a (a2x l i x) j=a1a l j:=by rw[a0i,a0i,a0l,Ac h]
theorem j8l {l:List α}{i:Nat}{x:α}(h:a1a l i=AD x):i<a3q l:=by rw[a0i] at h;rw[a0u];exact (AA.1 h).1
theorem j7z {l:List α}{i:Nat}{x:α}(h:i<a3q l):a1a (a2x l i x) i=AD x:=by rw[a0u] at h;rw[a0i,a0l,AW];simp[h]
theorem j9o {l:List α}{i:Nat}(h:i<a3q l): ∃x,a1a l i=AD x:=by rw[a0u] at h;exact⟨l[i],by rw[a0i,AB h]⟩
theorem j8s {l m:List α}{i:Nat}(h:i<a3q l):a1a (a2u l m) i=a1a l i:=by rw[a0u] at h;rw[a0i,a0i,a0r,AF h]
theorem j8n {l m:List α}{i:Nat}(h:a3q l<=i):a1a (a2u l m) i=a1a m (i-a3q l):=by rw[a0u] at h⊢;rw[a0i,a0i,a0r,AQ h]
theorem j7r {l m:List α}{i:Nat}{x:α}(h:a1a l i=AD x):a1a (a2u l m) i=AD x:=by rw[j8s (j8l h),h]
theorem j9i (l m:List α):a1a (a2u l m) (a3q l)=a1a m 0:=by rw[j8n (Af _),Al]
theorem j9x (l m:List α):a1a (a2u l m) (a3q l+1)=a1a m 1:=by rw[j8n (by omega),AY]
theorem j8t {l:List α}{n:Nat}(h:a3q l=n)(m:List α):a1a (a2u l m) n=a1a m 0:=by rw[<-h];exact j9i l m
theorem k0s {l:List α}{n:Nat}(h:a3q l=n)(m:List α):a1a (a2u l m) (n+1)=a1a m 1:=by rw[<-h];exact j9x l m
theorem j9k {l:List α}{n:Nat}(h:a3q l=n)(m:List α):a1a (a2u l m) (n+2)=a1a m 2:=by rw[<-h,j8n (by omega),AY]
theorem j8j {l m:List α}{i:Nat}{x:α}(h:i<a3q l):a2x (a2u l m) i x=a2u (a2x l i x) m:=by rw[a0u] at h;rw[a0l,a0l,a0r,a0r,List.set_append_left _ _ h]
theorem j9j (l m:List α)(x:α):a2x (a2u l m) (a3q l) x=a2u l (a2x m 0 x):=by rw[a0l,a0l,a0r,a0r,a0u,An _ _ (Af _),Al]
theorem j9z (l m:List α)(x:α):a2x (a2u l m) (a3q l+1) x=a2u l (a2x m 1 x):=by rw[a0l,a0l,a0r,a0r,a0u,An _ _ (by omega),AY]
theorem j9h {l:List α}{n:Nat}(h:a3q l=n)(m:List α)(x:α):a2x (a2u l m) n x=a2u l (a2x m 0 x):=by rw[<-h];exact j9j l m x
theorem k1z {l:List α}{n:Nat}(h:a3q l=n)(m:List α)(x:α):a2x (a2u l m) (n+1) x=a2u l (a2x m 1 x):=by rw[<-h];exact j9z l m x
theorem j7n (l m k:List α):a2u (a2u l m) k=a2u l (a2u m k):=by simp only[a0r,List.append_assoc]
end
theorem j9b (l:Nat)(a:Bool)(h:List a0f):a3q (a2n l a h)=a3q h:=by rw[a0u,a0u,a4i,AJ]
theorem j8a {h:List a0f}{l:Nat}{a:Bool}{i:Nat}{o:a0f}(hg:a1a h i=AD o):a1a (a2n l a h) i=AD (o.forget l a):=by rw[a0i] at hg⊢;rw[a3s,hg];rfl
theorem j7m (l:Nat)(a:Bool)(h m:List a0f):a2n l a (a2u h m)=a2u (a2n l a h) (a2n l a m):=by simp only[a4i,a0r,List.map_append]
theorem a4k.of_get: ∀{h h':List a0f},h'.length<=h.length->(∀(i:Nat) (o o':a0f),h[i]? =AD o->h'[i]? =AD o'->a9v o o')->a4k h h'
 |_,[],_,_=> .nil _
 |[],_::_,hl,_=>by simp at hl
 |o::h,o'::h',hl,hg=> .cons (hg 0 o o' rfl rfl) (a4k.of_get (by simpa using hl) fun i a b ha hb=>hg (i+1) a b (by simpa using ha) (by simpa using hb))
theorem j9l {l n:Nat}{sz:Nat}{P c:Nat->Nat}: ∀{m:Nat},(∀j,n<=j->j<n+m->P j≠l)->AR l AG ((Ab n m).map fun j=> .msl (P j) sz AK (c j) AG)=(Ab n m).map fun j=> .msl (P j) sz AK (c j) AG
 |0,_=>rfl
 |m+1,h=>by have ih:=j9l (l:=l) (n:=n+1) (sz:=sz) (P:=P) (c:=c) (m:=m) fun j h1 h2=>h j (by omega) (by omega);simp only[List.range'_succ,List.map_cons,AR,AN];rw[ih];simp only[AI,if_false,j7t (Ne.symm (h n (by omega) (by omega)))]
theorem j9n (l:Nat)(a:Bool): ∀(vs:List AV) (i:Nat),(AR l a vs)[i]? =(vs[i]?).map (AN l a)
 |[],_=>rfl
 |v::vs,0=>by simp[AR]
 |v::vs,i+1=>by simp only[AR,List.getElem?_cons_succ];exact j9n l a vs i
theorem j8v (l:Nat)(a:Bool): ∀vs:List AV,a3q (AR l a vs)=a3q vs
 |[]=>rfl
 |v::vs=>by simp only[AR,a3q,j8v l a vs]
theorem k1n {l sz c m:Nat}{P cn:Nat->Nat}{x:AV}(h: ∀j,j<m->j≠c->P j≠l):
 a2x (AR l AG ((Ab 0 m).map fun j=> .msl (P j) sz AK (cn j) AG)) c x=a2x ((Ab 0 m).map fun j=> .msl (P j) sz AK (cn j) AG) c x:=by
 rw[a0l,a0l];refine List.ext_getElem? fun j=> ?_;rw[AW,AW,<-a0u,<-a0u,j8v];by_cases e:c=j
 ·rw[if_pos e,if_pos e]
 rw[if_neg e,if_neg e,j9n];cases hr:((Ab 0 m).map fun j=>AV.msl (P j) sz AK (cn j) AG)[j]? with
 |none=>rfl
 |some t=>have hj:=(AA.1 hr).1;rw[AJ,List.length_range'] at hj;rw[AC,List.getElem?_range' hj] at hr;simp only[Aq,Nat.one_mul,Nat.zero_add,Aa] at hr;subst hr;simp only[Aq,AN,AI,if_false,j7t (Ne.symm (h j hj (Ne.symm e)))]
def k3e (k:Nat)(H C:List a0f):Prop:= ∀x,x<k->a1a H x=a1a C x
theorem j7y: ∀l:List Nat,e1s l l=AE:=fun l=>by
 have: ∀m:List Nat,(∀i,i∈m->i∈l)->e1s m l=AE:=fun m=>by
  induction m with
  |nil=>intro _;rfl
  |cons x m ih=>intro h;simp only[e1s,AH];exact⟨a1o.2 (h x (by simp)),ih fun i hi=>h i (List.mem_cons_of_mem _ hi)⟩
 exact this l fun _ h=>h
section
variable {w:AX} {S S2:Nat->Prop} {ρ:Ap} {h:List a0f}
end
theorem b5d.frame {P:AM}{l l':Nat}{args args':List AV}{h:List a0f}{K:List Nat->AV->List a0f->Prop}(hc:b5d P l args h K){H:List a0f}(pos:List Nat)(hnd:pos.Nodup)(hl':l'=b2u pos (a3q H) l)
 (ha:args'=AV.renL (b2u pos (a3q H)) args) (hH:i4y H pos (i2l (b2u pos (a3q H)) h)):b5d P l' args' H (i3s H pos K):=by
 intro w S ρ vs b0 C0 hs hv hρ;unfold i3s;rw[a0u] at ha hH hl'⊢;generalize hπ:b2u pos H.length=π at ha hH hl'⊢;obtain⟨a1,a2⟩:=h7m hH;rw[h5f,AJ] at a1;have hlt: ∀l,l∈pos->l<H.length:=fun l hl=>by obtain⟨i,hi⟩:=AP hl;have hi':=(AA.1 hi).1;have ho:h[i]? =AD (h[i]'(by omega)):=AB _;obtain⟨o',h1,_⟩:=a2 i l _ hi (by rw[h5f,AC,ho];rfl);exact (AA.1 h1).1
 have πlt: ∀i,i<h.length->pos[i]? =AD (π i):=fun i hi=>by rw[<-hπ];exact h9j (by omega)
 have πge: ∀i,h.length<=i->π i=H.length+(i-h.length):=fun i hi=>by rw[<-hπ,h9d (by omega),a1]
 have πmem: ∀i,i<h.length->π i∈pos:=fun i hi=>Ao (πlt i hi);have πinj: ∀i j,π i=π j->i=j:=fun i j e=>by
  by_cases hi:i<h.length
  ·by_cases hj:j<h.length
   ·have h1:=πlt i hi;have h2:=πlt j hj;rw[<-e] at h2;obtain⟨q1,q2⟩:=AA.1 h1;obtain⟨q3,q4⟩:=AA.1 h2;have hp:=Ai.1 hnd;rcases At i j with hij|hij|hij
    ·exact absurd (q2.trans q4.symm) (hp i j q1 q3 hij)
    ·exact hij
    ·exact absurd (q4.trans q2.symm) (hp j i q3 q1 hij)
   ·have:=hlt _ (πmem i hi);have:=πge j (by omega);omega
  ·by_cases hj:j<h.length
   ·have:=hlt _ (πmem j hj);have:=πge i (by omega);omega
   ·have:=πge i (by omega);have:=πge j (by omega);omega
 have hfresh: ∀l,H.length<=l->ρ l=AK:=fun l hl=>by
  cases hr:ρ l with
  |none=>rfl
  |some p=>obtain⟨o,h1,_⟩:=hs.obj l p.1 p.2 hr;have:=(AA.1 h1).1;omega
 have hs0:BA w S (fun i=>ρ (π i)) h:=by
  refine⟨hs.sblk,fun i ob C hi=> ?_,fun i j b C C' h1 h2=>πinj _ _ (hs.inj _ _ b C C' h1 h2),fun i b C o hi ho hf=> ?_⟩
  ·by_cases hil:i<h.length
   ·have ho:h[i]? =AD (h[i]'hil):=AB _;obtain⟨o',h1,h2⟩:=a2 i (π i) _ (πlt i hil) (by rw[h5f,AC,ho];rfl);obtain⟨o2,h3,h4⟩:=hs.obj (π i) ob C hi;rw[h1] at h3;cases h3;refine⟨_,ho,?_⟩;have h5:=h2.holds _ _ _ _ _ h4;cases ob with
    |none=>obtain⟨hC,sz',e',h6⟩:=h5;refine⟨hC,sz',e',?_⟩;cases hoo:h[i]'hil<;>rw[hoo] at h6<;>simp[a0f.ren] at h6⊢ <;>exact h6
    |some b=>exact a0z.unren h5
   ·have:=hfresh (π i) (by have:=πge i (by omega);omega);rw[this] at hi;cases hi
  ·have hil:=(AA.1 ho).1;obtain⟨o',h1,h2⟩:=a2 i (π i) _ (πlt i hil) (by rw[h5f,AC,ho];rfl);exact hs.own (π i) b C o' hi h1 (h2.frz (by rw[h6j];exact hf))
 have hv0:BD w S (fun i=>ρ (π i)) args vs:=by subst ha;refine⟨by have:=hv.1;rw[AV.renL_eq] at this;simpa using this,fun i x v hx hv'=>(hv.2 i (x.ren π) v (by rw[AV.renL_eq,AC,hx];rfl) hv').unren rfl⟩
 refine YieldAt.mono' (hc w S _ vs b0 C0 hs0 hv0 (by rw[hl'] at hρ;exact hρ)) fun e w' he=> ?_;obtain⟨v,x,pg,h',S',ρ1,he,hk,hvr,hsim,hext,hlen,hlow⟩:=he;obtain⟨ρ',r1,r2⟩: ∃ρ':Ap,(∀i,ρ' (π i)=ρ1 i)/\(∀l,l<H.length->l∉pos->ρ' l=ρ l):=by
  classical
  refine⟨fun l=>if hl: ∃i,π i=l then ρ1 hl.choose else ρ l,fun i=> ?_,fun l hl hp=> ?_⟩
  ·have hex: ∃j,π j=π i:=⟨i,rfl⟩;simp only[dif_pos hex];rw[πinj _ _ hex.choose_spec]
  ·have: ¬ ∃i,π i=l:=fun⟨i,hi⟩=>by
    by_cases hil:i<h.length
    ·exact hp (hi▸πmem i hil)
    ·have:=πge i (by omega);omega
   simp only[dif_neg this]
 have hcase: ∀l,(l<H.length/\l∉pos)\/ ∃i,π i=l:=fun l=>by
  by_cases hl:l<H.length
  ·by_cases hp:l∈pos
   ·obtain⟨i,hi⟩:=AP hp;have hi':=(AA.1 hi).1;have:=πlt i (by omega);rw[hi] at this;exact .inr ⟨i,(Aj this).symm⟩
   ·exact .inl ⟨hl,hp⟩
  ·exact .inr ⟨h.length+(l-H.length),by have:=πge (h.length+(l-H.length)) (by omega);omega⟩
 have hkeep: ∀l p,l∉pg.map π->ρ l=AD p->ρ' l=AD p:=fun l p hl hp=>by
  rcases hcase l with⟨h1,h2⟩|⟨i,rfl⟩
  ·rw[r2 l h1 h2];exact hp
  ·rw[r1];by_cases hil:i<h.length
   ·rw[hlow i hil (fun hm=>hl (Ae.2 ⟨i,hm,rfl⟩))];exact hp
   ·have:=hfresh (π i) (by have:=πge i (by omega);omega);rw[this] at hp;cases hp
 have hlow': ∀l,l<H.length->l∉pg.map π->ρ' l=ρ l:=fun l hl hn=>by
  rcases hcase l with⟨h1,h2⟩|⟨i,rfl⟩
  ·exact r2 l h1 h2
  ·have hil:i<h.length:=Aw fun hle=>by have:=πge i hle;omega
   rw[r1,hlow i hil (fun hm=>hn (Ae.2 ⟨i,hm,rfl⟩))]
 have hfl:(h4b (pg.map π) H).length=H.length:=h6c _ _;have hplen:pos.length<=(i2l π h').length:=by rw[h5f,AJ];omega
 have hlt': ∀l,l∈pos->l<(h4b (pg.map π) H).length:=fun l hl=>by rw[hfl];exact hlt l hl
 have hget: ∀i o,h'[i]? =AD o->(h4m (h4b (pg.map π) H) pos (i2l π h'))[π i]? =AD (o.ren π):=fun i o hi=>by have hil:=(AA.1 hi).1;have:=h5u (H:=h4b (pg.map π) H) (os:=i2l π h') (i:=i) hnd hlt' hplen (by rw[h5f,AJ];exact hil);rw[hfl,hπ] at this;rw[this,h5f,AC,hi];rfl
 have hout: ∀l b C,l<H.length->l∉pos->ρ l=AD (AD b,C)->w'.heap[b]? =w.heap[b]? /\ ¬ ∃i C',ρ1 i=AD (AD b,C'):=fun l b C hl hp hr=>by
  have hb:=hs.blk hr;have hno: ∀i C',ρ (π i)≠AD (AD b,C'):=fun i C' h1=>by
   have:=hs.inj _ _ b _ _ hr h1;subst this;by_cases hil:i<h.length
   ·exact hp (πmem i hil)
   ·have:=πge i (by omega);omega
  refine⟨hext.frame b hb hno,fun⟨i,C',h1⟩=> ?_⟩;rcases hext.owned i b C' h1 with h2|⟨j,C2,h2⟩
  ·omega
  ·exact hno j C2 h2
 have hsim':BA w' S' ρ' (h4m (h4b (pg.map π) H) pos (i2l π h')):=by
  refine⟨hsim.sblk,fun l ob C hl=> ?_,fun l l' b C C' h1 h2=> ?_,fun l b C o hl ho hf=> ?_⟩
  ·rcases hcase l with⟨h1,h2⟩|⟨i,rfl⟩
   ·rw[r2 l h1 h2] at hl;obtain⟨o,h3,h4⟩:=hs.obj l ob C hl;refine⟨h4h (pg.map π) o,by rw[h4n (by rw[hfl];exact h1) h2,h5y,h3];rfl,?_⟩;cases ob with
    |none=>
     obtain⟨hC,sz',e',h6⟩:=h4;refine⟨hC,sz',e',?_⟩;have: ∀(pg:List Nat) (o:a0f),(o= .arr sz' 0 e'\/o= .frz sz' 0 e')->h4h pg o=o:=by
      intro pg
      induction pg with
      |nil=>intro o _;rfl
      |cons l pg ih=>intro o h;rw[h4h];rcases h with rfl|rfl<;>exact ih _ (by simp[AZ])
     rw[this _ _ h6];exact h6
    |some b=>exact a0z.forgets hext.mono hext.cell (hout l b C h1 h2 hl).1 _ hkeep h4
   ·rw[r1] at hl;obtain⟨o,h3,h4⟩:=hsim.obj i ob C hl;refine⟨_,hget i o h3,?_⟩;cases ob with
    |none=>
     obtain⟨hC,sz',e',h6⟩:=h4;refine⟨hC,sz',e',?_⟩;rcases h6 with rfl|rfl
     ·exact .inl rfl
     ·exact .inr rfl
    |some b=>exact a0z.ren (fun j p hp=>by rw[r1];exact hp) h4
  ·rcases hcase l with⟨g1,g2⟩|⟨i,rfl⟩
   ·rcases hcase l' with⟨g3,g4⟩|⟨j,rfl⟩
    ·rw[r2 l g1 g2] at h1;rw[r2 l' g3 g4] at h2;exact hs.inj _ _ b C C' h1 h2
    ·rw[r2 l g1 g2] at h1;rw[r1] at h2;exact absurd ⟨j,C',h2⟩ (hout l b C g1 g2 h1).2
   ·rcases hcase l' with⟨g3,g4⟩|⟨j,rfl⟩
    ·rw[r1] at h1;rw[r2 l' g3 g4] at h2;exact absurd ⟨i,C,h1⟩ (hout l' b C' g3 g4 h2).2
    ·rw[r1] at h1 h2;rw[hsim.inj i j b C C' h1 h2]
  ·rcases hcase l with⟨g1,g2⟩|⟨i,rfl⟩
   ·rw[r2 l g1 g2] at hl;rw[h4n (by rw[hfl];exact g1) g2,h5y] at ho;obtain⟨o1,h3,_⟩:=hs.obj l _ C hl;rw[h3] at ho;simp at ho;subst ho;rw[h6g] at hf;intro hS;rcases hext.news b hS with h4|h4|⟨j,C',h4⟩
    ·exact hs.own l b C o1 hl h3 hf h4
    ·have:=hs.blk hl;omega
    ·have:=hs.inj _ _ b _ _ hl h4;subst this;by_cases hil:j<h.length
     ·exact g2 (πmem j hil)
     ·have:=πge j (by omega);omega
   ·rw[r1] at hl;obtain⟨o1,h3,_⟩:=hsim.obj i _ C hl;rw[hget i o1 h3] at ho;cases ho;rw[h6j] at hf;exact hsim.own i b C o1 hl h3 hf
 refine⟨v,x.ren π,pg.map π,_,S',ρ',he,⟨pg,x,h',hk,(a5m _ _).symm,rfl,rfl⟩,hvr.ren (fun i p hp=>by rw[r1];exact hp),hsim',?_,?_,hlow'⟩
 ·refine⟨hext.os,hext.tape,hext.output,hext.size,hext.mono,hext.cell,fun b hb=> ?_,fun b hb hn=>hext.frame b hb (fun i C=>hn (π i) C),fun l b C hl=> ?_⟩
  ·rcases hext.news b hb with h1|h1|⟨i,C,h1⟩
   ·exact .inl h1
   ·exact .inr (.inl h1)
   ·exact .inr (.inr ⟨π i,C,h1⟩)
  ·rcases hcase l with⟨g1,g2⟩|⟨i,rfl⟩
   ·rw[r2 l g1 g2] at hl;exact .inr ⟨l,C,hl⟩
   ·rw[r1] at hl;rcases hext.owned i b C hl with h1|⟨j,C',h1⟩
    ·exact .inl h1
    ·exact .inr ⟨π j,C',h1⟩
 ·rw[h5m hplen,hfl];omega
theorem k0c {H:List a0f}: ∀{pos:List Nat} {os:List a0f},pos.length=os.length->(∀(i l:Nat) (o:a0f),pos[i]? =AD l->os[i]? =AD o-> ∃o',a1a H l=AD o'/\a9v o' o)->i4y H pos os
 |[],[],_,_=>trivial
 |[],_::_,h,_=>by simp at h
 |_::_,[],h,_=>by simp at h
 |l::pos,o::os,hl,h=>by obtain⟨o',h1,h2⟩:=h 0 l o rfl rfl;refine⟨by rw[h1];exact h2,k0c (by simpa using hl) fun i l o ha hb=>h (i+1) l o (by simpa using ha) (by simpa using hb)⟩
mutual
theorem AV.ren_low {k:Nat}{π:Nat->Nat}(hπ: ∀i,i<k->π i=i): ∀x:AV,x.low k=AE->x.ren π=x
 | .d _,_=>rfl
 | .any,_=>rfl
 | .und,_=>rfl
 | .agg cs,h=>by simp only[AV.ren];rw[AV.renL_low hπ cs (by simpa only[AV.low] using h)]
 | .tuple cs,h=>by simp only[AV.ren];rw[AV.renL_low hπ cs (by simpa only[AV.low] using h)]
 | .ptr m _,h=>by simp only[AV.ren];rw[hπ m (e0x (by simpa only[AV.low] using h))]
 | .aptr m _ _ _,h=>by simp only[AV.ren];rw[hπ m (e0x (by simpa only[AV.low] using h))]
 | .dptr _ _,_=>rfl
 | .dfs _ _ _,_=>rfl
 | .msl m _ _ _ _,h=>by simp only[AV.ren];rw[hπ m (e0x (by simpa only[AV.low] using h))]
 | .vsl m _ _,h=>by simp only[AV.ren];rw[hπ m (e0x (by simpa only[AV.low] using h))]
 | .map m,h=>by simp only[AV.ren];rw[hπ m (e0x (by simpa only[AV.low] using h))]
 | .fn _ us cs,h=>by simp only[AV.low,AH] at h;simp only[AV.ren];rw[AV.renL_low hπ us h.1,AV.renL_low hπ cs h.2]
 | .ge _,_=>rfl
 | .yl m,h=>by simp only[AV.ren];rw[hπ m (e0x (by simpa only[AV.low] using h))]
theorem AV.renL_low {k:Nat}{π:Nat->Nat}(hπ: ∀i,i<k->π i=i): ∀xs:List AV,AV.lowL k xs=AE->AV.renL π xs=xs
 |[],_=>rfl
 |x::xs,h=>by simp only[AV.lowL,AH] at h;simp only[AV.renL];rw[AV.ren_low hπ x h.1,AV.renL_low hπ xs h.2]
end
mutual
theorem AV.forget_low {k i:Nat}(hi:k<=i): ∀x:AV,x.low k=AE->x.forget i AG=x
 | .d _,_=>rfl
 | .any,_=>rfl
 | .und,_=>rfl
 | .agg cs,h=>by simp only[AN];rw[AV.forgetL_low hi cs (by simpa only[AV.low] using h)]
 | .tuple cs,h=>by simp only[AN];rw[AV.forgetL_low hi cs (by simpa only[AV.low] using h)]
 | .ptr m _,h=>by have:=e0x (by simpa only[AV.low] using h);simp only[AN,AI,if_false,j7t (show i≠m by omega)]
 | .aptr m _ _ _,h=>by have:=e0x (by simpa only[AV.low] using h);simp only[AN,AI,if_false,j7t (show i≠m by omega)]
 | .dptr _ _,_=>rfl
 | .dfs _ _ _,_=>rfl
 | .msl m _ _ _ _,h=>by have:=e0x (by simpa only[AV.low] using h);simp only[AN,AI,if_false,j7t (show i≠m by omega)]
 | .vsl m _ _,h=>by have:=e0x (by simpa only[AV.low] using h);simp only[AN,AI,if_false,j7t (show i≠m by omega)]
 | .map m,h=>by have:=e0x (by simpa only[AV.low] using h);simp only[AN,AI,if_false,j7t (show i≠m by omega)]
 | .fn _ us cs,h=>by simp only[AV.low,AH] at h;simp only[AN];rw[AV.forgetL_low hi us h.1,AV.forgetL_low hi cs h.2]
 | .ge _,_=>rfl
 | .yl m,h=>by have:=e0x (by simpa only[AV.low] using h);simp only[AN,AI,if_false,j7t (show i≠m by omega)]
theorem AV.forgetL_low {k i:Nat}(hi:k<=i): ∀xs:List AV,AV.lowL k xs=AE->AR i AG xs=xs
 |[],_=>rfl
 |x::xs,h=>by simp only[AV.lowL,AH] at h;simp only[AR];rw[AV.forget_low hi x h.1,AV.forgetL_low hi xs h.2]
end
theorem a0f.forget_low {k i:Nat}(hi:k<=i){o:a0f}(h:o.low k=AE):o.forget i AG=o:=by
 cases o with
 |var cs=>simp only[AZ];rw[AV.forgetL_low hi cs (by simpa only[a0f.low] using h)]
 |mapv w ks keys vals=>simp only[AZ];rw[AV.forgetL_low hi vals (by simpa only[a0f.low] using h)]
 |loop s ts ps code=>simp only[AZ];rw[AV.forgetL_low hi ts (by simpa only[a0f.low] using h)]
 |arrv vals=>simp only[AZ];rw[AV.forgetL_low hi vals (by simpa only[a0f.low] using h)]
 |_=>rfl
theorem a0f.ren_low {k:Nat}{π:Nat->Nat}(hπ: ∀i,i<k->π i=i){o:a0f}(h:o.low k=AE):o.ren π=o:=by
 cases o with
 |var cs=>simp only[a0f.ren];rw[AV.renL_low hπ cs (by simpa only[a0f.low] using h)]
 |mapv w ks keys vals=>simp only[a0f.ren];rw[AV.renL_low hπ vals (by simpa only[a0f.low] using h)]
 |loop s ts ps code=>simp only[a0f.ren];rw[AV.renL_low hπ ts (by simpa only[a0f.low] using h)]
 |arrv vals=>simp only[a0f.ren];rw[AV.renL_low hπ vals (by simpa only[a0f.low] using h)]
 |_=>rfl
theorem k1o {k:Nat}{π:Nat->Nat}(hπ: ∀i,i<k->π i=i){h:List a0f}(hl:d5i k h=AE):i2l π h=h:=by rw[h5f];refine (List.map_congr_left fun o ho=> ?_).trans (List.map_id _);obtain⟨i,hi⟩:=AP ho;exact a0f.ren_low hπ (c1k hl hi)
theorem b4w.pack {E:A3}{ts ts':List AV}{H h':List a0f}{mv:List Nat}(π:Nat->Nat)(hb: ∀i,i<E.base->π i=i)(hl:E.base<=h'.length)(hinj: ∀i j,i<h'.length->j<h'.length->π i=π j->i=j)
 (hts:a3x ts (AV.renL π ts')) (hh: ∀(i:Nat) (o:a0f),h'[i]? =AD o-> ∃o',a1a H (π i)=AD o'/\a9v o' (o.ren π)) (hlow:AV.lowL h'.length ts'=AE) (hlowH:d5i h'.length h'=AE):b4w E ⟨ts,H,mv⟩ ⟨ts',h',mv⟩:=by
 intro a w S ρ r;simp only[a0i] at hh;have hcut: ∀m p,Rho.cut (fun i=>ρ (π i)) h'.length m=AD p->m<h'.length/\ρ (π m)=AD p:=fun m p hp=>by
  unfold Rho.cut at hp;split at hp
  ·rename_i h;exact⟨h,hp⟩
  ·cases hp
 have hv:BD w S ρ (AV.renL π ts') a.tmps:=VRs.like hts r.ts;refine⟨Rho.cut (fun i=>ρ (π i)) h'.length,⟨⟨by have:=hv.1;rw[AV.renL_eq] at this;simpa using this,fun i x v hx hu=> ?_⟩,?_,⟨r.sim.sblk,fun m ob C hl=> ?_,fun m m' b C C' h1 h2=> ?_,fun m b C o hl ho hf=> ?_⟩,?_,fun m hm hmv=> ?_,hl⟩⟩
 ·exact ((hv.2 i (x.ren π) v (by rw[AV.renL_eq,AC,hx];rfl) hu).unren rfl).cut (a2f hlow hx)
 ·obtain⟨Ds,d1,d2,d3⟩:=r.ds;exact⟨Ds,d1,fun D hD=>⟨(d2 D hD).obj,(d2 D hD).new,fun m C hl=>(d2 D hD).out (π m) C (hcut _ _ hl).2,(d2 D hD).imm⟩,d3⟩
 ·obtain⟨hm,hl⟩:=hcut _ _ hl;have ho:h'[m]? =AD (h'[m]'hm):=AB _;obtain⟨o',g1,g2⟩:=hh m _ ho;obtain⟨o2,g3,g4⟩:=r.sim.obj (π m) ob C hl;rw[g1] at g3;cases g3;refine⟨_,ho,?_⟩;have h5:=g2.holds _ _ _ _ _ g4;cases ob with
  |none=>obtain⟨hC,sz',e',h6⟩:=h5;refine⟨hC,sz',e',?_⟩;cases hoo:h'[m]'hm<;>rw[hoo] at h6<;>simp[a0f.ren] at h6⊢ <;>exact h6
  |some b=>exact a0z.cut (a0z.unren h5) (c1k hlowH ho)
 ·obtain⟨m1,l1⟩:=hcut _ _ h1;obtain⟨m2,l2⟩:=hcut _ _ h2;exact hinj m m' m1 m2 (r.sim.inj _ _ b C C' l1 l2)
 ·obtain⟨hm,hl⟩:=hcut _ _ hl;obtain⟨o',g1,g2⟩:=hh m _ ho;exact r.sim.own (π m) b C o' hl g1 (g2.frz (by rw[h6j];exact hf))
 ·exact⟨r.ext.os,r.ext.tape,r.ext.output,r.ext.size,r.ext.mono,r.ext.cell,r.ext.news,r.ext.frame,fun m b C hl=>r.ext.owned (π m) b C (hcut _ _ hl).2⟩
 ·have e:Rho.cut (fun i=>ρ (π i)) h'.length m=ρ (π m):=if_pos (by omega);rw[e,hb m hm];exact r.keep m hm hmv
end Go.Vf
