/- Weaker states, and loops by an invariant. The rules of an open proof: entries, requests, calls, loops, weaker states by live temporaries. A call that meets a part of the memory. Data of a program's kinds, and small rules. Calls that leave the objects as they were; objects that a call makes and drops. Conditions: none. -/
import Derived.Test.YtbglklaocjifhaaGreatEMn
open List renaming getElem?_map->AA,getElem?_eq_some_iff->AB,getElem?_eq_getElem->AE,length_map->AI,getElem?_set_ne->AK,getElem?_of_mem->AL,nodup_cons->AO,mem_cons->AQ,mem_map->AT
open Bool renaming true->AC,and_eq_true->AF,false->AH
open Option renaming some->AD,none->AP
open Nat renaming blt->AG,ble->AN,le_refl->AU
open Go renaming Value->AJ,IntKind->AM,start->AR,World->AS,Program->AW,FuncId->AX
set_option linter.unusedSimpArgs false
set_option linter.unusedVariables false
namespace Go.Vf
open Go
structure a9v (o o':a0f):Prop where
 frz:o'.frozen=AH->o.frozen=AH
 holds: ∀(w:AS) (S:Nat->Prop) (ρ:Rho) (ob:Option Nat) (C:Nat),c7g w S ρ ob C o->c7g w S ρ ob C o'
theorem a9v.refl (o:a0f):a9v o o:=⟨id,fun _ _ _ _ _ h=>h⟩
theorem a0x.any (x:AV):a0x x .any:=fun _ _ _ v _=> .any v
theorem a9v.arr {sz n:Nat}{e e':Nat->List DV}(h: ∀i,i<n->e i=e' i):a9v (.arr sz n e) (.arr sz n e'):=by
 refine⟨id,fun w S ρ ob C hh=> ?_⟩;cases ob with
 |none=>
  obtain⟨h1,sz',e1,h2|h2⟩:=hh
  ·cases h2;exact⟨h1,sz,e',.inl rfl⟩
  ·cases h2
 |some b=>obtain⟨vs,ty,h1,h2,h3,h4⟩:=hh;exact⟨vs,ty,h1,h2,h3,fun i hi=>by rw[<-h i hi];exact h4 i hi⟩
theorem a9v.arr' {sz n m:Nat}{e e':Nat->List DV}(hn:n=m)(h: ∀i,i<n->e i=e' i):a9v (.arr sz n e) (.arr sz m e'):=by subst hn;exact .arr h
theorem a9v.var {cs ds:List AV}(h:a3x cs ds):a9v (.var cs) (.var ds):=by
 refine⟨id,fun w S ρ ob C hh=> ?_⟩;obtain⟨hl,hg⟩:=h.get;cases ob with
 |none=>obtain⟨h1,sz',e1,h2|h2⟩:=hh<;>cases h2
 |some b=>obtain⟨vs,ty,h1,h2,h3⟩:=hh;exact⟨vs,ty,h1,by omega,a0x.cells hl hg h3⟩
theorem g2l.congr {wide:Bool}{ks:List AM}{es:List MapEntry}{n:Nat}{f f':List KC->Option Int}(h:g2l wide ks es n f)(e: ∀k,f k=f' k):g2l wide ks es n f':=
 ⟨h.len,h.keys,h.vals,fun k=>(h.find k).trans (e k),h.nd⟩
theorem a9v.map {wide:Bool}{ks:List AM}{n m:Nat}{f f':List KC->Option Int}(hn:n=m)(e: ∀k,f k=f' k):a9v (.map wide ks n f) (.map wide ks m f'):=by
 subst hn;refine⟨id,fun w S ρ ob C hh=> ?_⟩;cases ob with
 |none=>obtain⟨h1,sz',e1,h2|h2⟩:=hh<;>cases h2
 |some b=>obtain⟨es,clock,h1,h2⟩:=hh;exact⟨es,clock,h1,h2.congr e⟩
inductive a4k:List a0f->List a0f->Prop
 |nil (h:List a0f):a4k h []
 |cons {o o':a0f} {h h':List a0f} (e:a9v o o') (r:a4k h h'):a4k (o::h) (o'::h')
theorem a4k.get {h h':List a0f}(r:a4k h h'):h'.length<=h.length/\ ∀(i:Nat) (o o':a0f),h[i]? =AD o->h'[i]? =AD o'->a9v o o':=by
 induction r with
 |nil h=>simp
 |cons e r ih=>
  refine⟨by simp[ih.1],fun i o o' hx hy=> ?_⟩;cases i with
  |zero=>simp at hx hy;subst hx;subst hy;exact e
  |succ i=>simp at hx hy;exact ih.2 i o o' hx hy
mutual
def AV.low (n:Nat):AV->Bool
 | .agg cs=>AV.lowL n cs
 | .tuple cs=>AV.lowL n cs
 | .fn _ us cs=>AV.lowL n us&&AV.lowL n cs
 | .ptr m _=>AG m n
 | .aptr m _ _ _=>AG m n
 | .msl m _ _ _ _=>AG m n
 | .vsl m _ _=>AG m n
 | .map m=>AG m n
 | .yl m=>AG m n
 |_=>AC
def AV.lowL (n:Nat):List AV->Bool
 |[]=>AC
 |v::r=>v.low n&&AV.lowL n r
end
def a0f.low (n:Nat):a0f->Bool
 | .var cs=>AV.lowL n cs
 | .loop _ ts _ _=>AV.lowL n ts
 | .mapv _ _ _ vs=>AV.lowL n vs
 | .arrv vs=>AV.lowL n vs
 |_=>AC
def d5i (n:Nat):List a0f->Bool
 |[]=>AC
 |o::r=>o.low n&&d5i n r
theorem a2f {n:Nat}{l:List AV}(h:AV.lowL n l=AC){i:Nat}{x:AV}(hx:l[i]? =AD x):x.low n=AC:=by
 induction l generalizing i with
 |nil=>simp at hx
 |cons y l ih=>
  simp only[AV.lowL,AF] at h;cases i with
  |zero=>simp at hx;subst hx;exact h.1
  |succ i=>simp at hx;exact ih h.2 hx
theorem c1k {n:Nat}{l:List a0f}(h:d5i n l=AC){i:Nat}{x:a0f}(hx:l[i]? =AD x):x.low n=AC:=by
 induction l generalizing i with
 |nil=>simp at hx
 |cons y l ih=>
  simp only[d5i,AF] at h;cases i with
  |zero=>simp at hx;subst hx;exact h.1
  |succ i=>simp at hx;exact ih h.2 hx
def Rho.cut (ρ:Rho)(n:Nat):Rho:=fun l=>if l<n then ρ l else AP
theorem e0x {m n:Nat}(h:AG m n=AC):m<n:=by simpa [Nat.blt_eq] using h
theorem Rho.cut_lt {ρ:Rho}{n m:Nat}(h:AG m n=AC):ρ.cut n m=ρ m:=if_pos (e0x h)
theorem VR.cut {w:AS}{S:Nat->Prop}{ρ:Rho}{n:Nat}{x:AV}{v:AJ}(h:VR w S ρ x v)(hb:x.low n=AC):VR w S (ρ.cut n) x v:=by
 induction h with
 |d h=>exact .d h
 |any v=>exact .any v
 |und=>exact .und
 |agg cs vs hl _ ih=>exact .agg cs vs hl fun i x v hx hv=>ih i x v hx hv (a2f (by simpa only[AV.low] using hb) hx)
 |tuple cs vs hl _ ih=>exact .tuple cs vs hl fun i x v hx hv=>ih i x v hx hv (a2f (by simpa only[AV.low] using hb) hx)
 |ptr l off b C h=>exact .ptr l off b C ((Rho.cut_lt (by simpa only[AV.low] using hb)).trans h)
 |aptr l sz i off b C h=>exact .aptr l sz i off b C ((Rho.cut_lt (by simpa only[AV.low] using hb)).trans h)
 |dptr row off b base f hb' hv hr=>exact .dptr row off b base f hb' hv hr
 |dfs sz n e a h=>exact .dfs sz n e a h
 |msl l sz AR len full ob C cap a h hc hcap ha=>exact .msl l sz AR len full ob C cap a ((Rho.cut_lt (by simpa only[AV.low] using hb)).trans h) hc hcap ha
 |vsl l off n b C cap h hc=>exact .vsl l off n b C cap ((Rho.cut_lt (by simpa only[AV.low] using hb)).trans h) hc
 |map l b C h=>exact .map l b C ((Rho.cut_lt (by simpa only[AV.low] using hb)).trans h)
 |fn f first cap us vs hl1 _ hl _ ih1 ih=>
  simp only[AV.low,AF] at hb;exact .fn f first cap us vs hl1 (fun i x v hx hv=>ih1 i x v hx hv (a2f hb.1 hx)) hl (fun i x v hx hv=>ih i x v hx hv (a2f hb.2 hx))
 |ge m n h=>exact .ge m n h
 |yl l b C h=>exact .yl l b C ((Rho.cut_lt (by simpa only[AV.low] using hb)).trans h)
theorem a0z.cut {w:AS}{S:Nat->Prop}{ρ:Rho}{n b C:Nat}{o:a0f}(h:a0z w S ρ b C o)(hb:o.low n=AC):a0z w S (ρ.cut n) b C o:=by
 cases o with
 |var cs=>obtain⟨vs,ty,h1,h2,h3⟩:=h;exact⟨vs,ty,h1,h2,fun i x v hx hv=>(h3 i x v hx hv).cut (a2f (by simpa only[a0f.low] using hb) hx)⟩
 |arr sz n e=>exact h
 |frz sz n e=>exact h
 |map wide ks n f=>exact h
 |arrv vals=>obtain⟨vs,ty,h1,h2,h3,h4⟩:=h;exact⟨vs,ty,h1,h2,h3,fun i x v hx hv=>(h4 i x v hx hv).cut (a2f (by simpa only[a0f.low] using hb) hx)⟩
 |mapv wide ks keys vals=>obtain⟨es,clock,h1,h2,h3,h4⟩:=h;exact⟨es,clock,h1,h2,h3,fun i x e hx he=>(h4 i x e hx he).cut (a2f (by simpa only[a0f.low] using hb) hx)⟩
 |loop s ts ps code=>obtain⟨r,h1,h2,h3,h4,h5,h6,h7⟩:=h;exact⟨r,h1,h2,h3,h4,h5,h6,fun i x v hx hv=>(h7 i x v hx hv).cut (a2f (by simpa only[a0f.low] using hb) hx)⟩
 |gone=>exact h
def e1s:List Nat->List Nat->Bool
 |[],_=>AC
 |l::r,m=>b2l l m&&e1s r m
theorem b4g: ∀{l m:List Nat},e1s l m=AC-> ∀i,i∈l->i∈m
 |[],_,_,i,h=>by simp at h
 |j::l,m,h,i,hi=>by
  simp only[e1s,AF] at h;rcases AQ.1 hi with rfl|hi
  ·exact a1o.1 h.1
  ·exact b4g h.2 i hi
structure Le (base:Nat)(st st':St):Prop where
 ts:a3x st.ts st'.ts
 h:a4k st.h st'.h
 len:base<=st'.h.length
 cut:(AV.lowL st'.h.length st'.ts=AC/\d5i st'.h.length st'.h=AC)\/st.h.length=st'.h.length
 mv:e1s st.mv st'.mv=AC
theorem Rel.le {E:Ent}{st st':St}{a:Act}{w:AS}{S:Nat->Prop}{ρ:Rho}(l:Le E.base st st')(r:Rel E st a w S ρ): ∃ρ',Rel E st' a w S ρ':=by
 obtain⟨l1,l2⟩:=l.ts.get;obtain⟨l3,l4⟩:=l.h.get;have ht:VRs w S ρ st'.ts a.tmps:=⟨by rw[<-l1];exact r.ts.1,a0x.cells l1 l2 r.ts.2⟩;have hobj: ∀l ob C,l<st'.h.length->ρ l=AD (ob,C)-> ∃o o',st.h[l]? =AD o/\st'.h[l]? =AD o'/\a9v o o'/\c7g w S ρ ob C o':=fun m ob C hm hl=>by obtain⟨o,h1,h2⟩:=r.sim.obj m ob C hl;have h3:st'.h[m]? =AD (st'.h[m]'hm):=AE _;have:=l4 m o _ h1 h3;exact⟨o,_,h1,h3,this,this.holds _ _ _ _ _ h2⟩
 have hlt: ∀l ob C,ρ l=AD (ob,C)->l<st.h.length:=fun m ob C hl=>by obtain⟨o,h1,_⟩:=r.sim.obj m ob C hl;exact (AB.1 h1).1
 by_cases hn:st.h.length=st'.h.length
 ·refine⟨ρ,⟨ht,r.ds,⟨r.sim.sblk,fun m ob C hl=> ?_,r.sim.inj,fun m b C o hl ho hf=> ?_⟩,r.ext,fun m hm hmv=>r.keep m hm fun h=>hmv (b4g l.mv m h),l.len⟩⟩
  ·obtain⟨o,o',_,h2,_,h4⟩:=hobj m ob C (hn▸hlt m ob C hl) hl;exact⟨o',h2,h4⟩
  ·obtain⟨o1,o',h1,h2,h3,_⟩:=hobj m _ C (hn▸hlt m _ C hl) hl;rw[ho] at h2;cases h2;exact r.sim.own m b C o1 hl h1 (h3.frz hf)
 ·obtain⟨c1,c2⟩:=l.cut.resolve_right hn;have hcut: ∀m p,ρ.cut st'.h.length m=AD p->m<st'.h.length/\ρ m=AD p:=fun m p hp=>by
   unfold Rho.cut at hp;split at hp
   ·rename_i h;exact⟨h,hp⟩
   ·cases hp
  refine⟨ρ.cut st'.h.length,⟨⟨ht.1,fun i x v hx hv=>(ht.2 i x v hx hv).cut (a2f c1 hx)⟩,?_,⟨r.sim.sblk,fun m ob C hl=> ?_,fun m m' b C C' h1 h2=>r.sim.inj m m' b C C' (hcut _ _ h1).2 (hcut _ _ h2).2,fun m b C o hl ho hf=> ?_⟩,?_,fun m hm hmv=> ?_,l.len⟩⟩
  ·obtain⟨Ds,d1,d2,d3⟩:=r.ds;exact⟨Ds,d1,fun D hD=>⟨(d2 D hD).obj,(d2 D hD).new,fun m C hl=>(d2 D hD).out m C (hcut _ _ hl).2,(d2 D hD).imm⟩,d3⟩
  ·obtain⟨hm,hl⟩:=hcut _ _ hl;obtain⟨o,o',_,h2,_,h4⟩:=hobj m ob C hm hl;refine⟨o',h2,?_⟩;cases ob with
   |none=>exact h4
   |some b=>exact a0z.cut h4 (c1k c2 h2)
  ·obtain⟨hm,hl⟩:=hcut _ _ hl;obtain⟨o1,o',h1,h2,h3,_⟩:=hobj m _ C hm hl;rw[ho] at h2;cases h2;exact r.sim.own m b C o1 hl h1 (h3.frz hf)
  ·exact⟨r.ext.os,r.ext.tape,r.ext.output,r.ext.size,r.ext.mono,r.ext.cell,r.ext.news,r.ext.frame,fun m b C hl=>r.ext.owned m b C (hcut _ _ hl).2⟩
  ·have:=l.len;have e:ρ.cut st'.h.length m=ρ m:=if_pos (by omega);rw[e];exact r.keep m hm fun h=>hmv (b4g l.mv m h)
section
variable {P:AW} {A:Ann} {ro:Option Nat} {E:Ent} {Sg:Sig} {Q:Lv->St->Prop}
def e4f {σ:Type}(base:Nat)(R:σ->Prop)(μ:σ->Nat)(st:σ->St)(Q:Lv->St->Prop)(s:σ):Lv->St->Prop
 | .normal,st'=> ∃s',R s'/\μ s'<μ s/\Le base st' (st s')
 | .exit i,st'=>Q (.exit i) st'
 | .ret,st'=>Q .ret st'
theorem d1u (hm:P.follows .mixedOrders=AC)(hok:OkP P)(hS:Sg=std P A ro E){σ:Type}(R:σ->Prop)(μ:σ->Nat)(st:σ->St){ic:a0c}{st0:St}(s:σ)(hs:R s)(h0:Le E.base st0 (st s))
 (h: ∀s,R s->ev Sg ic (e4f E.base R μ st Q s) (st s)):Sg.loop ic Q st0:=by
 subst hS;intro c hc a w S ρ hr;obtain⟨ρ1,hr1⟩:=hr.le h0;clear hr h0;refine wpIn_loop_rounds (μ s+1) ?_;have hk:μ s<μ s+1:=Nat.lt_succ_self _;generalize μ s+1=m at hk⊢
 induction m generalizing s a w S ρ1 with
 |zero=>omega
 |succ m ih=>
  refine wpIn_mono (a4x hm hok c ic hc (h s hs) a w S ρ1 hr1) fun e a' w' hp=> ?_;obtain⟨lv,st',S',ρ',h1,h2,h3⟩:=hp;cases lv with
  |normal=>cases e<;>simp[a9d] at h1;obtain⟨s',g1,g2,g3⟩:=h2;obtain⟨ρ',h3⟩:=h3.le g3;exact ih s' g1 a' w' S' ρ' h3 (by omega)
  |exit i=>cases e<;>simp[a9d] at h1;subst h1;exact⟨_,st',S',ρ',rfl,h2,h3⟩
  |ret=>cases e<;>simp[a9d] at h1;exact⟨_,st',S',ρ',rfl,h2,h3⟩
end
def b5r:List (Nat×AV)->Nat->List AV
 |[],n=>b8q .any n
 |(i,v)::l,n=>a2x (b5r l n) i v
def b9b (ts:List AV):List (Nat×AV)->Prop
 |[]=>True
 |(i,v)::l=>(match a1a ts i with|some x=>a0x x v|none=>False)/\b9b ts l
theorem a3x.of_get: ∀{xs ys:List AV},xs.length=ys.length->(∀(i:Nat) (x y:AV),xs[i]? =AD x->ys[i]? =AD y->a0x x y)->a3x xs ys
 |[],[],_,_=> .nil
 |x::xs,y::ys,hl,h=> .cons (h 0 x y rfl rfl) (a3x.of_get (by simpa using hl) fun i a b ha hb=>h (i+1) a b (by simpa using ha) (by simpa using hb))
 |[],_::_,hl,_=>by simp at hl
 |_::_,[],hl,_=>by simp at hl
theorem b8u (l:List (Nat×AV))(n:Nat):(b5r l n).length=n:=by
 induction l with
 |nil=>simp[b5r,a7i]
 |cons p l ih=>obtain⟨i,v⟩:=p;simp[b5r,a0l,ih]
theorem d2w {ts:List AV}{l:List (Nat×AV)}{n:Nat}(hn:a3q ts=n)(h:b9b ts l):a3x ts (b5r l n):=by
 rw[a0u] at hn;refine a3x.of_get (by rw[b8u,hn]) ?_
 induction l with
 |nil=>
  intro i x y hx hy;rw[b5r,a7i,List.getElem?_replicate] at hy;split at hy
  ·cases hy;exact a0x.any x
  ·cases hy
 |cons p l ih=>
  obtain⟨k,v⟩:=p;obtain⟨h1,h2⟩:=h;intro i x y hx hy;rw[b5r,a0l] at hy;by_cases e:i=k
  ·subst e;rw[a0i,hx] at h1;rw[List.getElem?_set] at hy;simp at hy;rw[<-hy.2];exact h1
  ·rw[AK (Ne.symm e)] at hy;exact ih h2 i x y hx hy
theorem a4c {base:Nat}{ts:List AV}{h h':List a0f}{mv mv':List Nat}{l:List (Nat×AV)}{n:Nat}(hn:a3q ts=n)(hl:b9b ts l)(hh:a4k h h')(hb:base<=h'.length)
 (hc:(AV.lowL h'.length (b5r l n)=AC/\d5i h'.length h'=AC)\/h.length=h'.length) (hv:e1s mv mv'=AC):Le base ⟨ts,h,mv⟩ ⟨b5r l n,h',mv'⟩:=
 ⟨d2w hn hl,hh,hb,hc,hv⟩
section
variable {P:AW} {A:Ann} {ro:Option Nat} {E:Ent} {Sg:Sig} {Q:Lv->St->Prop}
theorem a1g (hS:Sg=std P A ro E){p q:Prop}(hp:p)(hq:q):Sg.req p q:=by subst hS;exact⟨hp,hq⟩
theorem a0v (hS:Sg=std P A ro E){own:Bool}{f:AX}{args:List AV}{K:AV->Prop}(r:AV)(h:a0j P own f args r)(hk:K r):Sg.callb own f args K:=by subst hS;exact⟨r,h,hk⟩
def c1l (N:St->Prop)(Q:Lv->St->Prop):Lv->St->Prop
 | .normal,st=>N st
 | .exit i,st=>Q (.exit i) st
 | .ret,st=>Q .ret st
theorem a7r (hm:P.follows .mixedOrders=AC)(hok:OkP P)(hS:Sg=std P A ro E){σ:Type}(R:σ->Prop)(μ:σ->Nat)(st:σ->St){ic:a0c}{st0:St}(s:σ)(hs:R s)(h0:Le E.base st0 (st s))
 (h: ∀s,R s-> ∀N:St->Prop,(∀s' st',R s'->μ s'<μ s->Le E.base st' (st s')->N st')->ev Sg ic (c1l N Q) (st s)):Sg.loop ic Q st0:=by
 refine d1u hm hok hS R μ st s hs h0 fun s hs=> ?_;have:=h s hs (fun st'=> ∃s',R s'/\μ s'<μ s/\Le E.base st' (st s')) fun s' st' h1 h2 h3=>⟨s',h1,h2,h3⟩;have e:c1l (fun st'=> ∃s',R s'/\μ s'<μ s/\Le E.base st' (st s')) Q=e4f E.base R μ st Q s:=by funext lv st';cases lv<;>rfl
 rw[e] at this;exact this
end
section
variable {P:AW} {f:AX} {x:XFn} {args:List AV}
theorem a0k (hm:P.follows .mixedOrders=AC)(hok:OkP P)(hx:a0q P f x)(r:AV)(hn:AN args.length x.n=AC)
 (h: ∀(E:Ent) (Sg:Sig),E.base=0->Sg=std P x.A AP E->ev Sg x.ic (d8h Sg x.irs r) ⟨a9g args (x.n-args.length),[],[]⟩):a0j P AH f args r:=by
 obtain⟨fn,c,hf,hb,hname,hc,hres,hnt⟩:=hx;have hle:args.length<=x.n:=by simpa using hn
 exact b1p (n:=x.n-args.length) hm hok hf hb hname x.A hc hres (by rw[hnt];omega) h
theorem b9y (hm:P.follows .mixedOrders=AC)(hok:OkP P)(hx:a0q P f x){h0:List a0f}{K:List Nat->AV->List a0f->Prop}(hn:AN args.length x.n=AC)
 (h: ∀(E:Ent) (Sg:Sig),E.base=h0.length->Sg=std P x.A AP E->ev Sg x.ic (d4j Sg x.irs h0.length K) ⟨a9g args (x.n-args.length),h0,[]⟩):a1h P f args h0 K:=by
 obtain⟨fn,c,hf,hb,hname,hc,hres,hnt⟩:=hx;have hle:args.length<=x.n:=by simpa using hn
 exact b0s (n:=x.n-args.length) hm hok hf hb hname x.A hc hres (by rw[hnt];omega) h
theorem b8m {r:DV}(hf:c0j (.d r))(h:a0j P AH f args (.d r)):a0j P AC f args (.d r):=by have:=b4e (xs:=[.d r]) (fun x hx=>by simp at hx;subst hx;exact hf) h;exact this
theorem a1e {b:Bool}(h:a0j P AH f args (.d (.bool b))):a0j P AC f args (.d (.bool b)):=b8m (by trivial) h
theorem a4e {k:AM}{n:IX}(h:a0j P AH f args (.d (.int k n))):a0j P AC f args (.d (.int k n)):=b8m (by trivial) h
end
mutual
def AV.ren (π:Nat->Nat):AV->AV
 | .agg cs=> .agg (AV.renL π cs)
 | .tuple cs=> .tuple (AV.renL π cs)
 | .fn f us cs=> .fn f (AV.renL π us) (AV.renL π cs)
 | .ptr m off=> .ptr (π m) off
 | .aptr m sz i off=> .aptr (π m) sz i off
 | .msl m sz s n f=> .msl (π m) sz s n f
 | .vsl m off n=> .vsl (π m) off n
 | .map m=> .map (π m)
 | .yl m=> .yl (π m)
 |v=>v
def AV.renL (π:Nat->Nat):List AV->List AV
 |[]=>[]
 |v::r=>v.ren π::AV.renL π r
end
def a0f.ren (π:Nat->Nat):a0f->a0f
 | .var cs=> .var (AV.renL π cs)
 | .loop s ts ps code=> .loop s (AV.renL π ts) ps code
 | .mapv wide ks keys vals=> .mapv wide ks keys (AV.renL π vals)
 | .arrv vals=> .arrv (AV.renL π vals)
 |o=>o
def i2l (π:Nat->Nat):List a0f->List a0f
 |[]=>[]
 |o::r=>o.ren π::i2l π r
theorem AV.renL_eq (π:Nat->Nat)(l:List AV):AV.renL π l=l.map (AV.ren π):=by
 induction l with
 |nil=>rfl
 |cons x l ih=>simp[AV.renL,ih]
theorem h5f (π:Nat->Nat)(l:List a0f):i2l π l=l.map (a0f.ren π):=by
 induction l with
 |nil=>rfl
 |cons x l ih=>simp[i2l,ih]
theorem h6j (π:Nat->Nat)(o:a0f):(o.ren π).frozen=o.frozen:=by cases o<;>rfl
section
variable {w:AS} {S:Nat->Prop} {ρ ρ':Rho} {π:Nat->Nat}
theorem VR.ren (hρ: ∀i p,ρ i=AD p->ρ' (π i)=AD p){x:AV}{v:AJ}(hv:VR w S ρ x v):VR w S ρ' (x.ren π) v:=by
 have key: ∀{cs:List AV} {vs:Array AJ},(∀(i:Nat) (x:AV) (v:AJ),cs[i]? =AD x->vs[i]? =AD v->VR w S ρ' (x.ren π) v)->
  ∀(i:Nat) (x:AV) (v:AJ),(AV.renL π cs)[i]? =AD x->vs[i]? =AD v->VR w S ρ' x v:=by
  intro cs vs ih i x v hx hv;rw[AV.renL_eq,AA] at hx;cases hc:cs[i]? with
  |none=>simp[hc] at hx
  |some y=>simp[hc] at hx;subst hx;exact ih i y v hc hv
 induction hv with
 |d h=>exact .d h
 |any v=>exact .any v
 |und=>exact .und
 |agg cs vs hl _ ih=>exact .agg _ vs (by simpa [AV.renL_eq] using hl) (key ih)
 |tuple cs vs hl _ ih=>exact .tuple _ vs (by simpa [AV.renL_eq] using hl) (key ih)
 |ptr l off b C h=>exact .ptr _ off b C (hρ _ _ h)
 |aptr l sz i off b C h=>exact .aptr _ sz i off b C (hρ _ _ h)
 |dptr row off b base f hb hv hr=>exact .dptr row off b base f hb hv hr
 |dfs sz n e a h=>exact .dfs sz n e a h
 |msl l sz AR len full ob C cap a h hc hcap ha=>exact .msl _ sz AR len full ob C cap a (hρ _ _ h) hc hcap ha
 |vsl l off n b C cap h hc=>exact .vsl _ off n b C cap (hρ _ _ h) hc
 |map l b C h=>exact .map _ b C (hρ _ _ h)
 |fn f first cap us vs hl1 _ hl _ ih1 ih=>exact .fn f _ _ us vs (by simpa [AV.renL_eq] using hl1) (key ih1) (by simpa [AV.renL_eq] using hl) (key ih)
 |ge m n h=>exact .ge m n h
 |yl l b C h=>exact .yl _ b C (hρ _ _ h)
theorem VR.unren {y:AV}{v:AJ}(hv:VR w S ρ y v): ∀{x:AV},y=x.ren π->VR w S (fun i=>ρ (π i)) x v:=by
 have key: ∀{cs ds:List AV} {vs:Array AJ},cs=AV.renL π ds->(∀(i:Nat) (y:AV) (v:AJ),cs[i]? =AD y->vs[i]? =AD v-> ∀{x:AV},y=x.ren π->VR w S (fun i=>ρ (π i)) x v)->
  ∀(i:Nat) (x:AV) (v:AJ),ds[i]? =AD x->vs[i]? =AD v->VR w S (fun i=>ρ (π i)) x v:=by
  intro cs ds vs he ih i x v hx hv;refine ih i (x.ren π) v ?_ hv rfl;rw[he,AV.renL_eq,AA,hx];rfl
 have len: ∀{cs ds:List AV} {n:Nat},cs=AV.renL π ds->cs.length=n->ds.length=n:=by intro cs ds n he hl;rw[he,AV.renL_eq] at hl;simpa using hl
 induction hv with
 |d h=>intro x hx;cases x<;>simp only[AV.ren] at hx<;>(try cases hx);exact .d h
 |any v=>intro x hx;cases x<;>simp only[AV.ren] at hx<;>(try cases hx);exact .any v
 |und=>intro x hx;cases x<;>simp only[AV.ren] at hx<;>(try cases hx);exact .und
 |agg cs vs hl _ ih=>intro x hx;cases x<;>simp only[AV.ren,AV.agg.injEq] at hx<;>(try cases hx);exact .agg _ vs (len rfl hl) (key rfl ih)
 |tuple cs vs hl _ ih=>intro x hx;cases x<;>simp only[AV.ren,AV.tuple.injEq] at hx<;>(try cases hx);exact .tuple _ vs (len rfl hl) (key rfl ih)
 |ptr l off b C h=>intro x hx;cases x<;>simp only[AV.ren] at hx<;>(try cases hx);exact .ptr _ off b C h
 |aptr l sz i off b C h=>intro x hx;cases x<;>simp only[AV.ren] at hx<;>(try cases hx);exact .aptr _ sz i off b C h
 |dptr row off b base f hb hv hr=>intro x hx;cases x<;>simp only[AV.ren] at hx<;>(try cases hx);exact .dptr row off b base f hb hv hr
 |dfs sz n e a h=>intro x hx;cases x<;>simp only[AV.ren] at hx<;>(try cases hx);exact .dfs sz n e a h
 |msl l sz AR len full ob C cap a h hc hcap ha=>intro x hx;cases x<;>simp only[AV.ren] at hx<;>(try cases hx);exact .msl _ sz AR len full ob C cap a h hc hcap ha
 |vsl l off n b C cap h hc=>intro x hx;cases x<;>simp only[AV.ren] at hx<;>(try cases hx);exact .vsl _ off n b C cap h hc
 |map l b C h=>intro x hx;cases x<;>simp only[AV.ren] at hx<;>(try cases hx);exact .map _ b C h
 |fn f first cap us vs hl1 _ hl _ ih1 ih=>intro x hx;cases x<;>simp only[AV.ren,AV.fn.injEq] at hx<;>(try cases hx;done);obtain⟨rfl,hx1,hx2⟩:=hx;exact .fn _ _ _ us vs (len hx1 hl1) (key hx1 ih1) (len hx2 hl) (key hx2 ih)
 |ge m n h=>intro x hx;cases x<;>simp only[AV.ren] at hx<;>(try cases hx);exact .ge m n h
 |yl l b C h=>intro x hx;cases x<;>simp only[AV.ren] at hx<;>(try cases hx);exact .yl _ b C h
theorem a0z.ren (hρ: ∀i p,ρ i=AD p->ρ' (π i)=AD p){b C:Nat}{oo:a0f}(hv:a0z w S ρ b C oo):a0z w S ρ' b C (oo.ren π):=by
 cases oo with
 |var cs=>
  obtain⟨vs,ty,h1,h2,h3⟩:=hv;refine⟨vs,ty,h1,by simpa [AV.renL_eq] using h2,fun i x v hx hv=> ?_⟩;rw[AV.renL_eq,AA] at hx;cases hc:cs[i]? with
  |none=>simp[hc] at hx
  |some y=>simp[hc] at hx;subst hx;exact (h3 i y v hc hv).ren hρ
 |arr sz n e=>exact hv
 |frz sz n e=>exact hv
 |map wide ks n f=>exact hv
 |arrv vals=>
  obtain⟨vs,ty,h1,h2,h3,h4⟩:=hv;refine⟨vs,ty,h1,h2,by simpa [AV.renL_eq] using h3,fun i x v hx hv=> ?_⟩;rw[AV.renL_eq,AA] at hx;cases hc:vals[i]? with
  |none=>simp[hc] at hx
  |some y=>simp[hc] at hx;subst hx;exact (h4 i y v hc hv).ren hρ
 |mapv wide ks keys vals=>
  obtain⟨es,clock,h1,h2,h3,h4⟩:=hv;refine⟨es,clock,h1,h2,by simpa [AV.renL_eq] using h3,fun i x e hx he=> ?_⟩;rw[AV.renL_eq,AA] at hx;cases hc:vals[i]? with
  |none=>simp[hc] at hx
  |some y=>simp[hc] at hx;subst hx;exact (h4 i y e hc he).ren hρ
 |loop s ts ps code=>
  obtain⟨r,h1,h2,h3,h4,h5,h6,h7⟩:=hv;refine⟨r,h1,h2,h3,h4,h5,by simpa [AV.renL_eq] using h6,fun i x v hx hv=> ?_⟩;rw[AV.renL_eq,AA] at hx;cases hc:ts[i]? with
  |none=>simp[hc] at hx
  |some y=>simp[hc] at hx;subst hx;exact (h7 i y v hc hv).ren hρ
 |gone=>exact hv
theorem a0z.unren {b C:Nat}{oo:a0f}(hv:a0z w S ρ b C (oo.ren π)):a0z w S (fun i=>ρ (π i)) b C oo:=by
 cases oo with
 |var cs=>obtain⟨vs,ty,h1,h2,h3⟩:=hv;refine⟨vs,ty,h1,by simpa [AV.renL_eq] using h2,fun i x v hx hv=> ?_⟩;exact (h3 i (x.ren π) v (by rw[AV.renL_eq,AA,hx];rfl) hv).unren rfl
 |arr sz n e=>exact hv
 |frz sz n e=>exact hv
 |map wide ks n f=>exact hv
 |arrv vals=>obtain⟨vs,ty,h1,h2,h3,h4⟩:=hv;exact⟨vs,ty,h1,h2,by simpa [AV.renL_eq] using h3,fun i x v hx hv=>(h4 i (x.ren π) v (by rw[AV.renL_eq,AA,hx];rfl) hv).unren rfl⟩
 |mapv wide ks keys vals=>obtain⟨es,clock,h1,h2,h3,h4⟩:=hv;exact⟨es,clock,h1,h2,by simpa [AV.renL_eq] using h3,fun i x e hx he=>(h4 i (x.ren π) e (by rw[AV.renL_eq,AA,hx];rfl) he).unren rfl⟩
 |loop s ts ps code=>obtain⟨r,h1,h2,h3,h4,h5,h6,h7⟩:=hv;refine⟨r,h1,h2,h3,h4,h5,by simpa [AV.renL_eq] using h6,fun i x v hx hv=> ?_⟩;exact (h7 i (x.ren π) v (by rw[AV.renL_eq,AA,hx];rfl) hv).unren rfl
 |gone=>exact hv
def h4h:List Nat->a0f->a0f
 |[],o=>o
 |l::pg,o=>h4h pg (o.forget l AH)
theorem h5y (pg:List Nat): ∀(h:List a0f) (m:Nat),(h4b pg h)[m]? =(h[m]?).map (h4h pg):=by
 induction pg with
 |nil=>intro h m;simp[h4b,h4h]
 |cons l pg ih=>intro h m;rw[h4b,ih,a3s,Option.map_map];rfl
theorem h6g (pg:List Nat): ∀(o:a0f),(h4h pg o).frozen=o.frozen:=by
 induction pg with
 |nil=>intro o;rfl
 |cons l pg ih=>intro o;rw[h4h,ih,a0f.forget_frozen]
theorem a0z.forgets {w':AS}{S':Nat->Prop}(hS: ∀b,S b->S' b)(hw: ∀b,S b->w'.heap[b]? =w.heap[b]?){b C:Nat}(hb:w'.heap[b]? =w.heap[b]?)(pg:List Nat):
 ∀{ρ:Rho},(∀m p,m∉pg->ρ m=AD p->ρ' m=AD p)-> ∀{o:a0f},a0z w S ρ b C o->a0z w' S' ρ' b C (h4h pg o):=by
 induction pg with
 |nil=>intro ρ hρ o h;exact h.mono hS hw (fun m p=>hρ m p (by simp)) hb
 |cons l pg ih=>
  intro ρ hρ o h;have h1:a0z w S (fun m=>if m=l then AP else ρ m) b C (o.forget l AH):=by refine a0z.forget (fun _ h=>h) (fun _ _=>rfl) l AH (fun m p hg hm=> ?_) rfl h;show (if m=l then AP else ρ m)=AD p;rw[if_neg (fun e=>by subst e;simp[gone] at hg)];exact hm
  refine ih (ρ:=fun m=>if m=l then AP else ρ m) (fun m p hm hp=> ?_) h1;by_cases e:m=l
  ·simp[e] at hp
  ·simp[e] at hp;exact hρ m p (by simp[e,hm]) hp
end
def b2u:List Nat->Nat->Nat->Nat
 |[],base,i=>base+i
 |l::_,_,0=>l
 |_::pos,base,i+1=>b2u pos base i
def h4m:List a0f->List Nat->List a0f->List a0f
 |H,[],os=>a2u H os
 |H,_::_,[]=>H
 |H,l::pos,o::os=>h4m (a2x H l o) pos os
theorem h9j {base:Nat}: ∀{pos:List Nat} {i:Nat},i<pos.length->pos[i]? =AD (b2u pos base i)
 |[],i,h=>by simp at h
 |l::pos,0,_=>rfl
 |l::pos,i+1,h=>by have:=h9j (base:=base) (pos:=pos) (i:=i) (by simpa using h);simpa [b2u] using this
theorem h9d {base:Nat}: ∀{pos:List Nat} {i:Nat},pos.length<=i->b2u pos base i=base+(i-pos.length)
 |[],i,_=>by simp[b2u]
 |l::pos,0,h=>by simp at h
 |l::pos,i+1,h=>by have:=h9d (base:=base) (pos:=pos) (i:=i) (by simpa using h);simp only[b2u,this,List.length_cons];omega
theorem h5m: ∀{pos:List Nat} {H os:List a0f},pos.length<=os.length->(h4m H pos os).length=H.length+(os.length-pos.length)
 |[],H,os,_=>by simp[h4m,a0r]
 |l::pos,H,[],h=>by simp at h
 |l::pos,H,o::os,h=>by
  have h':pos.length<=os.length:=by simpa using h
  rw[h4m,h5m h',a0l];simp
theorem h4n: ∀{pos:List Nat} {H os:List a0f} {m:Nat},m<H.length->m∉pos->(h4m H pos os)[m]? =H[m]?
 |[],H,os,m,hm,_=>by rw[h4m,a0r,List.getElem?_append_left hm]
 |l::pos,H,[],m,_,_=>rfl
 |l::pos,H,o::os,m,hm,hn=>by simp only[AQ,not_or] at hn;rw[h4m,h4n (by rw[a0l];simpa using hm) hn.2,a0l,AK (Ne.symm hn.1)]
theorem h5u: ∀{pos:List Nat} {H os:List a0f} {i:Nat},pos.Nodup->(∀l,l∈pos->l<H.length)->pos.length<=os.length->i<os.length->(h4m H pos os)[b2u pos H.length i]? =os[i]?
 |[],H,os,i,_,_,_,hi=>by rw[h4m,a0r,b2u,List.getElem?_append_right (by omega)];congr 1;omega
 |l::pos,H,[],i,_,_,hl,_=>by simp at hl
 |l::pos,H,o::os,i,hd,hlt,hl,hi=>by
  have hd':=AO.1 hd;have hlen:(a2x H l o).length=H.length:=by rw[a0l];simp
  cases i with
  |zero=>rw[h4m,b2u,h4n (by rw[hlen];exact hlt l (by simp)) hd'.1,a0l,List.getElem?_set_self (hlt l (by simp))];rfl
  |succ i=>rw[h4m,b2u,<-hlen,h5u hd'.2 (fun m hm=>by rw[hlen];exact hlt m (by simp[hm])) (by simpa using hl) (by simpa using hi)];simp
def i4y (H:List a0f):List Nat->List a0f->Prop
 |[],[]=>True
 |l::pos,o::os=>(match a1a H l with|some o'=>a9v o' o|none=>False)/\i4y H pos os
 |_,_=>False
theorem h7m {H:List a0f}: ∀{pos:List Nat} {os:List a0f},i4y H pos os->pos.length=os.length/\ ∀(i l:Nat) (o:a0f),pos[i]? =AD l->os[i]? =AD o-> ∃o',H[l]? =AD o'/\a9v o' o
 |[],[],_=>⟨rfl,by simp⟩
 |[],_::_,h=>h.elim
 |_::_,[],h=>h.elim
 |l::pos,o::os,h=>by
  obtain⟨h1,h2⟩:=h;obtain⟨h3,h4⟩:=h7m h2;refine⟨by simp[h3],fun i l' o' hl ho=> ?_⟩;cases i with
  |zero=>
   simp at hl ho;subst hl;subst ho;rw[a0i] at h1;split at h1
   ·rename_i o' e;exact⟨o',e,h1⟩
   ·exact h1.elim
  |succ i=>simp at hl ho;exact h4 i l' o' hl ho
def h8z:List Nat->Bool
 |[]=>AC
 |l::r=>!b2l l r&&h8z r
theorem h7h: ∀{l:List Nat},h8z l=AC->l.Nodup
 |[],_=> .nil
 |l::r,h=>by simp only[h8z,AF,Bool.not_eq_true'] at h;exact AO.2 ⟨fun hm=>by rw[a1o.2 hm] at h;exact Bool.noConfusion h.1,h7h h.2⟩
def i3s (H:List a0f)(pos:List Nat)(K:List Nat->AV->List a0f->Prop)(pg:List Nat)(v:AV)(H':List a0f):Prop:=
 ∃pg0 v0 h0,K pg0 v0 h0/\pg=b3y (b2u pos (a3q H)) pg0/\v=v0.ren (b2u pos (a3q H))/\H'=h4m (h4b pg H) pos (i2l (b2u pos (a3q H)) h0)
theorem a1h.frame {P:AW}{f:AX}{args args':List AV}{h:List a0f}{K:List Nat->AV->List a0f->Prop}(hc:a1h P f args h K){H:List a0f}(pos:List Nat)(hd:h8z pos=AC)
 (ha:args'=AV.renL (b2u pos (a3q H)) args) (hH:i4y H pos (i2l (b2u pos (a3q H)) h)):a1h P f args' H (i3s H pos K):=by
 refine⟨hc.1,fun w S ρ vs hs hv=> ?_⟩;unfold i3s;rw[a0u] at ha hH⊢;generalize hπ:b2u pos H.length=π at ha hH⊢;have hnd:=h7h hd;obtain⟨a1,a2⟩:=h7m hH;rw[h5f,AI] at a1;have hlt: ∀l,l∈pos->l<H.length:=fun l hl=>by obtain⟨i,hi⟩:=AL hl;have hi':=(AB.1 hi).1;have ho:h[i]? =AD (h[i]'(by omega)):=AE _;obtain⟨o',h1,_⟩:=a2 i l _ hi (by rw[h5f,AA,ho];rfl);exact (AB.1 h1).1
 have πlt: ∀i,i<h.length->pos[i]? =AD (π i):=fun i hi=>by rw[<-hπ];exact h9j (by omega)
 have πge: ∀i,h.length<=i->π i=H.length+(i-h.length):=fun i hi=>by rw[<-hπ,h9d (by omega),a1]
 have πmem: ∀i,i<h.length->π i∈pos:=fun i hi=>List.mem_of_getElem? (πlt i hi);have πinj: ∀i j,π i=π j->i=j:=fun i j e=>by
  by_cases hi:i<h.length
  ·by_cases hj:j<h.length
   ·have h1:=πlt i hi;have h2:=πlt j hj;rw[<-e] at h2;obtain⟨q1,q2⟩:=AB.1 h1;obtain⟨q3,q4⟩:=AB.1 h2;have hp:=List.pairwise_iff_getElem.1 hnd;rcases Nat.lt_trichotomy i j with hij|hij|hij
    ·exact absurd (q2.trans q4.symm) (hp i j q1 q3 hij)
    ·exact hij
    ·exact absurd (q4.trans q2.symm) (hp j i q3 q1 hij)
   ·have:=hlt _ (πmem i hi);have:=πge j (by omega);omega
  ·by_cases hj:j<h.length
   ·have:=hlt _ (πmem j hj);have:=πge i (by omega);omega
   ·have:=πge i (by omega);have:=πge j (by omega);omega
 have hfresh: ∀l,H.length<=l->ρ l=AP:=fun l hl=>by
  cases hr:ρ l with
  |none=>rfl
  |some p=>obtain⟨o,h1,_⟩:=hs.obj l p.1 p.2 hr;have:=(AB.1 h1).1;omega
 have hs0:Sim w S (fun i=>ρ (π i)) h:=by
  refine⟨hs.sblk,fun i ob C hi=> ?_,fun i j b C C' h1 h2=>πinj _ _ (hs.inj _ _ b C C' h1 h2),fun i b C o hi ho hf=> ?_⟩
  ·by_cases hil:i<h.length
   ·have ho:h[i]? =AD (h[i]'hil):=AE _;obtain⟨o',h1,h2⟩:=a2 i (π i) _ (πlt i hil) (by rw[h5f,AA,ho];rfl);obtain⟨o2,h3,h4⟩:=hs.obj (π i) ob C hi;rw[h1] at h3;cases h3;refine⟨_,ho,?_⟩;have h5:=h2.holds _ _ _ _ _ h4;cases ob with
    |none=>obtain⟨hC,sz',e',h6⟩:=h5;refine⟨hC,sz',e',?_⟩;cases hoo:h[i]'hil<;>rw[hoo] at h6<;>simp[a0f.ren] at h6⊢ <;>exact h6
    |some b=>exact a0z.unren h5
   ·have:=hfresh (π i) (by have:=πge i (by omega);omega);rw[this] at hi;cases hi
  ·have hil:=(AB.1 ho).1;obtain⟨o',h1,h2⟩:=a2 i (π i) _ (πlt i hil) (by rw[h5f,AA,ho];rfl);exact hs.own (π i) b C o' hi h1 (h2.frz (by rw[h6j];exact hf))
 have hv0:VRs w S (fun i=>ρ (π i)) args vs:=by subst ha;refine⟨by have:=hv.1;rw[AV.renL_eq] at this;simpa using this,fun i x v hx hv'=>(hv.2 i (x.ren π) v (by rw[AV.renL_eq,AA,hx];rfl) hv').unren rfl⟩
 refine (hc.2 w S _ vs hs0 hv0).mono fun e w' he=> ?_;obtain⟨v,x,pg,h',S',ρ1,he,hk,hvr,hsim,hext,hlen,hlow⟩:=he;obtain⟨ρ',r1,r2⟩: ∃ρ':Rho,(∀i,ρ' (π i)=ρ1 i)/\(∀l,l<H.length->l∉pos->ρ' l=ρ l):=by
  classical
  refine⟨fun l=>if hl: ∃i,π i=l then ρ1 hl.choose else ρ l,fun i=> ?_,fun l hl hp=> ?_⟩
  ·have hex: ∃j,π j=π i:=⟨i,rfl⟩;simp only[dif_pos hex];rw[πinj _ _ hex.choose_spec]
  ·have: ¬ ∃i,π i=l:=fun⟨i,hi⟩=>by
    by_cases hil:i<h.length
    ·exact hp (hi▸πmem i hil)
    ·have:=πge i (by omega);omega
   simp only[dif_neg this]
 have hcase: ∀l,(l<H.length/\l∉pos)\/ ∃i,π i=l:=fun l=>by
  by_cases hl:l<H.length
  ·by_cases hp:l∈pos
   ·obtain⟨i,hi⟩:=AL hp;have hi':=(AB.1 hi).1;have:=πlt i (by omega);rw[hi] at this;exact .inr ⟨i,(Option.some.inj this).symm⟩
   ·exact .inl ⟨hl,hp⟩
  ·exact .inr ⟨h.length+(l-H.length),by have:=πge (h.length+(l-H.length)) (by omega);omega⟩
 have hkeep: ∀l p,l∉pg.map π->ρ l=AD p->ρ' l=AD p:=fun l p hl hp=>by
  rcases hcase l with⟨h1,h2⟩|⟨i,rfl⟩
  ·rw[r2 l h1 h2];exact hp
  ·rw[r1];by_cases hil:i<h.length
   ·rw[hlow i hil (fun hm=>hl (AT.2 ⟨i,hm,rfl⟩))];exact hp
   ·have:=hfresh (π i) (by have:=πge i (by omega);omega);rw[this] at hp;cases hp
 have hlow': ∀l,l<H.length->l∉pg.map π->ρ' l=ρ l:=fun l hl hn=>by
  rcases hcase l with⟨h1,h2⟩|⟨i,rfl⟩
  ·exact r2 l h1 h2
  ·have hil:i<h.length:=Nat.lt_of_not_le fun hle=>by have:=πge i hle;omega
   rw[r1,hlow i hil (fun hm=>hn (AT.2 ⟨i,hm,rfl⟩))]
 have hfl:(h4b (pg.map π) H).length=H.length:=h6c _ _;have hplen:pos.length<=(i2l π h').length:=by rw[h5f,AI];omega
 have hlt': ∀l,l∈pos->l<(h4b (pg.map π) H).length:=fun l hl=>by rw[hfl];exact hlt l hl
 have hget: ∀i o,h'[i]? =AD o->(h4m (h4b (pg.map π) H) pos (i2l π h'))[π i]? =AD (o.ren π):=fun i o hi=>by have hil:=(AB.1 hi).1;have:=h5u (H:=h4b (pg.map π) H) (os:=i2l π h') (i:=i) hnd hlt' hplen (by rw[h5f,AI];exact hil);rw[hfl,hπ] at this;rw[this,h5f,AA,hi];rfl
 have hout: ∀l b C,l<H.length->l∉pos->ρ l=AD (AD b,C)->w'.heap[b]? =w.heap[b]? /\ ¬ ∃i C',ρ1 i=AD (AD b,C'):=fun l b C hl hp hr=>by
  have hb:=hs.blk hr;have hno: ∀i C',ρ (π i)≠AD (AD b,C'):=fun i C' h1=>by
   have:=hs.inj _ _ b _ _ hr h1;subst this;by_cases hil:i<h.length
   ·exact hp (πmem i hil)
   ·have:=πge i (by omega);omega
  refine⟨hext.frame b hb hno,fun⟨i,C',h1⟩=> ?_⟩;rcases hext.owned i b C' h1 with h2|⟨j,C2,h2⟩
  ·omega
  ·exact hno j C2 h2
 have hsim':Sim w' S' ρ' (h4m (h4b (pg.map π) H) pos (i2l π h')):=by
  refine⟨hsim.sblk,fun l ob C hl=> ?_,fun l l' b C C' h1 h2=> ?_,fun l b C o hl ho hf=> ?_⟩
  ·rcases hcase l with⟨h1,h2⟩|⟨i,rfl⟩
   ·rw[r2 l h1 h2] at hl;obtain⟨o,h3,h4⟩:=hs.obj l ob C hl;refine⟨h4h (pg.map π) o,by rw[h4n (by rw[hfl];exact h1) h2,h5y,h3];rfl,?_⟩;cases ob with
    |none=>
     obtain⟨hC,sz',e',h6⟩:=h4;refine⟨hC,sz',e',?_⟩;have: ∀(pg:List Nat) (o:a0f),(o= .arr sz' 0 e'\/o= .frz sz' 0 e')->h4h pg o=o:=by
      intro pg
      induction pg with
      |nil=>intro o _;rfl
      |cons l pg ih=>intro o h;rw[h4h];rcases h with rfl|rfl<;>exact ih _ (by simp[a0f.forget])
     rw[this _ _ h6];exact h6
    |some b=>exact a0z.forgets hext.mono hext.cell (hout l b C h1 h2 hl).1 _ hkeep h4
   ·rw[r1] at hl;obtain⟨o,h3,h4⟩:=hsim.obj i ob C hl;refine⟨_,hget i o h3,?_⟩;cases ob with
    |none=>
     obtain⟨hC,sz',e',h6⟩:=h4;refine⟨hC,sz',e',?_⟩;rcases h6 with rfl|rfl
     ·exact .inl rfl
     ·exact .inr rfl
    |some b=>exact a0z.ren (fun j p hp=>by rw[r1];exact hp) h4
  ·rcases hcase l with⟨g1,g2⟩|⟨i,rfl⟩
   ·rcases hcase l' with⟨g3,g4⟩|⟨j,rfl⟩
    ·rw[r2 l g1 g2] at h1;rw[r2 l' g3 g4] at h2;exact hs.inj _ _ b C C' h1 h2
    ·rw[r2 l g1 g2] at h1;rw[r1] at h2;exact absurd ⟨j,C',h2⟩ (hout l b C g1 g2 h1).2
   ·rcases hcase l' with⟨g3,g4⟩|⟨j,rfl⟩
    ·rw[r1] at h1;rw[r2 l' g3 g4] at h2;exact absurd ⟨i,C,h1⟩ (hout l' b C' g3 g4 h2).2
    ·rw[r1] at h1 h2;rw[hsim.inj i j b C C' h1 h2]
  ·rcases hcase l with⟨g1,g2⟩|⟨i,rfl⟩
   ·rw[r2 l g1 g2] at hl;rw[h4n (by rw[hfl];exact g1) g2,h5y] at ho;obtain⟨o1,h3,_⟩:=hs.obj l _ C hl;rw[h3] at ho;simp at ho;subst ho;rw[h6g] at hf;intro hS;rcases hext.news b hS with h4|h4|⟨j,C',h4⟩
    ·exact hs.own l b C o1 hl h3 hf h4
    ·have:=hs.blk hl;omega
    ·have:=hs.inj _ _ b _ _ hl h4;subst this;by_cases hil:j<h.length
     ·exact g2 (πmem j hil)
     ·have:=πge j (by omega);omega
   ·rw[r1] at hl;obtain⟨o1,h3,_⟩:=hsim.obj i _ C hl;rw[hget i o1 h3] at ho;cases ho;rw[h6j] at hf;exact hsim.own i b C o1 hl h3 hf
 refine⟨v,x.ren π,pg.map π,_,S',ρ',he,⟨pg,x,h',hk,(a5m _ _).symm,rfl,rfl⟩,hvr.ren (fun i p hp=>by rw[r1];exact hp),hsim',?_,?_,hlow'⟩
 ·refine⟨hext.os,hext.tape,hext.output,hext.size,hext.mono,hext.cell,fun b hb=> ?_,fun b hb hn=>hext.frame b hb (fun i C=>hn (π i) C),fun l b C hl=> ?_⟩
  ·rcases hext.news b hb with h1|h1|⟨i,C,h1⟩
   ·exact .inl h1
   ·exact .inr (.inl h1)
   ·exact .inr (.inr ⟨π i,C,h1⟩)
  ·rcases hcase l with⟨g1,g2⟩|⟨i,rfl⟩
   ·rw[r2 l g1 g2] at hl;exact .inr ⟨l,C,hl⟩
   ·rw[r1] at hl;rcases hext.owned i b C hl with h1|⟨j,C',h1⟩
    ·exact .inl h1
    ·exact .inr ⟨π j,C',h1⟩
 ·rw[h5m hplen,hfl];omega
def int (z:Int):AV:= .d (.int .i64 (.v z))
def u8 (z:Int):AV:= .d (.int .u8 (.v z))
def bool (b:Bool):AV:= .d (.bool b)
def isl (n:Nat)(g:Nat->Int):AV:= .d (.sl 1 n fun i=>[.int .i64 (.v (g i))])
theorem b6g {x:Int}(h1: -9223372036854775808<=x)(h2:x<=9223372036854775807):IntKind.i64.wrap x=x:=by simp[IntKind.wrap,IntKind.bits,IntKind.signed];omega
theorem a0s {a b:Bool}(h:a=b):a0x (.d (.bool a)) (.d (.bool b)):=by subst h;exact a0x.refl _
theorem ff {r:Bool}{p:Prop}(hr:r=AC↔p)(h: ¬p):AH=r:=by
 cases r
 ·rfl
 ·exact absurd (hr.1 rfl) h
theorem tt {r:Bool}{p:Prop}(hr:r=AC↔p)(h:p):AC=r:=(hr.2 h).symm
theorem e8z {r:Bool}{p:Prop}(hr:r=AC↔p)(h: ¬p):a0x (.d (.bool AH)) (.d (.bool r)):=a0s (ff hr h)
theorem h8e {r:Bool}{p:Prop}(hr:r=AC↔p)(h:p):a0x (.d (.bool AC)) (.d (.bool r)):=a0s (tt hr h)
theorem a6c {k:AM}{a b:Int}(h:a=b):a0x (.d (.int k (.l a))) (.d (.int k (.v b))):=a0x.int h
theorem b0a {k:AM}{a b:Int}(h:a=b):a0x (.d (.int k (.v a))) (.d (.int k (.v b))):=a0x.int h
theorem a0x.nil0 {sz:Nat}{e:Nat->List DV}:a0x (.d .nil) (.d (.sl sz 0 e)):=by
 intro w S ρ v h;cases h with
 |d h=>cases h;exact .d (.sl0 _ _ _ _)
theorem a0x.sl' {sz n m:Nat}{e e':Nat->List DV}(hn:n=m)(h: ∀i,i<n->e i=e' i):a0x (.d (.sl sz n e)) (.d (.sl sz m e')):=by subst hn;exact a0x.sl h
theorem a0x.isl {n m:Nat}{g h:Nat->Int}(hn:n=m)(hg: ∀i,i<n->g i=h i):a0x (.d (.sl 1 n fun i=>[.int .i64 (.v (g i))])) (.d (.sl 1 m fun i=>[.int .i64 (.v (h i))])):=
 a0x.sl' hn fun i hi=>by rw[hg i hi]
theorem b4i {P:AW}{f:AX}{args:List AV}{x y:AV}{l:List AV}(hf: ∀z,z∈x::y::l->c0j z)(h:a0j P AH f args (.tuple (x::y::l))):a0j P AC f args (.tuple (x::y::l)):=
 b4e (xs:=x::y::l) hf h
theorem i5z {P:AW}{A:Ann}{ro:Option Nat}{E:Ent}{Sg:Sig}{Q:Lv->St->Prop}(hm:P.follows .mixedOrders=AC)(hok:OkP P)(hS:Sg=std P A ro E)(m:Nat){ic:a0c}{st:St}(h:b4o Sg m ic Q st):Sg.loop ic Q st:=by subst hS;exact b2n hm hok h
theorem a4k.same: ∀(h:List a0f),a4k h h
 |[]=> .nil _
 |o::h=> .cons (.refl o) (a4k.same h)
def ro (h:List a0f)(r:AV)(pg:List Nat)(v:AV)(h':List a0f):Prop:=pg=[]/\v=r/\h'=h
section
variable {P:AW} {f:AX} {args:List AV} {h:List a0f}
theorem a1h.of_pure {own:Bool}{r:AV}(hf:a3z args=AC)(hp:a0j P own f args r):a1h P f args h (ro h r):=by
 refine⟨hp.1,fun w S ρ vs hs hv=> ?_⟩;have hv0:VRs w S a2j args vs:=⟨hv.1,fun i x v hx hu=>b4t (vs:=vs.toList) hf (fun i x v hx hu=>hv.2 i x v hx (by simpa using hu)) i x v hx (by simpa using hu)⟩;refine (hp.2 w S vs hs.sblk hv0).mono fun e w' he=> ?_;obtain⟨v,S',h1,h2,h3,h4⟩:=he;have c:=b5v (S1:=S') hs (fun b hb=>by
  rcases h3 b hb with h|h
  ·exact .inl h.2
  ·exact .inr h) h4
 exact⟨v,r,[],h,_,ρ,h1,⟨rfl,rfl,rfl⟩,h2.mono (fun b hb=> .inr hb) (fun _ _=>rfl) (fun l p hl=>by cases hl),c.sim,c.ext,AU _,fun l _ _=>rfl⟩
theorem a1h.cut {K:List Nat->AV->List a0f->Prop}(hc:a1h P f args h (fun pg v h'=> ∃h0 v0,a4k h' h0/\a0x v v0/\h.length<=h0.length/\((v0.low h0.length=AC/\d5i h0.length h0=AC)\/h'.length=h0.length)/\K pg v0 h0)):a1h P f args h K:=by
 refine⟨hc.1,fun w S ρ vs hs hv=>(hc.2 w S ρ vs hs hv).mono fun e w' he=> ?_⟩;obtain⟨v,x,pg,h',S',ρ',h1,⟨h0,v0,k1,k2,k3,k45,k6⟩,h2,h3,h4,h5,h6⟩:=he;obtain⟨l3,l4⟩:=k1.get;have hcut: ∀m p,ρ'.cut h0.length m=AD p->m<h0.length/\ρ' m=AD p:=fun m p hp=>by
  unfold Rho.cut at hp;split at hp
  ·rename_i h;exact⟨h,hp⟩
  ·cases hp
 by_cases hn:h'.length=h0.length
 ·refine⟨v,v0,pg,h0,S',ρ',h1,k6,k2 _ _ _ _ h2,⟨h3.sblk,fun m ob C hl=> ?_,h3.inj,fun m b C o hl ho hf=> ?_⟩,h4,k3,h6⟩
  ·obtain⟨o,q1,q2⟩:=h3.obj m ob C hl;have hm:=(AB.1 q1).1;have q3:h0[m]? =AD (h0[m]'(by omega)):=AE _;exact⟨_,q3,(l4 m o _ q1 q3).holds _ _ _ _ _ q2⟩
  ·obtain⟨o1,q1,q2⟩:=h3.obj m _ C hl;exact h3.own m b C o1 hl q1 ((l4 m o1 o q1 ho).frz hf)
 obtain⟨k4,k5⟩:=k45.resolve_right hn;refine⟨v,v0,pg,h0,S',ρ'.cut h0.length,h1,k6,(k2 _ _ _ _ h2).cut k4,⟨h3.sblk,fun m ob C hl=> ?_,fun m m' b C C' q1 q2=>h3.inj m m' b C C' (hcut _ _ q1).2 (hcut _ _ q2).2,fun m b C o hl ho hf=> ?_⟩,?_,k3,fun m hm hmv=> ?_⟩
 ·obtain⟨hm,hl⟩:=hcut _ _ hl;obtain⟨o,q1,q2⟩:=h3.obj m ob C hl;have q3:h0[m]? =AD (h0[m]'hm):=AE _;refine⟨_,q3,?_⟩;have q4:=(l4 m o _ q1 q3).holds _ _ _ _ _ q2;cases ob with
  |none=>exact q4
  |some b=>exact a0z.cut q4 (c1k k5 q3)
 ·obtain⟨hm,hl⟩:=hcut _ _ hl;obtain⟨o1,q1,q2⟩:=h3.obj m _ C hl;exact h3.own m b C o1 hl q1 ((l4 m o1 o q1 ho).frz hf)
 ·exact⟨h4.os,h4.tape,h4.output,h4.size,h4.mono,h4.cell,h4.news,h4.frame,fun m b C hl=>h4.owned m b C (hcut _ _ hl).2⟩
 ·have e:ρ'.cut h0.length m=ρ' m:=if_pos (by omega);rw[e];exact h6 m hm hmv
theorem VRs.like {w:AS}{S:Nat->Prop}{ρ:Rho}{xs ys:List AV}{vs:Array AJ}(h:a3x xs ys)(hv:VRs w S ρ xs vs):VRs w S ρ ys vs:=
 ⟨by rw[<-h.get.1];exact hv.1,a0x.cells h.get.1 h.get.2 hv.2⟩
theorem a0j.like {own:Bool}{args':List AV}{r:AV}(h:a3x args' args)(hp:a0j P own f args r):a0j P own f args' r:=
 ⟨hp.1,fun w S vs hS hv=>hp.2 w S vs hS (hv.like h)⟩
theorem a1h.like {args':List AV}{K:List Nat->AV->List a0f->Prop}(hl:a3x args' args)(hp:a1h P f args h K):a1h P f args' h K:=
 ⟨hp.1,fun w S ρ vs hs hv=>hp.2 w S ρ vs hs (hv.like hl)⟩
theorem a3x.same: ∀(xs:List AV),a3x xs xs
 |[]=> .nil
 |x::xs=> .cons (a0x.refl x) (a3x.same xs)
def roK (h0:List a0f)(r:AV)(pg:List Nat)(v:AV)(h':List a0f):Prop:=
 ∃h1 v0,a4k h' h1/\a0x v v0/\h0.length<=h1.length/\((v0.low h1.length=AC/\d5i h1.length h1=AC)\/h'.length=h1.length)/\ro h0 r pg v0 h1
theorem a2s {base:Nat}{h':List a0f}{v r:AV}(hv:a0x v r)(hl:a4k h' h)(hc:(r.low h.length=AC/\d5i h.length h=AC)\/h'.length=h.length):
 ∃pg,(∀l,l<base->l∈([]:List Nat)->l∈pg)/\roK h r pg v h':=
 ⟨[],by simp,h,r,hl,hv,AU _,hc,rfl,rfl,rfl⟩
theorem a2y {x:XFn}(hm:P.follows .mixedOrders=AC)(hok:OkP P)(hx:a0q P f x)(r:AV)(hn:AN args.length x.n=AC)
 (hv: ∀(E:Ent) (Sg:Sig),E.base=h.length->Sg=std P x.A AP E->ev Sg x.ic (d4j Sg x.irs h.length (roK h r)) ⟨a9g args (x.n-args.length),h,[]⟩):a1h P f args h (ro h r):=
 a1h.cut (b9y hm hok hx hn hv)
theorem h3w {x:XFn}{K:List Nat->AV->List a0f->Prop}(hm:P.follows .mixedOrders=AC)(hok:OkP P)(hx:a0q P f x)(hn:AN args.length x.n=AC)
 (hv: ∀(E:Ent) (Sg:Sig),E.base=h.length->Sg=std P x.A AP E-> ∀F:List Nat->AV->List a0f->Prop,
   (∀{pg:List Nat} {v v0:AV} {h' h1:List a0f},a4k h' h1->a0x v v0->h.length<=h1.length->((v0.low h1.length=AC/\d5i h1.length h1=AC)\/h'.length=h1.length)->K pg v0 h1->F pg v h')->
   ev Sg x.ic (d4j Sg x.irs h.length F) ⟨a9g args (x.n-args.length),h,[]⟩):a1h P f args h K:=by
 refine a1h.cut (b9y hm hok hx hn fun E Sg hb hS=>hv E Sg hb hS _ ?_);intro pg v v0 h' h1 k1 k2 k3 k4 k5;exact⟨h1,v0,k1,k2,k3,k4,k5⟩
theorem h3v {A:Ann}{rr:Option Nat}{E:Ent}{Sg:Sig}(hS:Sg=std P A rr E){K K':List Nat->AV->List a0f->Prop}(hc:a1h P f args h K)(hk: ∀pg v h',K pg v h'->K' pg v h'):Sg.call f args h K':=by subst hS;exact a1h.mono hk hc
theorem a3v {A:Ann}{rr:Option Nat}{E:Ent}{Sg:Sig}(hS:Sg=std P A rr E){r:AV}{K:List Nat->AV->List a0f->Prop}(hc:a1h P f args h (ro h r))(hk:K [] r h):Sg.call f args h K:=by subst hS;refine a1h.mono (fun pg v h' e=> ?_) hc;obtain⟨rfl,rfl,rfl⟩:=e;exact hk
end
end Go.Vf
