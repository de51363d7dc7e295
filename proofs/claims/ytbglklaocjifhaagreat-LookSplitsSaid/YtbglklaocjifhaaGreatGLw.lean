/- A round that meets a part of the memory. Conditions: none. -/
import Derived.Test.YtbglklaocjifhaaGreatGNb
import Derived.ChangeArms
import Derived.DataReads
open List renaming getElem?_eq_some_iff->AA,getElem?_eq_getElem->AB,getElem?_map->AC,getElem?_append_left->AF,length_map->AJ,getElem?_of_mem->AM,getElem?_append_right->AN,getElem?_set->AT,range'->AZ,getElem?_set_ne->Aa,mem_map->Ad,pairwise_iff_getElem->Ah,set_append_right->Al,mem_of_getElem?->Am,nodup_cons->Av,mem_cons->Az
open Option renaming some->AD,none->AK,map_some->An
open Bool renaming true->AE,and_eq_true->AG,false_eq_true->AH,false->AI
open Go.Vf.AV renaming forget->AL,ip->AO
open Go renaming Value->AP,Program->AQ,FuncId->AX,World->Ab,IntKind->Ae,wpIn_loop_rounds->A2,MemPlace->A5
open Go.Vf renaming ms->AR,lw->Aq,x4->Ay,v4->A6,We->A7
open Int renaming ofNat->AS,natCast_nonneg->Ap,ofNat_lt->A3,ofNat_le->A4
open Nat renaming add_sub_cancel_left->AU,blt->Ac,le_refl->Af,sub_self->Aj,beq->Ak,lt_trichotomy->Ar,ble->As,lt_succ_self->At,lt_of_not_le->Au
open Go.Vf.ae renaming forget->AW
open Option.some renaming injEq->AY,inj->Ai
open Array renaming getElem?_eq_getElem->Ag
open Go.IntKind renaming signed->Ao,wrap->Aw,bits->Ax,i64->A8
set_option linter.unusedSimpArgs false
set_option linter.unusedVariables false
namespace Go.Vf
open Go
structure bx (o o':ae):Prop where
 t0:o'.frozen=AI->o.frozen=AI
 holds: ∀(w:Ab) (S:Nat->Prop) (ρ:Aq) (ob:Option Nat) (C:Nat),Oi w S ρ ob C o->Oi w S ρ ob C o'
theorem bx.refl (o:ae):bx o o:=⟨id,fun _ _ _ _ _ h=>h⟩
theorem ab.any (x:AV):ab x .any:=fun _ _ _ v _=> .any v
theorem ab.trans {x y z:AV}(h:ab x y)(k:ab y z):ab x z:=fun w S ρ v hv=>k w S ρ v (h w S ρ v hv)
theorem bx.arr {sz n:Nat}{e e':Nat->List DV}(h: ∀i,i<n->e i=e' i):bx (.arr sz n e) (.arr sz n e'):=by
 refine⟨id,fun w S ρ ob C hh=> ?_⟩;cases ob with
 |none=>
  obtain⟨h1,sz',e1,h2|h2⟩:=hh
  ·cases h2;exact⟨h1,sz,e',.inl rfl⟩
  ·cases h2
 |some b=>obtain⟨vs,ty,h1,h2,h3,h4⟩:=hh;exact⟨vs,ty,h1,h2,h3,fun i hi=>by rw[<-h i hi];exact h4 i hi⟩
theorem bx.Yc {sz n m:Nat}{e e':Nat->List DV}(hn:n=m)(h: ∀i,i<n->e i=e' i):bx (.arr sz n e) (.arr sz m e'):=by subst hn;exact .arr h
theorem bx.var {cs ds:List AV}(h:fl cs ds):bx (.var cs) (.var ds):=by
 refine⟨id,fun w S ρ ob C hh=> ?_⟩;obtain⟨hl,hg⟩:=h.get;cases ob with
 |none=>obtain⟨h1,sz',e1,h2|h2⟩:=hh<;>cases h2
 |some b=>obtain⟨vs,ty,h1,h2,h3⟩:=hh;exact⟨vs,ty,h1,by omega,ab.cells hl hg h3⟩
theorem Ol.congr {wide:Bool}{ks:List Ae}{es:List MapEntry}{n:Nat}{f f':List KC->Option Int}(h:Ol wide ks es n f)(e: ∀k,f k=f' k):Ol wide ks es n f':=
 ⟨h.len,h.keys,h.ap,fun k=>(h.find k).trans (e k),h.nd⟩
theorem bx.map {wide:Bool}{ks:List Ae}{n m:Nat}{f f':List KC->Option Int}(hn:n=m)(e: ∀k,f k=f' k):bx (.map wide ks n f) (.map wide ks m f'):=by
 subst hn;refine⟨id,fun w S ρ ob C hh=> ?_⟩;cases ob with
 |none=>obtain⟨h1,sz',e1,h2|h2⟩:=hh<;>cases h2
 |some b=>obtain⟨es,clock,h1,h2⟩:=hh;exact⟨es,clock,h1,h2.congr e⟩
inductive py:List ae->List ae->Prop
 |nil (h:List ae):py h []
 |cons {o o':ae} {h h':List ae} (e:bx o o') (r:py h h'):py (o::h) (o'::h')
theorem py.get {h h':List ae}(r:py h h'):h'.length<=h.length/\ ∀(i:Nat) (o o':ae),h[i]? =AD o->h'[i]? =AD o'->bx o o':=by
 induction r with
 |nil h=>simp
 |cons e r ih=>
  refine⟨by simp[ih.1],fun i o o' hx hy=> ?_⟩;cases i with
  |zero=>simp at hx hy;subst hx;subst hy;exact e
  |succ i=>simp at hx hy;exact ih.2 i o o' hx hy
mutual
def AV.low (n:Nat):AV->Bool
 | .agg cs=>AV.z9 n cs
 | .tuple cs=>AV.z9 n cs
 | .fn _ us cs=>AV.z9 n us&&AV.z9 n cs
 | .ptr m _=>Ac m n
 | .ii m _ _ _=>Ac m n
 | .bi m _ _ _ _=>Ac m n
 | .d7 m _ _=>Ac m n
 | .map m=>Ac m n
 | .yl m=>Ac m n
 |_=>AE
def AV.z9 (n:Nat):List AV->Bool
 |[]=>AE
 |v::r=>v.low n&&AV.z9 n r
end
def ae.low (n:Nat):ae->Bool
 | .var cs=>AV.z9 n cs
 | .loop _ ts _ _=>AV.z9 n ts
 | .dz _ _ _ vs=>AV.z9 n vs
 | .n7 vs=>AV.z9 n vs
 | .iter m _ _=>m.low n
 |_=>AE
def u1 (n:Nat):List ae->Bool
 |[]=>AE
 |o::r=>o.low n&&u1 n r
theorem H8 {n:Nat}{l:List AV}(h:AV.z9 n l=AE){i:Nat}{x:AV}(hx:l[i]? =AD x):x.low n=AE:=by
 induction l generalizing i with
 |nil=>simp at hx
 |cons y l ih=>
  simp only[AV.z9,AG] at h;cases i with
  |zero=>simp at hx;subst hx;exact h.1
  |succ i=>simp at hx;exact ih h.2 hx
theorem NA {n:Nat}{l:List ae}(h:u1 n l=AE){i:Nat}{x:ae}(hx:l[i]? =AD x):x.low n=AE:=by
 induction l generalizing i with
 |nil=>simp at hx
 |cons y l ih=>
  simp only[u1,AG] at h;cases i with
  |zero=>simp at hx;subst hx;exact h.1
  |succ i=>simp at hx;exact ih h.2 hx
def lw.cut (ρ:Aq)(n:Nat):Aq:=fun l=>if l<n then ρ l else AK
theorem zq {m n:Nat}(h:Ac m n=AE):m<n:=by simpa [Nat.blt_eq] using h
theorem lw.V6 {ρ:Aq}{n m:Nat}(h:Ac m n=AE):ρ.cut n m=ρ m:=if_pos (zq h)
theorem VR.cut {w:Ab}{S:Nat->Prop}{ρ:Aq}{n:Nat}{x:AV}{v:AP}(h:VR w S ρ x v)(hb:x.low n=AE):VR w S (ρ.cut n) x v:=by
 induction h with
 |d h=>exact .d h
 |any v=>exact .any v
 |lc=>exact .lc
 |agg cs vs hl _ ih=>exact .agg cs vs hl fun i x v hx hv=>ih i x v hx hv (H8 (by simpa only[AV.low] using hb) hx)
 |tuple cs vs hl _ ih=>exact .tuple cs vs hl fun i x v hx hv=>ih i x v hx hv (H8 (by simpa only[AV.low] using hb) hx)
 |ptr l off b C h=>exact .ptr l off b C ((lw.V6 (by simpa only[AV.low] using hb)).trans h)
 |ii l sz i off b C h=>exact .ii l sz i off b C ((lw.V6 (by simpa only[AV.low] using hb)).trans h)
 |d9 row off b base f k7 hv hr=>exact .d9 row off b base f k7 hv hr
 |lm sz n e a h=>exact .lm sz n e a h
 |bi l sz start len full ob C cap a h hc b9 ha=>exact .bi l sz start len full ob C cap a ((lw.V6 (by simpa only[AV.low] using hb)).trans h) hc b9 ha
 |d7 l off n b C cap h hc=>exact .d7 l off n b C cap ((lw.V6 (by simpa only[AV.low] using hb)).trans h) hc
 |map l b C h=>exact .map l b C ((lw.V6 (by simpa only[AV.low] using hb)).trans h)
 |fn f first cap us vs nw _ hl _ uz ih=>
  simp only[AV.low,AG] at hb;exact .fn f first cap us vs nw (fun i x v hx hv=>uz i x v hx hv (H8 hb.1 hx)) hl (fun i x v hx hv=>ih i x v hx hv (H8 hb.2 hx))
 |ge m n h=>exact .ge m n h
 |yl l b C h=>exact .yl l b C ((lw.V6 (by simpa only[AV.low] using hb)).trans h)
theorem fv.cut {w:Ab}{S:Nat->Prop}{ρ:Aq}{n b C:Nat}{o:ae}(h:fv w S ρ b C o)(hb:o.low n=AE):fv w S (ρ.cut n) b C o:=by
 cases o with
 |var cs=>obtain⟨vs,ty,h1,h2,h3⟩:=h;exact⟨vs,ty,h1,h2,fun i x v hx hv=>(h3 i x v hx hv).cut (H8 (by simpa only[ae.low] using hb) hx)⟩
 |arr sz n e=>exact h
 |t0 sz n e=>exact h
 |map wide ks n f=>exact h
 |n7 ap=>obtain⟨vs,ty,h1,h2,h3,h4⟩:=h;exact⟨vs,ty,h1,h2,h3,fun i x v hx hv=>(h4 i x v hx hv).cut (H8 (by simpa only[ae.low] using hb) hx)⟩
 |dz wide ks keys ap=>obtain⟨es,clock,h1,h2,h3,h4⟩:=h;exact⟨es,clock,h1,h2,h3,fun i x e hx he=>(h4 i x e hx he).cut (H8 (by simpa only[ae.low] using hb) hx)⟩
 |loop s ts ps code=>obtain⟨r,h1,h2,h3,h4,h5,h6,h7⟩:=h;exact⟨r,h1,h2,h3,h4,h5,h6,fun i x v hx hv=>(h7 i x v hx hv).cut (H8 (by simpa only[ae.low] using hb) hx)⟩
 |gone=>exact h
 |iter m since seen=>obtain⟨bm,h1,h2⟩:=h;exact⟨bm,h1,h2.cut (by simpa only[ae.low] using hb)⟩
def KJ:List Nat->List Nat->Bool
 |[],_=>AE
 |l::r,m=>sr l m&&KJ r m
theorem b4g: ∀{l m:List Nat},KJ l m=AE-> ∀i,i∈l->i∈m
 |[],_,_,i,h=>by simp at h
 |j::l,m,h,i,hi=>by
  simp only[KJ,AG] at h;rcases Az.1 hi with rfl|hi
  ·exact w6.1 h.1
  ·exact b4g h.2 i hi
structure Le (base:Nat)(st st':St):Prop where
 ts:fl st.ts st'.ts
 h:py st.h st'.h
 len:base<=st'.h.length
 cut:(AV.z9 st'.h.length st'.ts=AE/\u1 st'.h.length st'.h=AE)\/st.h.length=st'.h.length
 mv:KJ st.mv st'.mv=AE
theorem Rel.le {E:Ay}{st st':St}{a:Act}{w:Ab}{S:Nat->Prop}{ρ:Aq}(l:Le E.base st st')(r:Rel E st a w S ρ): ∃ρ',Rel E st' a w S ρ':=by
 obtain⟨l1,l2⟩:=l.ts.get;obtain⟨l3,l4⟩:=l.h.get;have ht:Vw w S ρ st'.ts a.tmps:=⟨by rw[<-l1];exact r.ts.1,ab.cells l1 l2 r.ts.2⟩;have Jk: ∀l ob C,l<st'.h.length->ρ l=AD (ob,C)-> ∃o o',st.h[l]? =AD o/\st'.h[l]? =AD o'/\bx o o'/\Oi w S ρ ob C o':=fun m ob C hm hl=>by obtain⟨o,h1,h2⟩:=r.co.obj m ob C hl;have h3:st'.h[m]? =AD (st'.h[m]'hm):=AB _;have:=l4 m o _ h1 h3;exact⟨o,_,h1,h3,this,this.holds _ _ _ _ _ h2⟩
 have hlt: ∀l ob C,ρ l=AD (ob,C)->l<st.h.length:=fun m ob C hl=>by obtain⟨o,h1,_⟩:=r.co.obj m ob C hl;exact (AA.1 h1).1
 by_cases hn:st.h.length=st'.h.length
 ·refine⟨ρ,⟨ht,r.ds,⟨r.co.i0,fun m ob C hl=> ?_,r.co.inj,fun m b C o hl ho hf=> ?_⟩,r.ext,fun m hm Wl=>r.v9 m hm fun h=>Wl (b4g l.mv m h),l.len⟩⟩
  ·obtain⟨o,o',_,h2,_,h4⟩:=Jk m ob C (hn▸hlt m ob C hl) hl;exact⟨o',h2,h4⟩
  ·obtain⟨o1,o',h1,h2,h3,_⟩:=Jk m _ C (hn▸hlt m _ C hl) hl;rw[ho] at h2;cases h2;exact r.co.own m b C o1 hl h1 (h3.t0 hf)
 ·obtain⟨c1,c2⟩:=l.cut.resolve_right hn;have da: ∀m p,ρ.cut st'.h.length m=AD p->m<st'.h.length/\ρ m=AD p:=fun m p hp=>by
   unfold lw.cut at hp;split at hp
   ·rename_i h;exact⟨h,hp⟩
   ·cases hp
  refine⟨ρ.cut st'.h.length,⟨⟨ht.1,fun i x v hx hv=>(ht.2 i x v hx hv).cut (H8 c1 hx)⟩,?_,⟨r.co.i0,fun m ob C hl=> ?_,fun m m' b C C' h1 h2=>r.co.inj m m' b C C' (da _ _ h1).2 (da _ _ h2).2,fun m b C o hl ho hf=> ?_⟩,?_,fun m hm Wl=> ?_,l.len⟩⟩
  ·obtain⟨Ds,d1,d2,d3⟩:=r.ds;exact⟨Ds,d1,fun D hD=>⟨(d2 D hD).obj,(d2 D hD).new,fun m C hl=>(d2 D hD).out m C (da _ _ hl).2,(d2 D hD).YN⟩,d3⟩
  ·obtain⟨hm,hl⟩:=da _ _ hl;obtain⟨o,o',_,h2,_,h4⟩:=Jk m ob C hm hl;refine⟨o',h2,?_⟩;cases ob with
   |none=>exact h4
   |some b=>exact fv.cut h4 (NA c2 h2)
  ·obtain⟨hm,hl⟩:=da _ _ hl;obtain⟨o1,o',h1,h2,h3,_⟩:=Jk m _ C hm hl;rw[ho] at h2;cases h2;exact r.co.own m b C o1 hl h1 (h3.t0 hf)
  ·exact⟨r.ext.os,r.ext.tape,r.ext.output,r.ext.size,r.ext.mono,r.ext.cell,r.ext.news,r.ext.frame,fun m b C hl=>r.ext.owned m b C (da _ _ hl).2⟩
  ·have:=l.len;have e:ρ.cut st'.h.length m=ρ m:=if_pos (by omega);rw[e];exact r.v9 m hm fun h=>Wl (b4g l.mv m h)
section
variable {P:AQ} {A:t7} {ro:Option Nat} {E:Ay} {Sg:A7} {Q:Lv->St->Prop}
def e4f {σ:Type}(base:Nat)(R:σ->Prop)(μ:σ->Nat)(st:σ->St)(Q:Lv->St->Prop)(s:σ):Lv->St->Prop
 | .normal,st'=> ∃s',R s'/\μ s'<μ s/\Le base st' (st s')
 | .exit i,st'=>Q (.exit i) st'
 | .ret,st'=>Q .ret st'
theorem d1u (hm:P.follows .mixedOrders=AE)(dp:WO P)(hS:Sg=AR P A ro E){σ:Type}(R:σ->Prop)(μ:σ->Nat)(st:σ->St){ic:gy}{st0:St}(s:σ)(hs:R s)(h0:Le E.base st0 (st s))
 (h: ∀s,R s->ev Sg ic (e4f E.base R μ st Q s) (st s)):Sg.loop ic Q st0:=by
 subst hS;intro c hc a w S ρ hr;obtain⟨ρ1,xw⟩:=hr.le h0;clear hr h0;refine A2 (μ s+1) ?_;have hk:μ s<μ s+1:=At _;generalize μ s+1=m at hk⊢
 induction m generalizing s a w S ρ1 with
 |zero=>omega
 |succ m ih=>
  refine wpIn_mono (K5 hm dp c ic hc (h s hs) a w S ρ1 xw) fun e a' w' hp=> ?_;obtain⟨lv,st',S',ρ',h1,h2,h3⟩:=hp;cases lv with
  |normal=>cases e<;>simp[qc] at h1;obtain⟨s',g1,g2,g3⟩:=h2;obtain⟨ρ',h3⟩:=h3.le g3;exact ih s' g1 a' w' S' ρ' h3 (by omega)
  |exit i=>cases e<;>simp[qc] at h1;subst h1;exact⟨_,st',S',ρ',rfl,h2,h3⟩
  |ret=>cases e<;>simp[qc] at h1;exact⟨_,st',S',ρ',rfl,h2,h3⟩
end
def dn:List (Nat×AV)->Nat->List AV
 |[],n=>w8 .any n
 |(i,v)::l,n=>b8 (dn l n) i v
def UG (ts:List AV):List (Nat×AV)->Prop
 |[]=>True
 |(i,v)::l=>(match ax ts i with|some x=>ab x v|none=>False)/\UG ts l
theorem fl.Wx: ∀{xs ys:List AV},xs.length=ys.length->(∀(i:Nat) (x y:AV),xs[i]? =AD x->ys[i]? =AD y->ab x y)->fl xs ys
 |[],[],_,_=> .nil
 |x::xs,y::ys,hl,h=> .cons (h 0 x y rfl rfl) (fl.Wx (by simpa using hl) fun i a b ha hb=>h (i+1) a b (by simpa using ha) (by simpa using hb))
 |[],_::_,hl,_=>by simp at hl
 |_::_,[],hl,_=>by simp at hl
theorem b8u (l:List (Nat×AV))(n:Nat):(dn l n).length=n:=by
 induction l with
 |nil=>simp[dn,L5]
 |cons p l ih=>obtain⟨i,v⟩:=p;simp[dn,fg,ih]
theorem L1 {ts:List AV}{l:List (Nat×AV)}{n:Nat}(hn:az ts=n)(h:UG ts l):fl ts (dn l n):=by
 rw[cv] at hn;refine fl.Wx (by rw[b8u,hn]) ?_
 induction l with
 |nil=>
  intro i x y hx hy;rw[dn,L5,List.getElem?_replicate] at hy;split at hy
  ·cases hy;exact ab.any x
  ·cases hy
 |cons p l ih=>
  obtain⟨k,v⟩:=p;obtain⟨h1,h2⟩:=h;intro i x y hx hy;rw[dn,fg] at hy;by_cases e:i=k
  ·subst e;rw[cy,hx] at h1;rw[AT] at hy;simp at hy;rw[<-hy.2];exact h1
  ·rw[Aa (Ne.symm e)] at hy;exact ih h2 i x y hx hy
theorem bq {base:Nat}{ts:List AV}{h h':List ae}{mv mv':List Nat}{l:List (Nat×AV)}{n:Nat}(hn:az ts=n)(hl:UG ts l)(hh:py h h')(hb:base<=h'.length)
 (hc:(AV.z9 h'.length (dn l n)=AE/\u1 h'.length h'=AE)\/h.length=h'.length) (hv:KJ mv mv'=AE):Le base ⟨ts,h,mv⟩ ⟨dn l n,h',mv'⟩:=
 ⟨L1 hn hl,hh,hb,hc,hv⟩
section
variable {P:AQ} {A:t7} {ro:Option Nat} {E:Ay} {Sg:A7} {Q:Lv->St->Prop}
theorem ad (hS:Sg=AR P A ro E){p q:Prop}(hp:p)(hq:q):Sg.mt p q:=by subst hS;exact⟨hp,hq⟩
theorem bf (hS:Sg=AR P A ro E){own:Bool}{f:AX}{args:List AV}{K:AV->Prop}(r:AV)(h:au P own f args r)(hk:K r):Sg.Wr own f args K:=by subst hS;exact⟨r,h,hk⟩
def TT (N:St->Prop)(Q:Lv->St->Prop):Lv->St->Prop
 | .normal,st=>N st
 | .exit i,st=>Q (.exit i) st
 | .ret,st=>Q .ret st
theorem gg (hm:P.follows .mixedOrders=AE)(dp:WO P)(hS:Sg=AR P A ro E){σ:Type}(R:σ->Prop)(μ:σ->Nat)(st:σ->St){ic:gy}{st0:St}(s:σ)(hs:R s)(h0:Le E.base st0 (st s))
 (h: ∀s,R s-> ∀N:St->Prop,(∀s' st',R s'->μ s'<μ s->Le E.base st' (st s')->N st')->ev Sg ic (TT N Q) (st s)):Sg.loop ic Q st0:=by
 refine d1u hm dp hS R μ st s hs h0 fun s hs=> ?_;have:=h s hs (fun st'=> ∃s',R s'/\μ s'<μ s/\Le E.base st' (st s')) fun s' st' h1 h2 h3=>⟨s',h1,h2,h3⟩;have e:TT (fun st'=> ∃s',R s'/\μ s'<μ s/\Le E.base st' (st s')) Q=e4f E.base R μ st Q s:=by funext lv st';cases lv<;>rfl
 rw[e] at this;exact this
end
section
variable {P:AQ} {f:AX} {x:x7} {args:List AV}
theorem cr (hm:P.follows .mixedOrders=AE)(dp:WO P)(hx:aw P f x)(r:AV)(hn:As args.length x.n=AE)
 (h: ∀(E:Ay) (Sg:A7),E.base=0->Sg=AR P x.A AK E->ev Sg x.ic (d8h Sg x.wn r) ⟨y4 args (x.n-args.length),[],[]⟩):au P AI f args r:=by
 obtain⟨fn,c,hf,hb,iw,hc,cq,hnt⟩:=hx;have hle:args.length<=x.n:=by simpa using hn
 exact b1p (n:=x.n-args.length) hm dp hf hb iw x.A hc cq (by rw[hnt];omega) h
theorem b9y (hm:P.follows .mixedOrders=AE)(dp:WO P)(hx:aw P f x){h0:List ae}{K:List Nat->AV->List ae->Prop}(hn:As args.length x.n=AE)
 (h: ∀(E:Ay) (Sg:A7),E.base=h0.length->Sg=AR P x.A AK E->ev Sg x.ic (Ou Sg x.wn h0.length K) ⟨y4 args (x.n-args.length),h0,[]⟩):ay P f args h0 K:=by
 obtain⟨fn,c,hf,hb,iw,hc,cq,hnt⟩:=hx;have hle:args.length<=x.n:=by simpa using hn
 exact b0s (n:=x.n-args.length) hm dp hf hb iw x.A hc cq (by rw[hnt];omega) h
theorem b8m {r:DV}(hf:K7 (.d r))(h:au P AI f args (.d r)):au P AE f args (.d r):=by have:=b4e (xs:=[.d r]) (fun x hx=>by simp at hx;subst hx;exact hf) h;exact this
theorem j6 {b:Bool}(h:au P AI f args (.d (.bool b))):au P AE f args (.d (.bool b)):=b8m (by trivial) h
theorem su {k:Ae}{n:IX}(h:au P AI f args (.d (.int k n))):au P AE f args (.d (.int k n)):=b8m (by trivial) h
end
mutual
def AV.ml (π:Nat->Nat):AV->AV
 | .agg cs=> .agg (AV.ul π cs)
 | .tuple cs=> .tuple (AV.ul π cs)
 | .fn f us cs=> .fn f (AV.ul π us) (AV.ul π cs)
 | .ptr m off=> .ptr (π m) off
 | .ii m sz i off=> .ii (π m) sz i off
 | .bi m sz s n f=> .bi (π m) sz s n f
 | .d7 m off n=> .d7 (π m) off n
 | .map m=> .map (π m)
 | .yl m=> .yl (π m)
 |v=>v
def AV.ul (π:Nat->Nat):List AV->List AV
 |[]=>[]
 |v::r=>v.ml π::AV.ul π r
end
def ae.ml (π:Nat->Nat):ae->ae
 | .var cs=> .var (AV.ul π cs)
 | .loop s ts ps code=> .loop s (AV.ul π ts) ps code
 | .dz wide ks keys ap=> .dz wide ks keys (AV.ul π ap)
 | .n7 ap=> .n7 (AV.ul π ap)
 | .iter m n l=> .iter (m.ml π) n l
 |o=>o
def uj (π:Nat->Nat):List ae->List ae
 |[]=>[]
 |o::r=>o.ml π::uj π r
theorem AV.f8 (π:Nat->Nat)(l:List AV):AV.ul π l=l.map (AV.ml π):=by
 induction l with
 |nil=>rfl
 |cons x l ih=>simp[AV.ul,ih]
theorem u2 (π:Nat->Nat)(l:List ae):uj π l=l.map (ae.ml π):=by
 induction l with
 |nil=>rfl
 |cons x l ih=>simp[uj,ih]
theorem Q5 (π:Nat->Nat)(o:ae):(o.ml π).frozen=o.frozen:=by cases o<;>rfl
section
variable {w:Ab} {S:Nat->Prop} {ρ ρ':Aq} {π:Nat->Nat}
theorem VR.ml (hρ: ∀i p,ρ i=AD p->ρ' (π i)=AD p){x:AV}{v:AP}(hv:VR w S ρ x v):VR w S ρ' (x.ml π) v:=by
 have key: ∀{cs:List AV} {vs:Array AP},(∀(i:Nat) (x:AV) (v:AP),cs[i]? =AD x->vs[i]? =AD v->VR w S ρ' (x.ml π) v)->
  ∀(i:Nat) (x:AV) (v:AP),(AV.ul π cs)[i]? =AD x->vs[i]? =AD v->VR w S ρ' x v:=by
  intro cs vs ih i x v hx hv;rw[AV.f8,AC] at hx;cases hc:cs[i]? with
  |none=>simp[hc] at hx
  |some y=>simp[hc] at hx;subst hx;exact ih i y v hc hv
 induction hv with
 |d h=>exact .d h
 |any v=>exact .any v
 |lc=>exact .lc
 |agg cs vs hl _ ih=>exact .agg _ vs (by simpa [AV.f8] using hl) (key ih)
 |tuple cs vs hl _ ih=>exact .tuple _ vs (by simpa [AV.f8] using hl) (key ih)
 |ptr l off b C h=>exact .ptr _ off b C (hρ _ _ h)
 |ii l sz i off b C h=>exact .ii _ sz i off b C (hρ _ _ h)
 |d9 row off b base f hb hv hr=>exact .d9 row off b base f hb hv hr
 |lm sz n e a h=>exact .lm sz n e a h
 |bi l sz start len full ob C cap a h hc b9 ha=>exact .bi _ sz start len full ob C cap a (hρ _ _ h) hc b9 ha
 |d7 l off n b C cap h hc=>exact .d7 _ off n b C cap (hρ _ _ h) hc
 |map l b C h=>exact .map _ b C (hρ _ _ h)
 |fn f first cap us vs nw _ hl _ uz ih=>exact .fn f _ _ us vs (by simpa [AV.f8] using nw) (key uz) (by simpa [AV.f8] using hl) (key ih)
 |ge m n h=>exact .ge m n h
 |yl l b C h=>exact .yl _ b C (hρ _ _ h)
theorem VR.Vs {y:AV}{v:AP}(hv:VR w S ρ y v): ∀{x:AV},y=x.ml π->VR w S (fun i=>ρ (π i)) x v:=by
 have key: ∀{cs ds:List AV} {vs:Array AP},cs=AV.ul π ds->(∀(i:Nat) (y:AV) (v:AP),cs[i]? =AD y->vs[i]? =AD v-> ∀{x:AV},y=x.ml π->VR w S (fun i=>ρ (π i)) x v)->
  ∀(i:Nat) (x:AV) (v:AP),ds[i]? =AD x->vs[i]? =AD v->VR w S (fun i=>ρ (π i)) x v:=by
  intro cs ds vs he ih i x v hx hv;refine ih i (x.ml π) v ?_ hv rfl;rw[he,AV.f8,AC,hx];rfl
 have len: ∀{cs ds:List AV} {n:Nat},cs=AV.ul π ds->cs.length=n->ds.length=n:=by intro cs ds n he hl;rw[he,AV.f8] at hl;simpa using hl
 induction hv with
 |d h=>intro x hx;cases x<;>simp only[AV.ml] at hx<;>(try cases hx);exact .d h
 |any v=>intro x hx;cases x<;>simp only[AV.ml] at hx<;>(try cases hx);exact .any v
 |lc=>intro x hx;cases x<;>simp only[AV.ml] at hx<;>(try cases hx);exact .lc
 |agg cs vs hl _ ih=>intro x hx;cases x<;>simp only[AV.ml,AV.agg.injEq] at hx<;>(try cases hx);exact .agg _ vs (len rfl hl) (key rfl ih)
 |tuple cs vs hl _ ih=>intro x hx;cases x<;>simp only[AV.ml,AV.tuple.injEq] at hx<;>(try cases hx);exact .tuple _ vs (len rfl hl) (key rfl ih)
 |ptr l off b C h=>intro x hx;cases x<;>simp only[AV.ml] at hx<;>(try cases hx);exact .ptr _ off b C h
 |ii l sz i off b C h=>intro x hx;cases x<;>simp only[AV.ml] at hx<;>(try cases hx);exact .ii _ sz i off b C h
 |d9 row off b base f hb hv hr=>intro x hx;cases x<;>simp only[AV.ml] at hx<;>(try cases hx);exact .d9 row off b base f hb hv hr
 |lm sz n e a h=>intro x hx;cases x<;>simp only[AV.ml] at hx<;>(try cases hx);exact .lm sz n e a h
 |bi l sz start len full ob C cap a h hc b9 ha=>intro x hx;cases x<;>simp only[AV.ml] at hx<;>(try cases hx);exact .bi _ sz start len full ob C cap a h hc b9 ha
 |d7 l off n b C cap h hc=>intro x hx;cases x<;>simp only[AV.ml] at hx<;>(try cases hx);exact .d7 _ off n b C cap h hc
 |map l b C h=>intro x hx;cases x<;>simp only[AV.ml] at hx<;>(try cases hx);exact .map _ b C h
 |fn f first cap us vs nw _ hl _ uz ih=>intro x hx;cases x<;>simp only[AV.ml,AV.fn.injEq] at hx<;>(try cases hx;done);obtain⟨rfl,Qw,HE⟩:=hx;exact .fn _ _ _ us vs (len Qw nw) (key Qw uz) (len HE hl) (key HE ih)
 |ge m n h=>intro x hx;cases x<;>simp only[AV.ml] at hx<;>(try cases hx);exact .ge m n h
 |yl l b C h=>intro x hx;cases x<;>simp only[AV.ml] at hx<;>(try cases hx);exact .yl _ b C h
theorem fv.ml (hρ: ∀i p,ρ i=AD p->ρ' (π i)=AD p){b C:Nat}{oo:ae}(hv:fv w S ρ b C oo):fv w S ρ' b C (oo.ml π):=by
 cases oo with
 |var cs=>
  obtain⟨vs,ty,h1,h2,h3⟩:=hv;refine⟨vs,ty,h1,by simpa [AV.f8] using h2,fun i x v hx hv=> ?_⟩;rw[AV.f8,AC] at hx;cases hc:cs[i]? with
  |none=>simp[hc] at hx
  |some y=>simp[hc] at hx;subst hx;exact (h3 i y v hc hv).ml hρ
 |arr sz n e=>exact hv
 |t0 sz n e=>exact hv
 |map wide ks n f=>exact hv
 |n7 ap=>
  obtain⟨vs,ty,h1,h2,h3,h4⟩:=hv;refine⟨vs,ty,h1,h2,by simpa [AV.f8] using h3,fun i x v hx hv=> ?_⟩;rw[AV.f8,AC] at hx;cases hc:ap[i]? with
  |none=>simp[hc] at hx
  |some y=>simp[hc] at hx;subst hx;exact (h4 i y v hc hv).ml hρ
 |dz wide ks keys ap=>
  obtain⟨es,clock,h1,h2,h3,h4⟩:=hv;refine⟨es,clock,h1,h2,by simpa [AV.f8] using h3,fun i x e hx he=> ?_⟩;rw[AV.f8,AC] at hx;cases hc:ap[i]? with
  |none=>simp[hc] at hx
  |some y=>simp[hc] at hx;subst hx;exact (h4 i y e hc he).ml hρ
 |loop s ts ps code=>
  obtain⟨r,h1,h2,h3,h4,h5,h6,h7⟩:=hv;refine⟨r,h1,h2,h3,h4,h5,by simpa [AV.f8] using h6,fun i x v hx hv=> ?_⟩;rw[AV.f8,AC] at hx;cases hc:ts[i]? with
  |none=>simp[hc] at hx
  |some y=>simp[hc] at hx;subst hx;exact (h7 i y v hc hv).ml hρ
 |gone=>exact hv
 |iter m since seen=>obtain⟨bm,h1,h2⟩:=hv;exact⟨bm,h1,h2.ml hρ⟩
theorem fv.Vs {b C:Nat}{oo:ae}(hv:fv w S ρ b C (oo.ml π)):fv w S (fun i=>ρ (π i)) b C oo:=by
 cases oo with
 |var cs=>obtain⟨vs,ty,h1,h2,h3⟩:=hv;refine⟨vs,ty,h1,by simpa [AV.f8] using h2,fun i x v hx hv=> ?_⟩;exact (h3 i (x.ml π) v (by rw[AV.f8,AC,hx];rfl) hv).Vs rfl
 |arr sz n e=>exact hv
 |t0 sz n e=>exact hv
 |map wide ks n f=>exact hv
 |n7 ap=>obtain⟨vs,ty,h1,h2,h3,h4⟩:=hv;exact⟨vs,ty,h1,h2,by simpa [AV.f8] using h3,fun i x v hx hv=>(h4 i (x.ml π) v (by rw[AV.f8,AC,hx];rfl) hv).Vs rfl⟩
 |dz wide ks keys ap=>obtain⟨es,clock,h1,h2,h3,h4⟩:=hv;exact⟨es,clock,h1,h2,by simpa [AV.f8] using h3,fun i x e hx he=>(h4 i (x.ml π) e (by rw[AV.f8,AC,hx];rfl) he).Vs rfl⟩
 |loop s ts ps code=>obtain⟨r,h1,h2,h3,h4,h5,h6,h7⟩:=hv;refine⟨r,h1,h2,h3,h4,h5,by simpa [AV.f8] using h6,fun i x v hx hv=> ?_⟩;exact (h7 i (x.ml π) v (by rw[AV.f8,AC,hx];rfl) hv).Vs rfl
 |gone=>exact hv
 |iter m since seen=>obtain⟨bm,h1,h2⟩:=hv;exact⟨bm,h1,h2.Vs rfl⟩
def yq:List Nat->ae->ae
 |[],o=>o
 |l::pg,o=>yq pg (o.forget l AI)
theorem OO (pg:List Nat): ∀(h:List ae) (m:Nat),(uu pg h)[m]? =(h[m]?).map (yq pg):=by
 induction pg with
 |nil=>intro h m;simp[uu,yq]
 |cons l pg ih=>intro h m;rw[uu,ih,K8,Option.map_map];rfl
theorem h6g (pg:List Nat): ∀(o:ae),(yq pg o).frozen=o.frozen:=by
 induction pg with
 |nil=>intro o;rfl
 |cons l pg ih=>intro o;rw[yq,ih,ae.x9]
theorem fv.Wk {w':Ab}{S':Nat->Prop}(hS: ∀b,S b->S' b)(hw: ∀b,S b->w'.heap[b]? =w.heap[b]?){b C:Nat}(hb:w'.heap[b]? =w.heap[b]?)(pg:List Nat):
 ∀{ρ:Aq},(∀m p,m∉pg->ρ m=AD p->ρ' m=AD p)-> ∀{o:ae},fv w S ρ b C o->fv w' S' ρ' b C (yq pg o):=by
 induction pg with
 |nil=>intro ρ hρ o h;exact h.mono hS hw (fun m p=>hρ m p (by simp)) hb
 |cons l pg ih=>
  intro ρ hρ o h;have h1:fv w S (fun m=>if m=l then AK else ρ m) b C (o.forget l AI):=by refine fv.forget (fun _ h=>h) (fun _ _=>rfl) l AI (fun m p hg hm=> ?_) rfl h;show (if m=l then AK else ρ m)=AD p;rw[if_neg (fun e=>by subst e;simp[gone] at hg)];exact hm
  refine ih (ρ:=fun m=>if m=l then AK else ρ m) (fun m p hm hp=> ?_) h1;by_cases e:m=l
  ·simp[e] at hp
  ·simp[e] at hp;exact hρ m p (by simp[e,hm]) hp
end
def oc:List Nat->Nat->Nat->Nat
 |[],base,i=>base+i
 |l::_,_,0=>l
 |_::pos,base,i+1=>oc pos base i
def wh:List ae->List Nat->List ae->List ae
 |H,[],os=>ba H os
 |H,_::_,[]=>H
 |H,l::pos,o::os=>wh (b8 H l o) pos os
theorem QZ {base:Nat}: ∀{pos:List Nat} {i:Nat},i<pos.length->pos[i]? =AD (oc pos base i)
 |[],i,h=>by simp at h
 |l::pos,0,_=>rfl
 |l::pos,i+1,h=>by have:=QZ (base:=base) (pos:=pos) (i:=i) (by simpa using h);simpa [oc] using this
theorem h9d {base:Nat}: ∀{pos:List Nat} {i:Nat},pos.length<=i->oc pos base i=base+(i-pos.length)
 |[],i,_=>by simp[oc]
 |l::pos,0,h=>by simp at h
 |l::pos,i+1,h=>by have:=h9d (base:=base) (pos:=pos) (i:=i) (by simpa using h);simp only[oc,this,List.length_cons];omega
theorem TW: ∀{pos:List Nat} {H os:List ae},pos.length<=os.length->(wh H pos os).length=H.length+(os.length-pos.length)
 |[],H,os,_=>by simp[wh,fi]
 |l::pos,H,[],h=>by simp at h
 |l::pos,H,o::os,h=>by
  have h':pos.length<=os.length:=by simpa using h
  rw[wh,TW h',fg];simp
theorem Mc: ∀{pos:List Nat} {H os:List ae} {m:Nat},m<H.length->m∉pos->(wh H pos os)[m]? =H[m]?
 |[],H,os,m,hm,_=>by rw[wh,fi,AF hm]
 |l::pos,H,[],m,_,_=>rfl
 |l::pos,H,o::os,m,hm,hn=>by simp only[Az,not_or] at hn;rw[wh,Mc (by rw[fg];simpa using hm) hn.2,fg,Aa (Ne.symm hn.1)]
theorem TX: ∀{pos:List Nat} {H os:List ae} {i:Nat},pos.Nodup->(∀l,l∈pos->l<H.length)->pos.length<=os.length->i<os.length->(wh H pos os)[oc pos H.length i]? =os[i]?
 |[],H,os,i,_,_,_,hi=>by rw[wh,fi,oc,AN (by omega)];congr 1;omega
 |l::pos,H,[],i,_,_,hl,_=>by simp at hl
 |l::pos,H,o::os,i,hd,hlt,hl,hi=>by
  have GE:=Av.1 hd;have hlen:(b8 H l o).length=H.length:=by rw[fg];simp
  cases i with
  |zero=>rw[wh,oc,Mc (by rw[hlen];exact hlt l (by simp)) GE.1,fg,List.getElem?_set_self (hlt l (by simp))];rfl
  |succ i=>rw[wh,oc,<-hlen,TX GE.2 (fun m hm=>by rw[hlen];exact hlt m (by simp[hm])) (by simpa using hl) (by simpa using hi)];simp
def Oo (H:List ae):List Nat->List ae->Prop
 |[],[]=>True
 |l::pos,o::os=>(match ax H l with|some o'=>bx o' o|none=>False)/\Oo H pos os
 |_,_=>False
theorem UQ {H:List ae}: ∀{pos:List Nat} {os:List ae},Oo H pos os->pos.length=os.length/\ ∀(i l:Nat) (o:ae),pos[i]? =AD l->os[i]? =AD o-> ∃o',H[l]? =AD o'/\bx o' o
 |[],[],_=>⟨rfl,by simp⟩
 |[],_::_,h=>h.elim
 |_::_,[],h=>h.elim
 |l::pos,o::os,h=>by
  obtain⟨h1,h2⟩:=h;obtain⟨h3,h4⟩:=UQ h2;refine⟨by simp[h3],fun i l' o' hl ho=> ?_⟩;cases i with
  |zero=>
   simp at hl ho;subst hl;subst ho;rw[cy] at h1;split at h1
   ·rename_i o' e;exact⟨o',e,h1⟩
   ·exact h1.elim
  |succ i=>simp at hl ho;exact h4 i l' o' hl ho
def Tv:List Nat->Bool
 |[]=>AE
 |l::r=>!sr l r&&Tv r
theorem h7h: ∀{l:List Nat},Tv l=AE->l.Nodup
 |[],_=> .nil
 |l::r,h=>by simp only[Tv,AG,Bool.not_eq_true'] at h;exact Av.2 ⟨fun hm=>by rw[w6.2 hm] at h;exact Bool.noConfusion h.1,h7h h.2⟩
def Si (H:List ae)(pos:List Nat)(K:List Nat->AV->List ae->Prop)(pg:List Nat)(v:AV)(H':List ae):Prop:=
 ∃pg0 v0 h0,K pg0 v0 h0/\pg=tu (oc pos (az H)) pg0/\v=v0.ml (oc pos (az H))/\H'=wh (uu pg H) pos (uj (oc pos (az H)) h0)
theorem ay.frame {P:AQ}{f:AX}{args args':List AV}{h:List ae}{K:List Nat->AV->List ae->Prop}(hc:ay P f args h K){H:List ae}(pos:List Nat)(hd:Tv pos=AE)
 (ha:args'=AV.ul (oc pos (az H)) args) (hH:Oo H pos (uj (oc pos (az H)) h)):ay P f args' H (Si H pos K):=by
 refine⟨hc.1,fun w S ρ vs hs hv=> ?_⟩;unfold Si;rw[cv] at ha hH⊢;generalize hπ:oc pos H.length=π at ha hH⊢;have im:=h7h hd;obtain⟨a1,a2⟩:=UQ hH;rw[u2,AJ] at a1;have hlt: ∀l,l∈pos->l<H.length:=fun l hl=>by obtain⟨i,hi⟩:=AM hl;have fw:=(AA.1 hi).1;have ho:h[i]? =AD (h[i]'(by omega)):=AB _;obtain⟨o',h1,_⟩:=a2 i l _ hi (by rw[u2,AC,ho];rfl);exact (AA.1 h1).1
 have πlt: ∀i,i<h.length->pos[i]? =AD (π i):=fun i hi=>by rw[<-hπ];exact QZ (by omega)
 have πge: ∀i,h.length<=i->π i=H.length+(i-h.length):=fun i hi=>by rw[<-hπ,h9d (by omega),a1]
 have πmem: ∀i,i<h.length->π i∈pos:=fun i hi=>Am (πlt i hi);have πinj: ∀i j,π i=π j->i=j:=fun i j e=>by
  by_cases hi:i<h.length
  ·by_cases hj:j<h.length
   ·have h1:=πlt i hi;have h2:=πlt j hj;rw[<-e] at h2;obtain⟨q1,q2⟩:=AA.1 h1;obtain⟨q3,q4⟩:=AA.1 h2;have hp:=Ah.1 im;rcases Ar i j with yx|yx|yx
    ·exact absurd (q2.trans q4.symm) (hp i j q1 q3 yx)
    ·exact yx
    ·exact absurd (q4.trans q2.symm) (hp j i q3 q1 yx)
   ·have:=hlt _ (πmem i hi);have:=πge j (by omega);omega
  ·by_cases hj:j<h.length
   ·have:=hlt _ (πmem j hj);have:=πge i (by omega);omega
   ·have:=πge i (by omega);have:=πge j (by omega);omega
 have iu: ∀l,H.length<=l->ρ l=AK:=fun l hl=>by
  cases hr:ρ l with
  |none=>rfl
  |some p=>obtain⟨o,h1,_⟩:=hs.obj l p.1 p.2 hr;have:=(AA.1 h1).1;omega
 have LM:A6 w S (fun i=>ρ (π i)) h:=by
  refine⟨hs.i0,fun i ob C hi=> ?_,fun i j b C C' h1 h2=>πinj _ _ (hs.inj _ _ b C C' h1 h2),fun i b C o hi ho hf=> ?_⟩
  ·by_cases hil:i<h.length
   ·have ho:h[i]? =AD (h[i]'hil):=AB _;obtain⟨o',h1,h2⟩:=a2 i (π i) _ (πlt i hil) (by rw[u2,AC,ho];rfl);obtain⟨o2,h3,h4⟩:=hs.obj (π i) ob C hi;rw[h1] at h3;cases h3;refine⟨_,ho,?_⟩;have h5:=h2.holds _ _ _ _ _ h4;cases ob with
    |none=>obtain⟨hC,sz',e',h6⟩:=h5;refine⟨hC,sz',e',?_⟩;cases hoo:h[i]'hil<;>rw[hoo] at h6<;>simp[ae.ml] at h6⊢ <;>exact h6
    |some b=>exact fv.Vs h5
   ·have:=iu (π i) (by have:=πge i (by omega);omega);rw[this] at hi;cases hi
  ·have hil:=(AA.1 ho).1;obtain⟨o',h1,h2⟩:=a2 i (π i) _ (πlt i hil) (by rw[u2,AC,ho];rfl);exact hs.own (π i) b C o' hi h1 (h2.t0 (by rw[Q5];exact hf))
 have qu:Vw w S (fun i=>ρ (π i)) args vs:=by subst ha;refine⟨by have:=hv.1;rw[AV.f8] at this;simpa using this,fun i x v hx fc=>(hv.2 i (x.ml π) v (by rw[AV.f8,AC,hx];rfl) fc).Vs rfl⟩
 refine (hc.2 w S _ vs LM qu).mono fun e w' he=> ?_;obtain⟨v,x,pg,h',S',ρ1,he,hk,pd,hsim,hext,hlen,VE⟩:=he;obtain⟨ρ',r1,r2⟩: ∃ρ':Aq,(∀i,ρ' (π i)=ρ1 i)/\(∀l,l<H.length->l∉pos->ρ' l=ρ l):=by
  classical
  refine⟨fun l=>if hl: ∃i,π i=l then ρ1 hl.choose else ρ l,fun i=> ?_,fun l hl hp=> ?_⟩
  ·have hex: ∃j,π j=π i:=⟨i,rfl⟩;simp only[dif_pos hex];rw[πinj _ _ hex.choose_spec]
  ·have: ¬ ∃i,π i=l:=fun⟨i,hi⟩=>by
    by_cases hil:i<h.length
    ·exact hp (hi▸πmem i hil)
    ·have:=πge i (by omega);omega
   simp only[dif_neg this]
 have eo: ∀l,(l<H.length/\l∉pos)\/ ∃i,π i=l:=fun l=>by
  by_cases hl:l<H.length
  ·by_cases hp:l∈pos
   ·obtain⟨i,hi⟩:=AM hp;have fw:=(AA.1 hi).1;have:=πlt i (by omega);rw[hi] at this;exact .inr ⟨i,(Ai this).symm⟩
   ·exact .inl ⟨hl,hp⟩
  ·exact .inr ⟨h.length+(l-H.length),by have:=πge (h.length+(l-H.length)) (by omega);omega⟩
 have mo: ∀l p,l∉pg.map π->ρ l=AD p->ρ' l=AD p:=fun l p hl hp=>by
  rcases eo l with⟨h1,h2⟩|⟨i,rfl⟩
  ·rw[r2 l h1 h2];exact hp
  ·rw[r1];by_cases hil:i<h.length
   ·rw[VE i hil (fun hm=>hl (Ad.2 ⟨i,hm,rfl⟩))];exact hp
   ·have:=iu (π i) (by have:=πge i (by omega);omega);rw[this] at hp;cases hp
 have Ho: ∀l,l<H.length->l∉pg.map π->ρ' l=ρ l:=fun l hl hn=>by
  rcases eo l with⟨h1,h2⟩|⟨i,rfl⟩
  ·exact r2 l h1 h2
  ·have hil:i<h.length:=Au fun hle=>by have:=πge i hle;omega
   rw[r1,VE i hil (fun hm=>hn (Ad.2 ⟨i,hm,rfl⟩))]
 have tc:(uu (pg.map π) H).length=H.length:=Vk _ _;have v8:pos.length<=(uj π h').length:=by rw[u2,AJ];omega
 have jv: ∀l,l∈pos->l<(uu (pg.map π) H).length:=fun l hl=>by rw[tc];exact hlt l hl
 have jd: ∀i o,h'[i]? =AD o->(wh (uu (pg.map π) H) pos (uj π h'))[π i]? =AD (o.ml π):=fun i o hi=>by have hil:=(AA.1 hi).1;have:=TX (H:=uu (pg.map π) H) (os:=uj π h') (i:=i) im jv v8 (by rw[u2,AJ];exact hil);rw[tc,hπ] at this;rw[this,u2,AC,hi];rfl
 have p9: ∀l b C,l<H.length->l∉pos->ρ l=AD (AD b,C)->w'.heap[b]? =w.heap[b]? /\ ¬ ∃i C',ρ1 i=AD (AD b,C'):=fun l b C hl hp hr=>by
  have hb:=hs.V2 hr;have jn: ∀i C',ρ (π i)≠AD (AD b,C'):=fun i C' h1=>by
   have:=hs.inj _ _ b _ _ hr h1;subst this;by_cases hil:i<h.length
   ·exact hp (πmem i hil)
   ·have:=πge i (by omega);omega
  refine⟨hext.frame b hb jn,fun⟨i,C',h1⟩=> ?_⟩;rcases hext.owned i b C' h1 with h2|⟨j,C2,h2⟩
  ·omega
  ·exact jn j C2 h2
 have Hx:A6 w' S' ρ' (wh (uu (pg.map π) H) pos (uj π h')):=by
  refine⟨hsim.i0,fun l ob C hl=> ?_,fun l l' b C C' h1 h2=> ?_,fun l b C o hl ho hf=> ?_⟩
  ·rcases eo l with⟨h1,h2⟩|⟨i,rfl⟩
   ·rw[r2 l h1 h2] at hl;obtain⟨o,h3,h4⟩:=hs.obj l ob C hl;refine⟨yq (pg.map π) o,by rw[Mc (by rw[tc];exact h1) h2,OO,h3];rfl,?_⟩;cases ob with
    |none=>
     obtain⟨hC,sz',e',h6⟩:=h4;refine⟨hC,sz',e',?_⟩;have: ∀(pg:List Nat) (o:ae),(o= .arr sz' 0 e'\/o= .t0 sz' 0 e')->yq pg o=o:=by
      intro pg
      induction pg with
      |nil=>intro o _;rfl
      |cons l pg ih=>intro o h;rw[yq];rcases h with rfl|rfl<;>exact ih _ (by simp[AW])
     rw[this _ _ h6];exact h6
    |some b=>exact fv.Wk hext.mono hext.cell (p9 l b C h1 h2 hl).1 _ mo h4
   ·rw[r1] at hl;obtain⟨o,h3,h4⟩:=hsim.obj i ob C hl;refine⟨_,jd i o h3,?_⟩;cases ob with
    |none=>
     obtain⟨hC,sz',e',h6⟩:=h4;refine⟨hC,sz',e',?_⟩;rcases h6 with rfl|rfl
     ·exact .inl rfl
     ·exact .inr rfl
    |some b=>exact fv.ml (fun j p hp=>by rw[r1];exact hp) h4
  ·rcases eo l with⟨g1,g2⟩|⟨i,rfl⟩
   ·rcases eo l' with⟨g3,g4⟩|⟨j,rfl⟩
    ·rw[r2 l g1 g2] at h1;rw[r2 l' g3 g4] at h2;exact hs.inj _ _ b C C' h1 h2
    ·rw[r2 l g1 g2] at h1;rw[r1] at h2;exact absurd ⟨j,C',h2⟩ (p9 l b C g1 g2 h1).2
   ·rcases eo l' with⟨g3,g4⟩|⟨j,rfl⟩
    ·rw[r1] at h1;rw[r2 l' g3 g4] at h2;exact absurd ⟨i,C,h1⟩ (p9 l' b C' g3 g4 h2).2
    ·rw[r1] at h1 h2;rw[hsim.inj i j b C C' h1 h2]
  ·rcases eo l with⟨g1,g2⟩|⟨i,rfl⟩
   ·rw[r2 l g1 g2] at hl;rw[Mc (by rw[tc];exact g1) g2,OO] at ho;obtain⟨o1,h3,_⟩:=hs.obj l _ C hl;rw[h3] at ho;simp at ho;subst ho;rw[h6g] at hf;intro hS;rcases hext.news b hS with h4|h4|⟨j,C',h4⟩
    ·exact hs.own l b C o1 hl h3 hf h4
    ·have:=hs.V2 hl;omega
    ·have:=hs.inj _ _ b _ _ hl h4;subst this;by_cases hil:j<h.length
     ·exact g2 (πmem j hil)
     ·have:=πge j (by omega);omega
   ·rw[r1] at hl;obtain⟨o1,h3,_⟩:=hsim.obj i _ C hl;rw[jd i o1 h3] at ho;cases ho;rw[Q5] at hf;exact hsim.own i b C o1 hl h3 hf
 refine⟨v,x.ml π,pg.map π,_,S',ρ',he,⟨pg,x,h',hk,(HN _ _).symm,rfl,rfl⟩,pd.ml (fun i p hp=>by rw[r1];exact hp),Hx,?_,?_,Ho⟩
 ·refine⟨hext.os,hext.tape,hext.output,hext.size,hext.mono,hext.cell,fun b hb=> ?_,fun b hb hn=>hext.frame b hb (fun i C=>hn (π i) C),fun l b C hl=> ?_⟩
  ·rcases hext.news b hb with h1|h1|⟨i,C,h1⟩
   ·exact .inl h1
   ·exact .inr (.inl h1)
   ·exact .inr (.inr ⟨π i,C,h1⟩)
  ·rcases eo l with⟨g1,g2⟩|⟨i,rfl⟩
   ·rw[r2 l g1 g2] at hl;exact .inr ⟨l,C,hl⟩
   ·rw[r1] at hl;rcases hext.owned i b C hl with h1|⟨j,C',h1⟩
    ·exact .inl h1
    ·exact .inr ⟨π j,C',h1⟩
 ·rw[TW v8,tc];omega
def int (z:Int):AV:= .d (.int .i64 (.v z))
def u8 (z:Int):AV:= .d (.int .u8 (.v z))
def bool (b:Bool):AV:= .d (.bool b)
def ac (n:Nat)(g:Nat->Int):AV:= .d (.sl 1 n fun i=>[.int .i64 (.v (g i))])
theorem e7 {x:Int}(h1: -9223372036854775808<=x)(h2:x<=9223372036854775807):A8.wrap x=x:=by simp[Aw,Ax,Ao];omega
theorem ga {a b:Bool}(h:a=b):ab (.d (.bool a)) (.d (.bool b)):=by subst h;exact ab.refl _
theorem ff {r:Bool}{p:Prop}(hr:r=AE↔p)(h: ¬p):AI=r:=by
 cases r
 ·rfl
 ·exact absurd (hr.1 rfl) h
theorem tt {r:Bool}{p:Prop}(hr:r=AE↔p)(h:p):AE=r:=(hr.2 h).symm
theorem jq {r:Bool}{p:Prop}(hr:r=AE↔p)(h: ¬p):ab (.d (.bool AI)) (.d (.bool r)):=ga (ff hr h)
theorem Ir {r:Bool}{p:Prop}(hr:r=AE↔p)(h:p):ab (.d (.bool AE)) (.d (.bool r)):=ga (tt hr h)
theorem bg {k:Ae}{a b:Int}(h:a=b):ab (.d (.int k (.l a))) (.d (.int k (.v b))):=ab.int h
theorem br {k:Ae}{a b:Int}(h:a=b):ab (.d (.int k (.v a))) (.d (.int k (.v b))):=ab.int h
theorem ab.Yz {sz:Nat}{e:Nat->List DV}:ab (.d .nil) (.d (.sl sz 0 e)):=by
 intro w S ρ v h;cases h with
 |d h=>cases h;exact .d (.VO _ _ _ _)
theorem ab.lm {sz n:Nat}{e:Nat->List DV}:ab (.lm sz n e) (.d (.sl sz n e)):=by
 intro w S ρ v h;cases h with
 |lm _ _ _ a h=>exact .d h
theorem ab.Yf {sz n m:Nat}{e e':Nat->List DV}(hn:n=m)(h: ∀i,i<n->e i=e' i):ab (.d (.sl sz n e)) (.d (.sl sz m e')):=by subst hn;exact ab.sl h
theorem ab.ac {n m:Nat}{g h:Nat->Int}(hn:n=m)(hg: ∀i,i<n->g i=h i):ab (.d (.sl 1 n fun i=>[.int .i64 (.v (g i))])) (.d (.sl 1 m fun i=>[.int .i64 (.v (h i))])):=
 ab.Yf hn fun i hi=>by rw[hg i hi]
theorem b4i {P:AQ}{f:AX}{args:List AV}{x y:AV}{l:List AV}(hf: ∀z,z∈x::y::l->K7 z)(h:au P AI f args (.tuple (x::y::l))):au P AE f args (.tuple (x::y::l)):=
 b4e (xs:=x::y::l) hf h
theorem i5z {P:AQ}{A:t7}{ro:Option Nat}{E:Ay}{Sg:A7}{Q:Lv->St->Prop}(hm:P.follows .mixedOrders=AE)(dp:WO P)(hS:Sg=AR P A ro E)(m:Nat){ic:gy}{st:St}(h:Sa Sg m ic Q st):Sg.loop ic Q st:=by subst hS;exact b2n hm dp h
theorem py.same: ∀(h:List ae),py h h
 |[]=> .nil _
 |o::h=> .cons (.refl o) (py.same h)
def ro (h:List ae)(r:AV)(pg:List Nat)(v:AV)(h':List ae):Prop:=pg=[]/\v=r/\h'=h
section
variable {P:AQ} {f:AX} {args:List AV} {h:List ae}
theorem ay.VC {own:Bool}{r:AV}(hf:sd args=AE)(hp:au P own f args r):ay P f args h (ro h r):=by
 refine⟨hp.1,fun w S ρ vs hs hv=> ?_⟩;have qu:Vw w S my args vs:=⟨hv.1,fun i x v hx hu=>Sl (vs:=vs.toList) hf (fun i x v hx hu=>hv.2 i x v hx (by simpa using hu)) i x v hx (by simpa using hu)⟩;refine (hp.2 w S vs hs.i0 qu).mono fun e w' he=> ?_;obtain⟨v,S',h1,h2,h3,h4⟩:=he;have c:=TN (S1:=S') hs (fun b hb=>by
  rcases h3 b hb with h|h
  ·exact .inl h.2
  ·exact .inr h) h4
 exact⟨v,r,[],h,_,ρ,h1,⟨rfl,rfl,rfl⟩,h2.mono (fun b hb=> .inr hb) (fun _ _=>rfl) (fun l p hl=>by cases hl),c.co,c.ext,Af _,fun l _ _=>rfl⟩
theorem ay.cut {K:List Nat->AV->List ae->Prop}(hc:ay P f args h (fun pg v h'=> ∃h0 v0,py h' h0/\ab v v0/\h.length<=h0.length/\((v0.low h0.length=AE/\u1 h0.length h0=AE)\/h'.length=h0.length)/\K pg v0 h0)):ay P f args h K:=by
 refine⟨hc.1,fun w S ρ vs hs hv=>(hc.2 w S ρ vs hs hv).mono fun e w' he=> ?_⟩;obtain⟨v,x,pg,h',S',ρ',h1,⟨h0,v0,k1,k2,k3,k45,k6⟩,h2,h3,h4,h5,h6⟩:=he;obtain⟨l3,l4⟩:=k1.get;have da: ∀m p,ρ'.cut h0.length m=AD p->m<h0.length/\ρ' m=AD p:=fun m p hp=>by
  unfold lw.cut at hp;split at hp
  ·rename_i h;exact⟨h,hp⟩
  ·cases hp
 by_cases hn:h'.length=h0.length
 ·refine⟨v,v0,pg,h0,S',ρ',h1,k6,k2 _ _ _ _ h2,⟨h3.i0,fun m ob C hl=> ?_,h3.inj,fun m b C o hl ho hf=> ?_⟩,h4,k3,h6⟩
  ·obtain⟨o,q1,q2⟩:=h3.obj m ob C hl;have hm:=(AA.1 q1).1;have q3:h0[m]? =AD (h0[m]'(by omega)):=AB _;exact⟨_,q3,(l4 m o _ q1 q3).holds _ _ _ _ _ q2⟩
  ·obtain⟨o1,q1,q2⟩:=h3.obj m _ C hl;exact h3.own m b C o1 hl q1 ((l4 m o1 o q1 ho).t0 hf)
 obtain⟨k4,k5⟩:=k45.resolve_right hn;refine⟨v,v0,pg,h0,S',ρ'.cut h0.length,h1,k6,(k2 _ _ _ _ h2).cut k4,⟨h3.i0,fun m ob C hl=> ?_,fun m m' b C C' q1 q2=>h3.inj m m' b C C' (da _ _ q1).2 (da _ _ q2).2,fun m b C o hl ho hf=> ?_⟩,?_,k3,fun m hm Wl=> ?_⟩
 ·obtain⟨hm,hl⟩:=da _ _ hl;obtain⟨o,q1,q2⟩:=h3.obj m ob C hl;have q3:h0[m]? =AD (h0[m]'hm):=AB _;refine⟨_,q3,?_⟩;have q4:=(l4 m o _ q1 q3).holds _ _ _ _ _ q2;cases ob with
  |none=>exact q4
  |some b=>exact fv.cut q4 (NA k5 q3)
 ·obtain⟨hm,hl⟩:=da _ _ hl;obtain⟨o1,q1,q2⟩:=h3.obj m _ C hl;exact h3.own m b C o1 hl q1 ((l4 m o1 o q1 ho).t0 hf)
 ·exact⟨h4.os,h4.tape,h4.output,h4.size,h4.mono,h4.cell,h4.news,h4.frame,fun m b C hl=>h4.owned m b C (da _ _ hl).2⟩
 ·have e:ρ'.cut h0.length m=ρ' m:=if_pos (by omega);rw[e];exact h6 m hm Wl
theorem Vw.LE {w:Ab}{S:Nat->Prop}{ρ:Aq}{xs ys:List AV}{vs:Array AP}(h:fl xs ys)(hv:Vw w S ρ xs vs):Vw w S ρ ys vs:=
 ⟨by rw[<-h.get.1];exact hv.1,ab.cells h.get.1 h.get.2 hv.2⟩
theorem au.LE {own:Bool}{args':List AV}{r:AV}(h:fl args' args)(hp:au P own f args r):au P own f args' r:=
 ⟨hp.1,fun w S vs hS hv=>hp.2 w S vs hS (hv.LE h)⟩
theorem ay.LE {args':List AV}{K:List Nat->AV->List ae->Prop}(hl:fl args' args)(hp:ay P f args h K):ay P f args' h K:=
 ⟨hp.1,fun w S ρ vs hs hv=>hp.2 w S ρ vs hs (hv.LE hl)⟩
theorem fl.same: ∀(xs:List AV),fl xs xs
 |[]=> .nil
 |x::xs=> .cons (ab.refl x) (fl.same xs)
def ZT (h0:List ae)(r:AV)(pg:List Nat)(v:AV)(h':List ae):Prop:=
 ∃h1 v0,py h' h1/\ab v v0/\h0.length<=h1.length/\((v0.low h1.length=AE/\u1 h1.length h1=AE)\/h'.length=h1.length)/\ro h0 r pg v0 h1
theorem j7 {base:Nat}{h':List ae}{v r:AV}(hv:ab v r)(hl:py h' h)(hc:(r.low h.length=AE/\u1 h.length h=AE)\/h'.length=h.length):
 ∃pg,(∀l,l<base->l∈([]:List Nat)->l∈pg)/\ZT h r pg v h':=
 ⟨[],by simp,h,r,hl,hv,Af _,hc,rfl,rfl,rfl⟩
theorem l7 {x:x7}(hm:P.follows .mixedOrders=AE)(dp:WO P)(hx:aw P f x)(r:AV)(hn:As args.length x.n=AE)
 (hv: ∀(E:Ay) (Sg:A7),E.base=h.length->Sg=AR P x.A AK E->ev Sg x.ic (Ou Sg x.wn h.length (ZT h r)) ⟨y4 args (x.n-args.length),h,[]⟩):ay P f args h (ro h r):=
 ay.cut (b9y hm dp hx hn hv)
theorem mh {x:x7}{K:List Nat->AV->List ae->Prop}(hm:P.follows .mixedOrders=AE)(dp:WO P)(hx:aw P f x)(hn:As args.length x.n=AE)
 (hv: ∀(E:Ay) (Sg:A7),E.base=h.length->Sg=AR P x.A AK E-> ∀F:List Nat->AV->List ae->Prop,
   (∀{pg:List Nat} {v v0:AV} {h' h1:List ae},py h' h1->ab v v0->h.length<=h1.length->((v0.low h1.length=AE/\u1 h1.length h1=AE)\/h'.length=h1.length)->K pg v0 h1->F pg v h')->
   ev Sg x.ic (Ou Sg x.wn h.length F) ⟨y4 args (x.n-args.length),h,[]⟩):ay P f args h K:=by
 refine ay.cut (b9y hm dp hx hn fun E Sg hb hS=>hv E Sg hb hS _ ?_);intro pg v v0 h' h1 k1 k2 k3 k4 k5;exact⟨h1,v0,k1,k2,k3,k4,k5⟩
theorem lj {A:t7}{rr:Option Nat}{E:Ay}{Sg:A7}(hS:Sg=AR P A rr E){K K':List Nat->AV->List ae->Prop}(hc:ay P f args h K)(hk: ∀pg v h',K pg v h'->K' pg v h'):Sg.call f args h K':=by subst hS;exact ay.mono hk hc
theorem lu {A:t7}{rr:Option Nat}{E:Ay}{Sg:A7}(hS:Sg=AR P A rr E){r:AV}{K:List Nat->AV->List ae->Prop}(hc:ay P f args h (ro h r))(hk:K [] r h):Sg.call f args h K:=by subst hS;refine ay.mono (fun pg v h' e=> ?_) hc;obtain⟨rfl,rfl,rfl⟩:=e;exact hk
end
def HR (l sz:Nat):List AV->List AV->Prop
 |[],[]=>True
 |x::xs,y::ys=>(y=x\/(x= .d .nil/\y= .bi l sz AK 0 AI))/\HR l sz xs ys
 |_,_=>False
def vc (ρ:Aq)(l:Nat):Aq:=fun m=>if m=l then AD (AK,0) else ρ m
theorem b6s {ρ:Aq}{l:Nat}(h:ρ l=AK): ∀m p,ρ m=AD p->vc ρ l m=AD p:=fun m p hm=>by
 unfold vc;split
 ·rename_i e;subst e;rw[h] at hm;cases hm
 ·exact hm
theorem GV {ρ:Aq}{l m b C:Nat}(h:vc ρ l m=AD (AD b,C)):m≠l/\ρ m=AD (AD b,C):=by
 unfold vc at h;split at h
 ·cases h
 ·rename_i e;exact⟨e,h⟩
theorem v4.add_nil {w:Ab}{S:Nat->Prop}{ρ:Aq}{h:List ae}(hs:A6 w S ρ h)(sz:Nat)(e:Nat->List DV):ρ h.length=AK/\A6 w S (vc ρ h.length) (h++[.arr sz 0 e]):=by
 have hn:ρ h.length=AK:=by
  cases hh:ρ h.length with
  |none=>rfl
  |some p=>obtain⟨ob,C⟩:=p;obtain⟨o,h1,_⟩:=hs.obj _ _ _ hh;have:=(AA.1 h1).1;omega
 refine⟨hn,⟨hs.i0,fun l ob C hl=> ?_,fun l l' b C C' h1 h2=> ?_,fun l b C o h1 h2 h3=> ?_⟩⟩
 ·by_cases he:l=h.length
  ·subst he;simp only[vc,if_pos] at hl;cases hl;exact⟨_,by simp,rfl,sz,e,.inl rfl⟩
  ·have bu:ρ l=AD (ob,C):=by simpa [vc,he] using hl
   obtain⟨o,h1,h2⟩:=hs.obj _ _ _ bu;have hlt:=(AA.1 h1).1;refine⟨o,by rw[AF hlt];exact h1,?_⟩;cases ob with
   |none=>exact h2
   |some b=>exact fv.mono (fun _ h=>h) (fun _ _=>rfl) (b6s hn) rfl h2
 ·exact hs.inj l l' b C C' (GV h1).2 (GV h2).2
 ·obtain⟨a1,a2⟩:=GV h1;obtain⟨o',h4,_⟩:=hs.obj _ _ _ a2;have hlt:=(AA.1 h4).1;rw[AF hlt] at h2;exact hs.own l b C o a2 h2 h3
theorem Tt {w:Ab}{S:Nat->Prop}{ρ:Aq}{l sz:Nat}(hn:ρ l=AK): ∀{xs ys:List AV},HR l sz xs ys->xs.length=ys.length/\ ∀(i:Nat) (x y:AV) (v:AP),xs[i]? =AD x->ys[i]? =AD y->VR w S ρ x v->VR w S (vc ρ l) y v
 |[],[],_=>⟨rfl,by simp⟩
 |[],_::_,h=>h.elim
 |_::_,[],h=>h.elim
 |x::xs,y::ys,h=>by
  obtain⟨h1,h2⟩:=h;obtain⟨h3,h4⟩:=Tt hn h2;refine⟨by simp[h3],fun i u z v hu hz hv=> ?_⟩;cases i with
  |succ i=>simp at hu hz;exact h4 i u z v hu hz hv
  |zero=>
   simp at hu hz;subst hu;subst hz;rcases h1 with rfl|⟨rfl,rfl⟩
   ·exact VR.mono (fun _ h=>h) (fun _ _=>rfl) (b6s hn) hv
   ·cases hv with
    |d hd=>cases hd;exact .bi l sz AK 0 AI AK 0 0 AK (by simp[vc]) (by simp) (by simp) (by simp)
def VK (l sz:Nat):List ae->List ae->Prop
 |[],[]=>True
 |o::os,p::ps=>(p=o\/ ∃cs ds,o= .var cs/\p= .var ds/\HR l sz cs ds)/\VK l sz os ps
 |_,_=>False
theorem Tr {l sz:Nat}: ∀{os ps:List ae},VK l sz os ps->os.length=ps.length/\ ∀(i:Nat) (o p:ae),os[i]? =AD o->ps[i]? =AD p->p=o\/ ∃cs ds,o= .var cs/\p= .var ds/\HR l sz cs ds
 |[],[],_=>⟨rfl,by simp⟩
 |[],_::_,h=>h.elim
 |_::_,[],h=>h.elim
 |o::os,p::ps,h=>by
  obtain⟨h1,h2⟩:=h;obtain⟨h3,h4⟩:=Tr h2;refine⟨by simp[h3],fun i u v hu hv=> ?_⟩;cases i with
  |zero=>simp at hu hv;subst hu;subst hv;exact h1
  |succ i=>simp at hu hv;exact h4 i u v hu hv
theorem v4.WZ {w:Ab}{S:Nat->Prop}{ρ:Aq}{h h2:List ae}(hs:A6 w S ρ h)(sz:Nat)(e:Nat->List DV)(hh:VK h.length sz h h2):ρ h.length=AK/\A6 w S (vc ρ h.length) (h2++[.arr sz 0 e]):=by
 obtain⟨hn,ug⟩:=hs.add_nil sz e;obtain⟨g1,g2⟩:=Tr hh;refine⟨hn,⟨ug.i0,fun l ob C hl=> ?_,ug.inj,fun l b C o q1 q2 q3=> ?_⟩⟩
 ·obtain⟨o,h1,h3⟩:=ug.obj l ob C hl;by_cases hlt:l<h.length
  ·rw[AF hlt] at h1;have hx:h2[l]? =AD (h2[l]'(by omega)):=AB _;refine⟨_,by rw[AF (by omega)];exact hx,?_⟩;rcases g2 l o _ h1 hx with e1|⟨cs,ds,e1,e2,e3⟩
   ·rw[e1];exact h3
   ·subst e1;rw[e2];cases ob with
    |none=>obtain⟨_,sz',e',k|k⟩:=h3<;>cases k
    |some b=>obtain⟨vs,ty,k1,k2,k3⟩:=h3;have bu:ρ l=AD (AD b,C):=(GV hl).2;obtain⟨o0,m1,m2⟩:=hs.obj l _ C bu;rw[h1] at m1;cases m1;obtain⟨vs',ty',n1,n2,n3⟩:=m2;rw[n1] at k1;cases k1;obtain⟨a1,a2⟩:=Tt (w:=w) (S:=S) hn e3;refine⟨vs,ty,n1,by omega,fun i x v hx hv=> ?_⟩;have hi:i<ds.length:=(AA.1 hx).1;have hc:cs[i]? =AD (cs[i]'(by omega)):=AB _;exact a2 i _ x v hc hx (n3 i _ v hc hv)
  ·have h4:l=h.length:=by have:=(AA.1 h1).1;simp at this;omega
   subst h4;rw[AN (by omega)] at h1;refine⟨o,?_,h3⟩;rw[g1,AN (by omega)];simpa using h1
 ·obtain⟨a1,a2⟩:=GV q1;obtain⟨o',h4,_⟩:=hs.obj _ _ _ a2;have hlt:=(AA.1 h4).1;rw[AF (by omega)] at q2;rcases g2 l o' o h4 q2 with e1|⟨cs,ds,e1,e2,e3⟩
  ·rw[e1] at q3;exact hs.own l b C o' a2 h4 q3
  ·rw[e1] at h4;exact hs.own l b C _ a2 h4 rfl
theorem ay.VK {P:AQ}{f:AX}{args args':List AV}{h h2:List ae}{K:List Nat->AV->List ae->Prop}(sz:Nat)(e:Nat->List DV)(hc:ay P f args' (h2++[.arr sz 0 e]) K)
 (hl:HR h.length sz args args') (hh:Vf.VK h.length sz h h2):ay P f args h K:=by
 refine⟨hc.1,fun w S ρ vs hs hv=> ?_⟩;obtain⟨hn,ug⟩:=hs.WZ sz e hh;have g1:=(Tr hh).1;obtain⟨a1,a2⟩:=Tt (w:=w) (S:=S) hn hl;have fc:Vw w S (vc ρ h.length) args' vs:=⟨by rw[<-a1];exact hv.1,fun i y v hy hu=>by
  have hi:i<args'.length:=(AA.1 hy).1;have hx:args[i]? =AD (args[i]'(by omega)):=AB _;exact a2 i _ y v hx hy (hv.2 i _ v hx hu)⟩
 refine (hc.2 w S (vc ρ h.length) vs ug fc).mono fun x w' hR=> ?_;obtain⟨v,x,pg,h',S',ρ',b1,b2,b3,b4,b5,b6,b7⟩:=hR;refine⟨v,x,pg,h',S',ρ',b1,b2,b3,b4,⟨b5.os,b5.tape,b5.output,b5.size,b5.mono,b5.cell,fun b hb=> ?_,fun b hb vo=> ?_,fun l b C hl=> ?_⟩,?_,fun l hl hp=> ?_⟩
 ·rcases b5.news b hb with h1|h1|⟨l,C,h1⟩
  ·exact .inl h1
  ·exact .inr (.inl h1)
  ·exact .inr (.inr ⟨l,C,(GV h1).2⟩)
 ·exact b5.frame b hb fun l C h1=>vo l C (GV h1).2
 ·rcases b5.owned l b C hl with h1|⟨l,C,h1⟩
  ·exact .inl h1
  ·exact .inr ⟨l,C,(GV h1).2⟩
 ·simp at b6;omega
 ·rw[b7 l (by simp;omega) hp];unfold vc;rw[if_neg (by omega)]
theorem Ts (l sz:Nat): ∀h:List ae,Vf.VK l sz h h
 |[]=>trivial
 |_::h=>⟨.inl rfl,Ts l sz h⟩
theorem ay.nil {P:AQ}{f:AX}{args args':List AV}{h:List ae}{K:List Nat->AV->List ae->Prop}(sz:Nat)(e:Nat->List DV)(hc:ay P f args' (h++[.arr sz 0 e]) K)(hl:HR h.length sz args args'):ay P f args h K:=
 ay.VK sz e hc hl (Ts _ _ h)
theorem ay.ZP {P:AQ}{f:AX}{args:List AV}{h:List ae}{K:List Nat->AV->List ae->Prop}(hc:ay P f args h K):ay P f args h fun pg v h'=> ∃TI,K TI v h'/\pg=TI.filter fun l=>decide (l<h.length):=by refine⟨hc.1,fun w S ρ vs hs hv=>(hc.2 w S ρ vs hs hv).mono fun x w' hR=> ?_⟩;obtain⟨v,x,pg,h',S',ρ',b1,b2,b3,b4,b5,b6,b7⟩:=hR;exact⟨v,x,_,h',S',ρ',b1,⟨pg,b2,rfl⟩,b3,b4,b5,b6,fun l hl hp=>b7 l hl fun hm=>hp (by simp[hm,hl])⟩
theorem au.empty {P:AQ}{own:Bool}{f:AX}{sz:Nat}{e:Nat->List DV}{asx:List AV}{r:AV}
 (h: ∀a cap,au P own f (.d (.raw (.slice a 0 cap))::asx) r):au P own f (.d (.sl sz 0 e)::asx) r:=by
 refine⟨(h AK 0).1,fun w S vs hS hv=> ?_⟩;have h0: ∃v,vs[0]? =AD v:=⟨_,Ag (by rw[<-hv.1];simp)⟩;obtain⟨v,qu⟩:=h0;have h1:=hv.2 0 _ v rfl qu;have hx: ∃a cap,v= .slice a 0 cap:=by
  cases h1 with
  |d hd=>
   cases hd with
   |VO _ _ a cap=>exact⟨a,cap,rfl⟩
   |sl _ _ _ b off cap f hb hc hl hv hr=>exact⟨_,_,rfl⟩
 obtain⟨a,cap,rfl⟩:=hx;refine (h a cap).2 w S vs hS ⟨hv.1,fun i x u hi hu=> ?_⟩;cases i with
 |zero=>rw[qu] at hu;cases hu;simp at hi;subst hi;exact .d (.raw _ rfl)
 |succ i=>exact hv.2 (i+1) x u hi hu
theorem ay.empty {P:AQ}{f:AX}{sz:Nat}{e:Nat->List DV}{asx:List AV}{H:List ae}{K:List Nat->AV->List ae->Prop}
 (h: ∀a cap,ay P f (.d (.raw (.slice a 0 cap))::asx) H K):ay P f (.d (.sl sz 0 e)::asx) H K:=by
 refine⟨(h AK 0).1,fun w S ρ vs hS hv=> ?_⟩;have h0: ∃v,vs[0]? =AD v:=⟨_,Ag (by rw[<-hv.1];simp)⟩;obtain⟨v,qu⟩:=h0;have h1:=hv.2 0 _ v rfl qu;have hx: ∃a cap,v= .slice a 0 cap:=by
  cases h1 with
  |d hd=>
   cases hd with
   |VO _ _ a cap=>exact⟨a,cap,rfl⟩
   |sl _ _ _ b off cap f hb hc hl hv hr=>exact⟨_,_,rfl⟩
 obtain⟨a,cap,rfl⟩:=hx;refine (h a cap).2 w S ρ vs hS ⟨hv.1,fun i x u hi hu=> ?_⟩;cases i with
 |zero=>rw[qu] at hu;cases hu;simp at hi;subst hi;exact .d (.raw _ rfl)
 |succ i=>exact hv.2 (i+1) x u hi hu
theorem ay.Xq {P:AQ}{f:AX}{args:List AV}{h:List ae}{K:List Nat->AV->List ae->Prop}(sz:Nat)(e:Nat->List DV)
 (hc:ay P f args h fun pg v h'=>(v= .d .nil/\K pg (.bi h'.length sz AK 0 AI) (h'++[.arr sz 0 e]))\/K pg v h'):ay P f args h K:=by
 refine⟨hc.1,fun w S ρ vs hs hv=> ?_⟩;refine (hc.2 w S ρ vs hs hv).mono fun x w' hR=> ?_;obtain⟨v,x,pg,h',S',ρ',b1,⟨rfl,b2⟩|b2,b3,b4,b5,b6,b7⟩:=hR
 ·obtain⟨hn,ug⟩:=b4.add_nil sz e;refine⟨v,_,pg,_,S',vc ρ' h'.length,b1,b2,?_,ug,⟨b5.os,b5.tape,b5.output,b5.size,b5.mono,b5.cell,b5.news,b5.frame,fun l b C hl=>b5.owned l b C (GV hl).2⟩,?_,fun l hl hp=> ?_⟩
  ·cases b3 with
   |d hd=>cases hd;exact .bi h'.length sz AK 0 AI AK 0 0 AK (by simp[vc]) (by simp) (by simp) (by simp)
  ·simp;omega
  ·unfold vc;rw[if_neg (by omega)];exact b7 l hl hp
 ·exact⟨v,x,pg,h',S',ρ',b1,b2,b3,b4,b5,b6,b7⟩
theorem UD {P:AQ}{A:t7}{rr:Option Nat}{E:Ay}{Sg:A7}(hS:Sg=AR P A rr E){l:Nat}{args:List AV}{h:List ae}{K K':List Nat->AV->List ae->Prop}(hc:lh P l args h K)(hk: ∀pg v h',K pg v h'->K' pg v h'):Sg.X8 l args h K':=by subst hS;exact lh.mono hk hc
theorem Q4 {P:AQ}{A:t7}{E:Ay}{Sg:A7}(hS:Sg=AR P A AK E){st:St}{Q:Lv->St->Prop}{f:ah}{ps:List Nat}{ia ib:gy}{g:AX}{first cap:List AV}(hf:i7 st.ts f= .fn g first cap)
 (h:ay P g (AV.rg (ba first (ba [.yl (az st.h)] cap))) (ba st.h [.loop .ready st.ts ps (fun ca cb=>comp P A ca=AD ia/\comp P A cb=AD ib)]) fun pg _ h2=>TQ (az st.h) st.ts st.mv Q pg h2):
 Sg.range f ps ia ib Q st:=by
 subst hS;exact b9s hf h
theorem lh.cut {P:AQ}{l:Nat}{args:List AV}{h:List ae}{K:List Nat->AV->List ae->Prop}(hc:lh P l args h (fun pg v h'=> ∃h0 v0,py h' h0/\ab v v0/\h.length<=h0.length/\((v0.low h0.length=AE/\u1 h0.length h0=AE)\/h'.length=h0.length)/\K pg v0 h0)):lh P l args h K:=by
 intro w S ρ vs b0 C0 hs hv hρ;refine YieldAt.XO (hc w S ρ vs b0 C0 hs hv hρ) fun e w' he=> ?_;obtain⟨v,x,pg,h',S',ρ',h1,⟨h0,v0,k1,k2,k3,k45,k6⟩,h2,h3,h4,h5,h6⟩:=he;obtain⟨l3,l4⟩:=k1.get;have da: ∀m p,ρ'.cut h0.length m=AD p->m<h0.length/\ρ' m=AD p:=fun m p hp=>by
  unfold lw.cut at hp;split at hp
  ·rename_i h;exact⟨h,hp⟩
  ·cases hp
 by_cases hn:h'.length=h0.length
 ·refine⟨v,v0,pg,h0,S',ρ',h1,k6,k2 _ _ _ _ h2,⟨h3.i0,fun m ob C hl=> ?_,h3.inj,fun m b C o hl ho hf=> ?_⟩,h4,k3,h6⟩
  ·obtain⟨o,q1,q2⟩:=h3.obj m ob C hl;have hm:=(AA.1 q1).1;have q3:h0[m]? =AD (h0[m]'(by omega)):=AB _;exact⟨_,q3,(l4 m o _ q1 q3).holds _ _ _ _ _ q2⟩
  ·obtain⟨o1,q1,q2⟩:=h3.obj m _ C hl;exact h3.own m b C o1 hl q1 ((l4 m o1 o q1 ho).t0 hf)
 obtain⟨k4,k5⟩:=k45.resolve_right hn;refine⟨v,v0,pg,h0,S',ρ'.cut h0.length,h1,k6,(k2 _ _ _ _ h2).cut k4,⟨h3.i0,fun m ob C hl=> ?_,fun m m' b C C' q1 q2=>h3.inj m m' b C C' (da _ _ q1).2 (da _ _ q2).2,fun m b C o hl ho hf=> ?_⟩,?_,k3,fun m hm Wl=> ?_⟩
 ·obtain⟨hm,hl⟩:=da _ _ hl;obtain⟨o,q1,q2⟩:=h3.obj m ob C hl;have q3:h0[m]? =AD (h0[m]'hm):=AB _;refine⟨_,q3,?_⟩;have q4:=(l4 m o _ q1 q3).holds _ _ _ _ _ q2;cases ob with
  |none=>exact q4
  |some b=>exact fv.cut q4 (NA k5 q3)
 ·obtain⟨hm,hl⟩:=da _ _ hl;obtain⟨o1,q1,q2⟩:=h3.obj m _ C hl;exact h3.own m b C o1 hl q1 ((l4 m o1 o q1 ho).t0 hf)
 ·exact⟨h4.os,h4.tape,h4.output,h4.size,h4.mono,h4.cell,h4.news,h4.frame,fun m b C hl=>h4.owned m b C (da _ _ hl).2⟩
 ·have e:ρ'.cut h0.length m=ρ' m:=if_pos (by omega);rw[e];exact h6 m hm Wl
theorem bx.loop {s:Wz}{ts vv:List AV}{ps:List Nat}{code JQ:Code->Code->Prop}(h:fl ts vv)(hc: ∀a b,code a b->JQ a b):bx (.loop s ts ps code) (.loop s vv ps JQ):=by
 refine⟨id,fun w S ρ ob C hh=> ?_⟩;obtain⟨hl,hg⟩:=h.get;cases ob with
 |none=>obtain⟨h1,sz',e1,h2|h2⟩:=hh<;>cases h2
 |some b=>obtain⟨r,h1,h2,h3,h4,h5,h6,h7⟩:=hh;exact⟨r,h1,h2,h3,h4,hc _ _ h5,by omega,ab.cells hl hg h7⟩
theorem v4.heap {w:Ab}{S:Nat->Prop}{ρ:Aq}{h h0:List ae}(h3:A6 w S ρ h)(k1:py h h0)(hn:h.length=h0.length):A6 w S ρ h0:=by
 obtain⟨l3,l4⟩:=k1.get;refine⟨h3.i0,fun m ob C hl=> ?_,h3.inj,fun m b C o hl ho hf=> ?_⟩
 ·obtain⟨o,q1,q2⟩:=h3.obj m ob C hl;have hm:=(AA.1 q1).1;have q3:h0[m]? =AD (h0[m]'(by omega)):=AB _;exact⟨_,q3,(l4 m o _ q1 q3).holds _ _ _ _ _ q2⟩
 ·obtain⟨o1,q1,q2⟩:=h3.obj m _ C hl;exact h3.own m b C o1 hl q1 ((l4 m o1 o q1 ho).t0 hf)
theorem ay.heap {P:AQ}{f:AX}{args:List AV}{h h0:List ae}{K:List Nat->AV->List ae->Prop}(hc:ay P f args h0 K)(k1:py h h0)(hn:h.length=h0.length):ay P f args h K:=
 ⟨hc.1,fun w S ρ vs hs hv=>by rw[hn];exact hc.2 w S ρ vs (hs.heap k1 hn) hv⟩
def fp (E:Ay)(st st':St):Prop:= ∀a w S ρ,Rel E st a w S ρ-> ∃ρ',Rel E st' a w S ρ'
theorem fp.le {E:Ay}{st st':St}(h:Le E.base st st'):fp E st st':=fun _ _ _ _ r=>r.le h
theorem fp.trans {E:Ay}{st st' st'':St}(h:fp E st st')(k:fp E st' st''):fp E st st'':=fun a w S ρ r=>by obtain⟨ρ',r'⟩:=h a w S ρ r;exact k a w S ρ' r'
theorem Ku (l sz:Nat): ∀xs:List AV,HR l sz xs xs
 |[]=>trivial
 |_::xs=>⟨.inl rfl,Ku l sz xs⟩
theorem c2l {l sz:Nat}: ∀{xs:List AV} {i:Nat},ax xs i=AD (.d .nil)->HR l sz xs (b8 xs i (.bi l sz AK 0 AI))
 |[],i,h=>by cases i<;>simp[ax] at h
 |x::xs,0,h=>by simp only[ax,AY] at h;subst h;exact⟨.inr ⟨rfl,rfl⟩,Ku l sz xs⟩
 |x::xs,i+1,h=>by simp only[ax] at h;exact⟨.inl rfl,c2l h⟩
theorem L7 {l sz:Nat}: ∀{h:List ae} {m i:Nat} {cs:List AV},ax h m=AD (.var cs)->ax cs i=AD (.d .nil)->VK l sz h (b8 h m (.var (b8 cs i (.bi l sz AK 0 AI))))
 |[],m,i,cs,h,_=>by cases m<;>simp[ax] at h
 |o::os,0,i,cs,h,hc=>by simp only[ax,AY] at h;subst h;exact⟨.inr ⟨_,_,rfl,rfl,c2l hc⟩,Ts l sz os⟩
 |o::os,m+1,i,cs,h,hc=>by simp only[ax] at h;exact⟨.inl rfl,L7 h hc⟩
theorem fp.ghost {E:Ay}{st:St}{vv:List AV}{h2:List ae}(sz:Nat)(e:Nat->List DV)(ht:HR st.h.length sz st.ts vv)(hh:VK st.h.length sz st.h h2):fp E st ⟨vv,h2++[.arr sz 0 e],st.mv⟩:=by
 intro a w S ρ r;obtain⟨hn,ug⟩:=r.co.WZ sz e hh;have g1:=(Tr hh).1;obtain⟨a1,a2⟩:=Tt (w:=w) (S:=S) hn ht;refine⟨vc ρ st.h.length,⟨⟨by rw[<-a1];exact r.ts.1,fun i y v hy hu=> ?_⟩,?_,ug,⟨r.ext.os,r.ext.tape,r.ext.output,r.ext.size,r.ext.mono,r.ext.cell,r.ext.news,r.ext.frame,fun m b C hl=>r.ext.owned m b C (GV hl).2⟩,fun m hm Wl=> ?_,by have:=r.len;simp;omega⟩⟩
 ·have hi:i<vv.length:=(AA.1 hy).1;have hx:st.ts[i]? =AD (st.ts[i]'(by omega)):=AB _;exact a2 i _ y v hx hy (r.ts.2 i _ v hx hu)
 ·obtain⟨Ds,d1,d2,d3⟩:=r.ds;exact⟨Ds,d1,fun D hD=>⟨(d2 D hD).obj,(d2 D hD).new,fun m C hl=>(d2 D hD).out m C (GV hl).2,(d2 D hD).YN⟩,d3⟩
 ·have:=r.len;unfold vc;rw[if_neg (by omega)];exact r.v9 m hm Wl
theorem fp.gt {E:Ay}{ts:List AV}{h:List ae}{mv:List Nat}(i sz:Nat)(e:Nat->List DV)(hi:ax ts i=AD (.d .nil)):fp E ⟨ts,h,mv⟩ ⟨b8 ts i (.bi h.length sz AK 0 AI),h++[.arr sz 0 e],mv⟩:=
 fp.ghost (st:=⟨ts,h,mv⟩) sz e (c2l hi) (Ts _ _ _)
theorem fp.gh {E:Ay}{ts:List AV}{h:List ae}{mv:List Nat}(m i sz:Nat)(e:Nat->List DV){cs:List AV}(hm:ax h m=AD (.var cs))(hi:ax cs i=AD (.d .nil)):
 fp E ⟨ts,h,mv⟩ ⟨ts,b8 h m (.var (b8 cs i (.bi h.length sz AK 0 AI)))++[.arr sz 0 e],mv⟩:=
 fp.ghost (st:=⟨ts,h,mv⟩) sz e (Ku _ _ _) (L7 hm hi)
section
variable {P:AQ} {A:t7} {ro:Option Nat} {E:Ay} {Sg:A7} {Q:Lv->St->Prop}
def e1r {σ:Type}(E:Ay)(R:σ->Prop)(μ:σ->Nat)(st:σ->St)(Q:Lv->St->Prop)(s:σ):Lv->St->Prop
 | .normal,st'=> ∃s',R s'/\μ s'<μ s/\fp E st' (st s')
 | .exit i,st'=>Q (.exit i) st'
 | .ret,st'=>Q .ret st'
theorem HO (hm:P.follows .mixedOrders=AE)(dp:WO P)(hS:Sg=AR P A ro E){σ:Type}(R:σ->Prop)(μ:σ->Nat)(st:σ->St){ic:gy}{st0:St}(s:σ)(hs:R s)(h0:fp E st0 (st s))
 (h: ∀s,R s-> ∀N:St->Prop,(∀s' st',R s'->μ s'<μ s->fp E st' (st s')->N st')->ev Sg ic (TT N Q) (st s)):Sg.loop ic Q st0:=by
 have h: ∀s,R s->ev Sg ic (e1r E R μ st Q s) (st s):=fun s hs=>by
  have:=h s hs (fun st'=> ∃s',R s'/\μ s'<μ s/\fp E st' (st s')) fun s' st' h1 h2 h3=>⟨s',h1,h2,h3⟩;have e:TT (fun st'=> ∃s',R s'/\μ s'<μ s/\fp E st' (st s')) Q=e1r E R μ st Q s:=by funext lv st';cases lv<;>rfl
  rw[e] at this;exact this
 subst hS;intro c hc a w S ρ hr;obtain⟨ρ1,xw⟩:=h0 a w S ρ hr;clear hr h0;refine A2 (μ s+1) ?_;have hk:μ s<μ s+1:=At _;generalize μ s+1=m at hk⊢
 induction m generalizing s a w S ρ1 with
 |zero=>omega
 |succ m ih=>
  refine wpIn_mono (K5 hm dp c ic hc (h s hs) a w S ρ1 xw) fun e a' w' hp=> ?_;obtain⟨lv,st',S',ρ',h1,h2,h3⟩:=hp;cases lv with
  |normal=>cases e<;>simp[qc] at h1;obtain⟨s',g1,g2,g3⟩:=h2;obtain⟨ρ',h3⟩:=g3 _ _ _ _ h3;exact ih s' g1 a' w' S' ρ' h3 (by omega)
  |exit i=>cases e<;>simp[qc] at h1;subst h1;exact⟨_,st',S',ρ',rfl,h2,h3⟩
  |ret=>cases e<;>simp[qc] at h1;exact⟨_,st',S',ρ',rfl,h2,h3⟩
end
def DL (x y:DV):Prop:= ∀(w:Ab) (S:Nat->Prop) (v:AP),qn w S x v->qn w S y v
def RL (xs ys:List DV):Prop:=xs.length=ys.length/\ ∀(j:Nat) (x y:DV),xs[j]? =AD x->ys[j]? =AD y->DL x y
theorem DL.refl (x:DV):DL x x:=fun _ _ _ h=>h
theorem DL.int {k:Ae}{x y:IX}(h:x.val=y.val):DL (.int k x) (.int k y):=by intro w S v hv;cases hv;rw[h];exact .int k y
theorem RL.refl (xs:List DV):RL xs xs:=⟨rfl,fun j x y h1 h2=>by rw[h1] at h2;cases h2;exact .refl _⟩
theorem RL.nil:RL [] []:= .refl []
theorem RL.cons {x y:DV}{xs ys:List DV}(h:DL x y)(hs:RL xs ys):RL (x::xs) (y::ys):=
 ⟨by simp[hs.1],fun j u v h1 h2=>by
   cases j with
   |zero=>simp at h1 h2;subst h1;subst h2;exact h
   |succ j=>simp at h1 h2;exact hs.2 j u v h1 h2⟩
theorem RL.one {x y:DV}(h:DL x y):RL [x] [y]:= .cons h .nil
theorem RL.back {xs ys:List DV}(h:RL xs ys){w:Ab}{S:Nat->Prop}{f:Nat->AP}(hx: ∀(j:Nat) (x:DV),xs[j]? =AD x->qn w S x (f j)):
 ∀(j:Nat) (y:DV),ys[j]? =AD y->qn w S y (f j):=fun j y hy=>by
 have hj:j<ys.length:=(AA.1 hy).1;have:xs[j]? =AD (xs[j]'(by rw[h.1];exact hj)):=AB _;exact h.2 j _ y this hy w S _ (hx j _ this)
theorem DL.sl {sz n m:Nat}{e e':Nat->List DV}(hn:n=m)(h: ∀i,i<n->RL (e i) (e' i)):DL (.sl sz n e) (.sl sz m e'):=by
 subst hn;intro w S v hv;cases hv with
 |VO _ _ a cap=>exact .VO _ _ _ _
 |sl _ _ _ b off cap f hb hc hl hv hr=>exact .sl sz n e' b off cap f hb hc (fun i hi=>by rw[<-(h i hi).1];exact hl i hi) hv fun i hi j x hx=>(h i hi).back (fun j x hx=>hr i hi j x hx) j x hx
theorem ab.dl {x y:DV}(h:DL x y):ab (.d x) (.d y):=by
 intro w S ρ v hv;cases hv with
 |d hd=>exact .d (h w S v hd)
theorem ab.Zx {sz n m:Nat}{e e':Nat->List DV}(hn:n=m)(h: ∀i,i<n->RL (e i) (e' i)):ab (.d (.sl sz n e)) (.d (.sl sz m e')):= .dl (.sl hn h)
theorem bx.Xd {sz n m:Nat}{e e':Nat->List DV}(hn:n=m)(h: ∀i,i<n->RL (e i) (e' i)):bx (.arr sz n e) (.arr sz m e'):=by
 subst hn;refine⟨id,fun w S ρ ob C hh=> ?_⟩;cases ob with
 |none=>
  obtain⟨h1,sz',e1,h2|h2⟩:=hh
  ·cases h2;exact⟨h1,sz,e',.inl rfl⟩
  ·cases h2
 |some b=>obtain⟨vs,ty,h1,h2,h3,h4⟩:=hh;refine⟨vs,ty,h1,h2,h3,fun i hi=> ?_⟩;obtain⟨h5,h6⟩:=h4 i hi;refine⟨by rw[<-(h i hi).1];exact h5,fun j y v hy hv=> ?_⟩;have hj:j<(e' i).length:=(AA.1 hy).1;have:(e i)[j]? =AD ((e i)[j]'(by rw[(h i hi).1];exact hj)):=AB _;exact (h i hi).2 j _ y this hy w S v (h6 j _ v this hv)
section
variable {P:AQ} {A:t7} {ro:Option Nat} {E:Ay} {Sg:A7}
structure g8j (Sg:A7):Prop where
 t8: ∀a b,Sg.t8 a b=a+b
 Vz: ∀a b,Sg.Vz a b=a-b
 Xg: ∀a b,Sg.Xg a b=a*b
 Xv: ∀a b,Sg.Xv a b=a.tdiv b
 W4: ∀a b,Sg.W4 a b=a.tmod b
 Wc: ∀k a,Sg.Wc k a=k.wrap a
 Vu: ∀a b,Sg.Vu a b=decide (a<b)
 WA: ∀a b,Sg.WA a b=decide (a<=b)
 md: ∀a b,Sg.md a b=(a==b)
 VY: ∀c a b,Sg.VY c a b=if c then a else b
 jp: ∀a,Sg.jp a=!a
 V4: ∀a b,Sg.V4 a b=(a&&b)
 beq: ∀a b,Sg.beq a b=(a==b)
 ofNat: ∀n,Sg.ofNat n=(n:Int)
 toNat: ∀n,Sg.toNat n=n.toNat
 fd: ∀a b,Sg.fd a b=a+b
 T9: ∀a b,Sg.T9 a b=a-b
 wp: ∀a b,Sg.wp a b=a*b
 Zr: ∀a b,Sg.Zr a b=decide (a<b)
 WU: ∀a b,Sg.WU a b=min b a
 Yq: ∀e i row j,Sg.Yq e i row j=if j=i then row else e j
 app: ∀n e e2 j,Sg.app n e e2 j=if j<n then e j else e2 (j-n)
 shift: ∀e s j,Sg.shift e s j=e (s+j)
 rep: ∀n zs j,Sg.rep n zs j=if j<n then zs else []
 put: ∀WQ m e e2 j,Sg.put WQ m e e2 j=if WQ<=j/\j<WQ+m then e2 (j-WQ) else e j
 W6: ∀f k,Sg.W6 f k=(f k).getD 0
 WG: ∀f k,Sg.WG f k=(f k).isSome
 Xx: ∀f k v k',Sg.Xx f k v k'=if k'=k then AD v else f k'
 WF: ∀f k n,Sg.WF f k n=if (f k).isSome then n else n+1
theorem fh (hS:Sg=AR P A ro E):g8j Sg:=by
 subst hS;refine⟨?_,?_,?_,?_,?_,?_,?_,?_,?_,?_,?_,?_,?_,?_,?_,?_,?_,?_,?_,?_,?_,?_,?_,?_,?_,?_,?_,?_,?_⟩
 all_goals first|exact fun _=>rfl|exact fun _ _=>rfl|exact fun _ _ _=>rfl|exact fun _ _ _ _=>rfl|exact fun _ _ _ _ _=>rfl|exact fun a b=>Nat.min_comm _ _
theorem qw (hS:Sg=AR P A ro E){z:Int}{n:Nat}(h:0<=z/\z<n):Sg.Yv z n:=by subst hS;exact h
theorem gf (hS:Sg=AR P A ro E){i n:Nat}(h:i<n):Sg.Yv (AS i) n:=by subst hS;exact⟨Ap i,A3.2 h⟩
theorem ru (hS:Sg=AR P A ro E){z:Int}(h: -9223372036854775808<=z/\z<=9223372036854775807):Sg.inr .i64 z:=by subst hS;exact e7 h.1 h.2
theorem Jq (hS:Sg=AR P A ro E){a b:Int}(h: -9223372036854775808<=a+b/\a+b<=9223372036854775807):Sg.inr .i64 (Sg.t8 a b):=by subst hS;exact e7 h.1 h.2
theorem a9o (hS:Sg=AR P A ro E){a b:Int}(h: -9223372036854775808<=a-b/\a-b<=9223372036854775807):Sg.inr .i64 (Sg.Vz a b):=by subst hS;exact e7 h.1 h.2
theorem d4s (hS:Sg=AR P A ro E){a b:Int}{n:Nat}(h:0<=a-b/\a-b<n):Sg.Yv (Sg.Vz a b) n:=by subst hS;exact h
theorem Im (hS:Sg=AR P A ro E){z:Int}(h:0<=z/\z<=255):Sg.inr .u8 z:=by subst hS;simp[AR,Aw,Ax,Ao];omega
theorem HJ (hS:Sg=AR P A ro E){a b:Nat}(h:a<b):Sg.VZ a b:=by subst hS;exact h
theorem tq (hS:Sg=AR P A ro E){a b:Nat}(h:a<=b):Sg.VN a b:=by subst hS;exact h
theorem uh (hS:Sg=AR P A ro E){a b c:Nat}(h:a+b<=c):Sg.VN (Sg.fd a b) c:=by subst hS;exact h
theorem mc (hS:Sg=AR P A ro E){a:AV}:Sg.same a a:=by subst hS;rfl
theorem HH (hS:Sg=AR P A ro E){a b:Int}(h:a<=b):Sg.ut a b:=by subst hS;exact h
theorem i4a (hS:Sg=AR P A ro E){a b:Nat}(h:a<=b):Sg.ut (Sg.ofNat a) (Sg.ofNat b):=by subst hS;exact A4.2 h
theorem i4c (hS:Sg=AR P A ro E){a:Nat}:Sg.ut (AS 0) (Sg.ofNat a):=by subst hS;exact Ap a
theorem i6p (hS:Sg=AR P A ro E){a:Int}(h:a≠0):Sg.nz a:=by subst hS;exact h
theorem ji (hS:Sg=AR P A ro E){i:Nat}(h:i<=1000000000000):Sg.inr .i64 (Sg.t8 (AS i) (AS 1)):=
 ru hS (by rw[(fh hS).t8];simp only[Int.ofNat_eq_natCast];omega)
theorem je (hS:Sg=AR P A ro E){i:Nat}:ab (.d (.int .i64 (.v (Sg.t8 (AS i) (AS 1))))) (.d (.int .i64 (.v ((i+1:Nat):Int)))):=
 br (by rw[(fh hS).t8];rfl)
theorem ry (hS:Sg=AR P A ro E){a b:Int}(h:Sg.Vu a b=AE):a<b:=by subst hS;simpa [AR] using h
theorem s9 (hS:Sg=AR P A ro E){a b:Int}(h:Sg.Vu a b=AI):b<=a:=by subst hS;simpa [AR] using h
theorem tw (hS:Sg=AR P A ro E){a b:Nat}(h:Sg.Vu (AS a) (Sg.ofNat b)=AE):a<b:=by have:=ry hS h;rw[(fh hS).ofNat] at this;exact A3.1 this
theorem tz (hS:Sg=AR P A ro E){a b:Nat}(h:Sg.Vu (AS a) (Sg.ofNat b)=AI):b<=a:=by have:=s9 hS h;rw[(fh hS).ofNat] at this;exact A4.1 this
theorem e3n (hS:Sg=AR P A ro E){a b:Int}(h:Sg.WA a b=AE):a<=b:=by subst hS;simpa [AR] using h
theorem Vg (hS:Sg=AR P A ro E){a b:Int}(h:Sg.WA a b=AI):b<a:=by subst hS;simpa [AR] using h
theorem e2h (hS:Sg=AR P A ro E){a b:Int}(h:Sg.md a b=AE):a=b:=by subst hS;simpa [AR] using h
theorem Ve (hS:Sg=AR P A ro E){a b:Int}(h:Sg.md a b=AI):a≠b:=by subst hS;simpa [AR] using h
theorem e8q (hS:Sg=AR P A ro E){a b:Int}(h:Sg.jp (Sg.md a b)=AE):a≠b:=by subst hS;simpa [AR] using h
theorem e8o (hS:Sg=AR P A ro E){a b:Int}(h:Sg.jp (Sg.md a b)=AI):a=b:=by subst hS;simpa [AR] using h
theorem yc (hS:Sg=AR P A ro E){sz n:Nat}{e e2 e':Nat->List DV}(h1: ∀j,j<n->RL (e j) (e' j))(h2:RL (e2 0) (e' n)):bx (.arr sz (Sg.fd n 1) (Sg.app n e e2)) (.arr sz (n+1) e'):=by
 refine bx.Xd (by rw[(fh hS).fd]) fun j hj=> ?_;rw[(fh hS).fd] at hj;rw[(fh hS).app];by_cases h:j<n
 ·rw[if_pos h];exact h1 j h
 ·obtain rfl:j=n:=by omega
  rw[if_neg h,Aj];exact h2
theorem h8m (hS:Sg=AR P A ro E){sz n:Nat}{zs:List DV}{e':Nat->List DV}(h1: ∀j,j<n->RL zs (e' j)):bx (.arr sz n (Sg.rep n zs)) (.arr sz n e'):=by refine bx.Xd rfl fun j hj=> ?_;rw[(fh hS).rep,if_pos hj];exact h1 j hj
theorem w7 (hS:Sg=AR P A ro E){l sz n:Nat}{s:Option Nat}{f:Bool}:ab (.bi l sz s (Sg.fd n 1) f) (.bi l sz s (n+1) f):=by rw[(fh hS).fd];exact ab.refl _
theorem h8j (hS:Sg=AR P A ro E){sz n i:Nat}{row:List DV}{e e':Nat->List DV}(h1: ∀j,j<n->j≠i->RL (e j) (e' j))(h2:i<n->RL row (e' i)):bx (.arr sz n (Sg.Yq e i row)) (.arr sz n e'):=by
 refine bx.Xd rfl fun j hj=> ?_;rw[(fh hS).Yq];by_cases h:j=i
 ·subst h;rw[if_pos rfl];exact h2 hj
 ·rw[if_neg h];exact h1 j hj h
end
theorem au.XQ {P:AQ}{f:AX}{args:List AV}{K:List Nat->AV->List ae->Prop}{r:AV}(hc:ay P f args [] K)
 (hk: ∀(E:Ay) (Sg:A7),Sg=AR P ⟨[],[]⟩ AK E-> ∀pg v h',K pg v h'->uv Sg h' v fun v' _=>sd [v']=AE/\ab v' r):au P AI f args r:=by
 refine⟨hc.1,fun w S vs hS hv=> ?_⟩;have hs:A6 w S my []:=⟨hS,fun _ _ _ h=>(by cases h),fun _ _ _ _ _ h=>(by cases h),fun _ _ _ _ h=>(by cases h)⟩;refine (hc.2 w S my vs hs hv).mono fun e w' hR=> ?_;obtain⟨v,x,pg,h',S',ρ',h1,h2,h3,h4,h5,_⟩:=hR;obtain⟨x',yr,S2,⟨vo,Hm⟩,k,jh⟩:=Sn h4 h3 (hk ⟨w,S,my,0,[]⟩ _ rfl pg x h' h2);have e2:=h5.trans k.W0.ext;have Nm:VR w' S2 my x' v:=Sl (vs:=[v]) vo (fun i y u hy hu=>by
  cases i with
  |zero=>simp at hy hu;subst hy;subst hu;exact jh
  |succ i=>simp at hy) 0 x' v rfl rfl
 refine⟨v,S2,h1,Hm _ _ _ _ Nm,fun b hb=> ?_,⟨h5.os,h5.tape,h5.output,h5.size,fun b hb=>h5.frame b hb (fun l C h=>by cases h)⟩⟩;rcases e2.news b hb with h|h|⟨l,C,h⟩
 ·exact .inl ⟨rfl,h⟩
 ·exact .inr ⟨h,k.co.i0 b hb⟩
 ·cases h
def QU (p:Option (Option Nat×Nat)):Aq:=fun m=>if m=0 then p else AK
theorem QV {p:Option (Option Nat×Nat)}{m:Nat}{q:Option Nat×Nat}(h:QU p m=AD q):m=0/\p=AD q:=by
 unfold QU at h;split at h
 ·rename_i e;exact⟨e,h⟩
 ·cases h
section
variable {P:AQ} {f:AX} {args:List AV} {sz n:Nat} {e:Nat->List DV}
end
section
variable {H:Type} {enc:TypeId×AP->H} {P:AQ} {w:Ab} {spare:Nat->Bool} {held:Bool}
def Gw (w:Ab)(b:Nat):Prop:=b<w.heap.size
def Row (w:Ab)(xs:List DV)(cs:List AP):Prop:=xs.length=cs.length/\ ∀(j:Nat) (x:DV) (v:AP),xs[j]? =AD x->cs[j]? =AD v->qn w (Gw w) x v
theorem c6d {a:Addr}{v:AP}(h:w.cell? a=AD v):a.spot=AK/\a.block<w.heap.size:=by
 unfold World.cell? at h;split at h
 ·rename_i c _ _ hb;refine⟨?_,(Array.getElem?_eq_some_iff.1 hb).1⟩;split at h
  ·cases h
  ·rename_i hs;cases hh:a.spot with
   |none=>rfl
   |some s=>simp[hh] at hs
 ·cases h
theorem d8i {a:Addr}(h:a.spot=AK)(m j:Nat):(a.add m).add j=⟨a.block,a.off+m+j,AK⟩:=by obtain⟨b,o,s⟩:=a;simp only at h;subst h;unfold Addr.add;by_cases h1:m=0<;>by_cases h2:j=0<;>simp[h1,h2]
theorem T2 {t e:TypeId}(ht:P.underlying t=AD (.slice e)){fuel:Nat}{cs:List AP}{x:DataW H×List A5}(h:DataW.trod enc P w 0 spare held fuel t cs=AD x)
 {α:Type} [Inhabited α] (row:α->List DV) (R:α->Prop) {sz:Nat} (bl:P.cellsOf e=sz) (fz:0<sz)
 (ft: ∀(n:Nat) (cs:List AP) (y:DataW H×List A5),cs.length=sz->DataW.trod enc P w 0 spare held n e cs=AD y-> ∃z:α,R z/\Row w (row z) cs):
 ∃(v:AP) (n:Nat) (f:Nat->α),cs=[v]/\qn w (Gw w) (.sl sz n fun i=>row (f i)) v/\ ∀i,i<n->R (f i):=by
 classical
 rcases DataW.trod_slice ht h with⟨rfl,_⟩|⟨a,len,cap,elems,rest,n,_,rfl,_,_,hlc,_,Nf,jd,_⟩
 ·exact⟨_,0,fun _=>default,rfl,.VO _ _ _ _,fun i hi=>by omega⟩
 rw[bl] at jd;have hex: ∀i,i<len-> ∃(cs:List AP) (z:α),cs.length=sz/\R z/\Row w (row z) cs/\ ∀j,j<sz->w.cell? ((a.add (i*sz)).add j)=cs[j]? :=fun i hi=>by have h1:=jd i hi;have h2:elems[i]? =AD (elems[i]'(by omega)):=AB _;rw[h2,Option.bind_eq_some_iff] at h1;obtain⟨cs,h3,h4⟩:=h1;obtain⟨_,h5,h6⟩:=World.cells?_some h3;obtain⟨z,h7,h8⟩:=ft n cs _ h5 h4;exact⟨cs,z,h5,h7,h8,h6⟩
 by_cases h0:len=0
 ·subst h0;exact⟨_,0,fun _=>default,rfl,.VO _ _ _ _,fun i hi=>by omega⟩
 have Kj:a.spot=AK/\a.block<w.heap.size:=by obtain⟨cs,z,h1,_,_,h4⟩:=hex 0 (by omega);have h5:=h4 0 fz;have h6:cs[0]? =AD (cs[0]'(by omega)):=AB _;rw[h6] at h5;simpa [Addr.add] using c6d h5
 obtain⟨C,hC⟩: ∃C:Nat->List AP×α,∀i,i<len->(C i).1.length=sz/\R (C i).2/\Row w (row (C i).2) (C i).1/\ ∀j,j<sz->w.cell? ((a.add (i*sz)).add j)=(C i).1[j]? :=
  ⟨fun i=>if hi:i<len then ((hex i hi).choose,(hex i hi).choose_spec.choose) else ([],default),fun i hi=>by simp only[dif_pos hi];exact (hex i hi).choose_spec.choose_spec⟩
 obtain⟨b,off,s⟩:=a;simp only at Kj;obtain⟨rfl,hb⟩:=Kj;refine⟨_,len,fun i=>(C i).2,rfl,.sl sz len _ b off cap (fun i j=>((C i).1[j]?).getD undef) (fun _=>hb) hlc (fun i hi=>(hC i hi).2.2.1.1.trans (hC i hi).1) (fun i hi j hj=> ?_) (fun i hi j x hx=> ?_),fun i hi=>(hC i hi).2.1⟩
 ·have h1:=(hC i hi).2.2.2 j hj;rw[d8i rfl] at h1;have h2:(C i).1[j]? =AD ((C i).1[j]'(by rw[(hC i hi).1];exact hj)):=AB _;rw[h1,h2];rfl
 ·have hj:j<(row (C i).2).length:=(AA.1 hx).1;have hlen:(row (C i).2).length=(C i).1.length:=(hC i hi).2.2.1.1;have h2:(C i).1[j]? =AD ((C i).1[j]'(by omega)):=AB _;rw[h2];exact (hC i hi).2.2.1.2 j x _ hx h2
theorem Nt {t:TypeId}{k:Ae}(ht:P.underlying t=AD (.int k)){fuel:Nat}{cs:List AP}{x:DataW H×List A5}(h:DataW.trod enc P w 0 spare held fuel t cs=AD x):
 ∃z:Int,(k.min<=z/\z<=k.max)/\cs=[.int k z]:=by
 obtain⟨n,h1,_,h3⟩:=DataW.trod_int ht h;simp[Lit.wf] at h3;exact⟨n,h3,h1⟩
theorem Q9 {x:DV}{v:AP}(h:qn w (Gw w) x v):Row w [x] [v]:=by
 refine⟨rfl,fun j y u hy hu=> ?_⟩;cases j with
 |zero=>simp at hy hu;subst hy;subst hu;exact h
 |succ j=>simp at hy
theorem Kz {x:DV}{v:AP}{xs:List DV}{cs:List AP}(h:qn w (Gw w) x v)(hs:Row w xs cs):Row w (x::xs) (v::cs):=by
 refine⟨by simp[hs.1],fun j y u hy hu=> ?_⟩;cases j with
 |zero=>simp at hy hu;subst hy;subst hu;exact h
 |succ j=>simp at hy hu;exact hs.2 j y u hy hu
end
theorem HQ {a b:Nat}(h:a≠b):Ak a b=AI:=by
 cases hb:Ak a b
 ·rfl
 ·exact absurd (Nat.eq_of_beq_eq_true hb) h
theorem j7q (a:Nat):Ak a a=AE:=Nat.beq_refl a
theorem HP (a b:Nat):Nat.beq.match_1 (fun _ _=>Bool) a b (fun _=>AE) (fun _=>AI) (fun _=>AI) (fun n m=>Ak n m)=Ak a b:=by cases a<;>cases b<;>rfl
section
variable {α:Type}
theorem Jv (l:List α)(i:Nat)(x:α):az (b8 l i x)=az l:=by rw[cv,cv,fg,List.length_set]
theorem jr (l m:List α):az (ba l m)=az l+az m:=by rw[cv,cv,cv,fi,List.length_append]
theorem Gg {l:List α}{i j:Nat}{x:α}(h:i≠j):ax (b8 l i x) j=ax l j:=by rw[cy,cy,fg,Aa h]
theorem Ju {l:List α}{i:Nat}{x:α}(h:ax l i=AD x):i<az l:=by rw[cy] at h;rw[cv];exact (AA.1 h).1
theorem Ny {l:List α}{i:Nat}{x:α}(h:i<az l):ax (b8 l i x) i=AD x:=by rw[cv] at h;rw[cy,fg,AT];simp[h]
theorem Th {l:List α}{i:Nat}(h:i<az l): ∃x,ax l i=AD x:=by rw[cv] at h;exact⟨l[i],by rw[cy,AB h]⟩
theorem j8s {l m:List α}{i:Nat}(h:i<az l):ax (ba l m) i=ax l i:=by rw[cv] at h;rw[cy,cy,fi,AF h]
theorem j8n {l m:List α}{i:Nat}(h:az l<=i):ax (ba l m) i=ax m (i-az l):=by rw[cv] at h⊢;rw[cy,cy,fi,AN h]
theorem tf {l m:List α}{i:Nat}{x:α}(h:ax l i=AD x):ax (ba l m) i=AD x:=by rw[j8s (Ju h),h]
theorem j9i (l m:List α):ax (ba l m) (az l)=ax m 0:=by rw[j8n (Af _),Aj]
theorem j9x (l m:List α):ax (ba l m) (az l+1)=ax m 1:=by rw[j8n (by omega),AU]
theorem Tg {l:List α}{n:Nat}(h:az l=n)(m:List α):ax (ba l m) n=ax m 0:=by rw[<-h];exact j9i l m
theorem k0s {l:List α}{n:Nat}(h:az l=n)(m:List α):ax (ba l m) (n+1)=ax m 1:=by rw[<-h];exact j9x l m
theorem j9k {l:List α}{n:Nat}(h:az l=n)(m:List α):ax (ba l m) (n+2)=ax m 2:=by rw[<-h,j8n (by omega),AU]
theorem QN {l m:List α}{i:Nat}{x:α}(h:i<az l):b8 (ba l m) i x=ba (b8 l i x) m:=by rw[cv] at h;rw[fg,fg,fi,fi,List.set_append_left _ _ h]
theorem j9j (l m:List α)(x:α):b8 (ba l m) (az l) x=ba l (b8 m 0 x):=by rw[fg,fg,fi,fi,cv,Al _ _ (Af _),Aj]
theorem j9z (l m:List α)(x:α):b8 (ba l m) (az l+1) x=ba l (b8 m 1 x):=by rw[fg,fg,fi,fi,cv,Al _ _ (by omega),AU]
theorem j9h {l:List α}{n:Nat}(h:az l=n)(m:List α)(x:α):b8 (ba l m) n x=ba l (b8 m 0 x):=by rw[<-h];exact j9j l m x
theorem k1z {l:List α}{n:Nat}(h:az l=n)(m:List α)(x:α):b8 (ba l m) (n+1) x=ba l (b8 m 1 x):=by rw[<-h];exact j9z l m x
theorem mg (l m k:List α):ba (ba l m) k=ba l (ba m k):=by simp only[fi,List.append_assoc]
end
theorem j9b (l:Nat)(a:Bool)(h:List ae):az (pq l a h)=az h:=by rw[cv,cv,JT,AJ]
theorem Nx {h:List ae}{l:Nat}{a:Bool}{i:Nat}{o:ae}(hg:ax h i=AD o):ax (pq l a h) i=AD (o.forget l a):=by rw[cy] at hg⊢;rw[K8,hg];rfl
theorem JU (l:Nat)(a:Bool)(h m:List ae):pq l a (ba h m)=ba (pq l a h) (pq l a m):=by simp only[JT,fi,List.map_append]
theorem py.Wx: ∀{h h':List ae},h'.length<=h.length->(∀(i:Nat) (o o':ae),h[i]? =AD o->h'[i]? =AD o'->bx o o')->py h h'
 |_,[],_,_=> .nil _
 |[],_::_,hl,_=>by simp at hl
 |o::h,o'::h',hl,hg=> .cons (hg 0 o o' rfl rfl) (py.Wx (by simpa using hl) fun i a b ha hb=>hg (i+1) a b (by simpa using ha) (by simpa using hb))
theorem bx.dz {wide:Bool}{ks:List Ae}{keys:List (List KC)}{vs us:List AV}(h:fl vs us):bx (.dz wide ks keys vs) (.dz wide ks keys us):=by
 refine⟨id,fun w S ρ ob C hh=> ?_⟩;obtain⟨hl,hg⟩:=h.get;cases ob with
 |none=>obtain⟨h1,sz',e1,h2|h2⟩:=hh<;>cases h2
 |some b=>obtain⟨es,clock,h1,h2,⟨h3,h4⟩,h5⟩:=hh;refine⟨es,clock,h1,h2,⟨by omega,h4⟩,fun i x e hx he=> ?_⟩;have hlt:=(AA.1 hx).1;have te:vs[i]? =AD (vs[i]'(by omega)):=AB _;exact hg i _ x te hx _ _ _ _ (h5 i _ e te he)
theorem Vj {l n:Nat}{sz:Nat}{P c:Nat->Nat}: ∀{m:Nat},(∀j,n<=j->j<n+m->P j≠l)->AO l AI ((AZ n m).map fun j=> .bi (P j) sz AK (c j) AI)=(AZ n m).map fun j=> .bi (P j) sz AK (c j) AI
 |0,_=>rfl
 |m+1,h=>by have ih:=Vj (l:=l) (n:=n+1) (sz:=sz) (P:=P) (c:=c) (m:=m) fun j h1 h2=>h j (by omega) (by omega);simp only[List.range'_succ,List.map_cons,AO,AL];rw[ih];simp only[AH,if_false,HQ (Ne.symm (h n (by omega) (by omega)))]
theorem j9n (l:Nat)(a:Bool): ∀(vs:List AV) (i:Nat),(AO l a vs)[i]? =(vs[i]?).map (AL l a)
 |[],_=>rfl
 |v::vs,0=>by simp[AO]
 |v::vs,i+1=>by simp only[AO,List.getElem?_cons_succ];exact j9n l a vs i
theorem j8v (l:Nat)(a:Bool): ∀vs:List AV,az (AO l a vs)=az vs
 |[]=>rfl
 |v::vs=>by simp only[AO,az,j8v l a vs]
theorem k1n {l sz c m:Nat}{P cn:Nat->Nat}{x:AV}(h: ∀j,j<m->j≠c->P j≠l):
 b8 (AO l AI ((AZ 0 m).map fun j=> .bi (P j) sz AK (cn j) AI)) c x=b8 ((AZ 0 m).map fun j=> .bi (P j) sz AK (cn j) AI) c x:=by
 rw[fg,fg];refine List.ext_getElem? fun j=> ?_;rw[AT,AT,<-cv,<-cv,j8v];by_cases e:c=j
 ·rw[if_pos e,if_pos e]
 rw[if_neg e,if_neg e,j9n];cases hr:((AZ 0 m).map fun j=>AV.bi (P j) sz AK (cn j) AI)[j]? with
 |none=>rfl
 |some t=>have hj:=(AA.1 hr).1;rw[AJ,List.length_range'] at hj;rw[AC,List.getElem?_range' hj] at hr;simp only[An,Nat.one_mul,Nat.zero_add,AY] at hr;subst hr;simp only[An,AL,AH,if_false,HQ (Ne.symm (h j hj (Ne.symm e)))]
def RR (k:Nat)(H C:List ae):Prop:= ∀x,x<k->ax H x=ax C x
theorem Gn: ∀l:List Nat,KJ l l=AE:=fun l=>by
 have: ∀m:List Nat,(∀i,i∈m->i∈l)->KJ m l=AE:=fun m=>by
  induction m with
  |nil=>intro _;rfl
  |cons x m ih=>intro h;simp only[KJ,AG];exact⟨w6.2 (h x (by simp)),ih fun i hi=>h i (List.mem_cons_of_mem _ hi)⟩
 exact this l fun _ h=>h
section
variable {w:Ab} {S S2:Nat->Prop} {ρ:Aq} {h:List ae}
end
theorem lh.frame {P:AQ}{l l':Nat}{args args':List AV}{h:List ae}{K:List Nat->AV->List ae->Prop}(hc:lh P l args h K){H:List ae}(pos:List Nat)(im:pos.Nodup)(bu:l'=oc pos (az H) l)
 (ha:args'=AV.ul (oc pos (az H)) args) (hH:Oo H pos (uj (oc pos (az H)) h)):lh P l' args' H (Si H pos K):=by
 intro w S ρ vs b0 C0 hs hv hρ;unfold Si;rw[cv] at ha hH bu⊢;generalize hπ:oc pos H.length=π at ha hH bu⊢;obtain⟨a1,a2⟩:=UQ hH;rw[u2,AJ] at a1;have hlt: ∀l,l∈pos->l<H.length:=fun l hl=>by obtain⟨i,hi⟩:=AM hl;have fw:=(AA.1 hi).1;have ho:h[i]? =AD (h[i]'(by omega)):=AB _;obtain⟨o',h1,_⟩:=a2 i l _ hi (by rw[u2,AC,ho];rfl);exact (AA.1 h1).1
 have πlt: ∀i,i<h.length->pos[i]? =AD (π i):=fun i hi=>by rw[<-hπ];exact QZ (by omega)
 have πge: ∀i,h.length<=i->π i=H.length+(i-h.length):=fun i hi=>by rw[<-hπ,h9d (by omega),a1]
 have πmem: ∀i,i<h.length->π i∈pos:=fun i hi=>Am (πlt i hi);have πinj: ∀i j,π i=π j->i=j:=fun i j e=>by
  by_cases hi:i<h.length
  ·by_cases hj:j<h.length
   ·have h1:=πlt i hi;have h2:=πlt j hj;rw[<-e] at h2;obtain⟨q1,q2⟩:=AA.1 h1;obtain⟨q3,q4⟩:=AA.1 h2;have hp:=Ah.1 im;rcases Ar i j with yx|yx|yx
    ·exact absurd (q2.trans q4.symm) (hp i j q1 q3 yx)
    ·exact yx
    ·exact absurd (q4.trans q2.symm) (hp j i q3 q1 yx)
   ·have:=hlt _ (πmem i hi);have:=πge j (by omega);omega
  ·by_cases hj:j<h.length
   ·have:=hlt _ (πmem j hj);have:=πge i (by omega);omega
   ·have:=πge i (by omega);have:=πge j (by omega);omega
 have iu: ∀l,H.length<=l->ρ l=AK:=fun l hl=>by
  cases hr:ρ l with
  |none=>rfl
  |some p=>obtain⟨o,h1,_⟩:=hs.obj l p.1 p.2 hr;have:=(AA.1 h1).1;omega
 have LM:A6 w S (fun i=>ρ (π i)) h:=by
  refine⟨hs.i0,fun i ob C hi=> ?_,fun i j b C C' h1 h2=>πinj _ _ (hs.inj _ _ b C C' h1 h2),fun i b C o hi ho hf=> ?_⟩
  ·by_cases hil:i<h.length
   ·have ho:h[i]? =AD (h[i]'hil):=AB _;obtain⟨o',h1,h2⟩:=a2 i (π i) _ (πlt i hil) (by rw[u2,AC,ho];rfl);obtain⟨o2,h3,h4⟩:=hs.obj (π i) ob C hi;rw[h1] at h3;cases h3;refine⟨_,ho,?_⟩;have h5:=h2.holds _ _ _ _ _ h4;cases ob with
    |none=>obtain⟨hC,sz',e',h6⟩:=h5;refine⟨hC,sz',e',?_⟩;cases hoo:h[i]'hil<;>rw[hoo] at h6<;>simp[ae.ml] at h6⊢ <;>exact h6
    |some b=>exact fv.Vs h5
   ·have:=iu (π i) (by have:=πge i (by omega);omega);rw[this] at hi;cases hi
  ·have hil:=(AA.1 ho).1;obtain⟨o',h1,h2⟩:=a2 i (π i) _ (πlt i hil) (by rw[u2,AC,ho];rfl);exact hs.own (π i) b C o' hi h1 (h2.t0 (by rw[Q5];exact hf))
 have qu:Vw w S (fun i=>ρ (π i)) args vs:=by subst ha;refine⟨by have:=hv.1;rw[AV.f8] at this;simpa using this,fun i x v hx fc=>(hv.2 i (x.ml π) v (by rw[AV.f8,AC,hx];rfl) fc).Vs rfl⟩
 refine YieldAt.XO (hc w S _ vs b0 C0 LM qu (by rw[bu] at hρ;exact hρ)) fun e w' he=> ?_;obtain⟨v,x,pg,h',S',ρ1,he,hk,pd,hsim,hext,hlen,VE⟩:=he;obtain⟨ρ',r1,r2⟩: ∃ρ':Aq,(∀i,ρ' (π i)=ρ1 i)/\(∀l,l<H.length->l∉pos->ρ' l=ρ l):=by
  classical
  refine⟨fun l=>if hl: ∃i,π i=l then ρ1 hl.choose else ρ l,fun i=> ?_,fun l hl hp=> ?_⟩
  ·have hex: ∃j,π j=π i:=⟨i,rfl⟩;simp only[dif_pos hex];rw[πinj _ _ hex.choose_spec]
  ·have: ¬ ∃i,π i=l:=fun⟨i,hi⟩=>by
    by_cases hil:i<h.length
    ·exact hp (hi▸πmem i hil)
    ·have:=πge i (by omega);omega
   simp only[dif_neg this]
 have eo: ∀l,(l<H.length/\l∉pos)\/ ∃i,π i=l:=fun l=>by
  by_cases hl:l<H.length
  ·by_cases hp:l∈pos
   ·obtain⟨i,hi⟩:=AM hp;have fw:=(AA.1 hi).1;have:=πlt i (by omega);rw[hi] at this;exact .inr ⟨i,(Ai this).symm⟩
   ·exact .inl ⟨hl,hp⟩
  ·exact .inr ⟨h.length+(l-H.length),by have:=πge (h.length+(l-H.length)) (by omega);omega⟩
 have mo: ∀l p,l∉pg.map π->ρ l=AD p->ρ' l=AD p:=fun l p hl hp=>by
  rcases eo l with⟨h1,h2⟩|⟨i,rfl⟩
  ·rw[r2 l h1 h2];exact hp
  ·rw[r1];by_cases hil:i<h.length
   ·rw[VE i hil (fun hm=>hl (Ad.2 ⟨i,hm,rfl⟩))];exact hp
   ·have:=iu (π i) (by have:=πge i (by omega);omega);rw[this] at hp;cases hp
 have Ho: ∀l,l<H.length->l∉pg.map π->ρ' l=ρ l:=fun l hl hn=>by
  rcases eo l with⟨h1,h2⟩|⟨i,rfl⟩
  ·exact r2 l h1 h2
  ·have hil:i<h.length:=Au fun hle=>by have:=πge i hle;omega
   rw[r1,VE i hil (fun hm=>hn (Ad.2 ⟨i,hm,rfl⟩))]
 have tc:(uu (pg.map π) H).length=H.length:=Vk _ _;have v8:pos.length<=(uj π h').length:=by rw[u2,AJ];omega
 have jv: ∀l,l∈pos->l<(uu (pg.map π) H).length:=fun l hl=>by rw[tc];exact hlt l hl
 have jd: ∀i o,h'[i]? =AD o->(wh (uu (pg.map π) H) pos (uj π h'))[π i]? =AD (o.ml π):=fun i o hi=>by have hil:=(AA.1 hi).1;have:=TX (H:=uu (pg.map π) H) (os:=uj π h') (i:=i) im jv v8 (by rw[u2,AJ];exact hil);rw[tc,hπ] at this;rw[this,u2,AC,hi];rfl
 have p9: ∀l b C,l<H.length->l∉pos->ρ l=AD (AD b,C)->w'.heap[b]? =w.heap[b]? /\ ¬ ∃i C',ρ1 i=AD (AD b,C'):=fun l b C hl hp hr=>by
  have hb:=hs.V2 hr;have jn: ∀i C',ρ (π i)≠AD (AD b,C'):=fun i C' h1=>by
   have:=hs.inj _ _ b _ _ hr h1;subst this;by_cases hil:i<h.length
   ·exact hp (πmem i hil)
   ·have:=πge i (by omega);omega
  refine⟨hext.frame b hb jn,fun⟨i,C',h1⟩=> ?_⟩;rcases hext.owned i b C' h1 with h2|⟨j,C2,h2⟩
  ·omega
  ·exact jn j C2 h2
 have Hx:A6 w' S' ρ' (wh (uu (pg.map π) H) pos (uj π h')):=by
  refine⟨hsim.i0,fun l ob C hl=> ?_,fun l l' b C C' h1 h2=> ?_,fun l b C o hl ho hf=> ?_⟩
  ·rcases eo l with⟨h1,h2⟩|⟨i,rfl⟩
   ·rw[r2 l h1 h2] at hl;obtain⟨o,h3,h4⟩:=hs.obj l ob C hl;refine⟨yq (pg.map π) o,by rw[Mc (by rw[tc];exact h1) h2,OO,h3];rfl,?_⟩;cases ob with
    |none=>
     obtain⟨hC,sz',e',h6⟩:=h4;refine⟨hC,sz',e',?_⟩;have: ∀(pg:List Nat) (o:ae),(o= .arr sz' 0 e'\/o= .t0 sz' 0 e')->yq pg o=o:=by
      intro pg
      induction pg with
      |nil=>intro o _;rfl
      |cons l pg ih=>intro o h;rw[yq];rcases h with rfl|rfl<;>exact ih _ (by simp[AW])
     rw[this _ _ h6];exact h6
    |some b=>exact fv.Wk hext.mono hext.cell (p9 l b C h1 h2 hl).1 _ mo h4
   ·rw[r1] at hl;obtain⟨o,h3,h4⟩:=hsim.obj i ob C hl;refine⟨_,jd i o h3,?_⟩;cases ob with
    |none=>
     obtain⟨hC,sz',e',h6⟩:=h4;refine⟨hC,sz',e',?_⟩;rcases h6 with rfl|rfl
     ·exact .inl rfl
     ·exact .inr rfl
    |some b=>exact fv.ml (fun j p hp=>by rw[r1];exact hp) h4
  ·rcases eo l with⟨g1,g2⟩|⟨i,rfl⟩
   ·rcases eo l' with⟨g3,g4⟩|⟨j,rfl⟩
    ·rw[r2 l g1 g2] at h1;rw[r2 l' g3 g4] at h2;exact hs.inj _ _ b C C' h1 h2
    ·rw[r2 l g1 g2] at h1;rw[r1] at h2;exact absurd ⟨j,C',h2⟩ (p9 l b C g1 g2 h1).2
   ·rcases eo l' with⟨g3,g4⟩|⟨j,rfl⟩
    ·rw[r1] at h1;rw[r2 l' g3 g4] at h2;exact absurd ⟨i,C,h1⟩ (p9 l' b C' g3 g4 h2).2
    ·rw[r1] at h1 h2;rw[hsim.inj i j b C C' h1 h2]
  ·rcases eo l with⟨g1,g2⟩|⟨i,rfl⟩
   ·rw[r2 l g1 g2] at hl;rw[Mc (by rw[tc];exact g1) g2,OO] at ho;obtain⟨o1,h3,_⟩:=hs.obj l _ C hl;rw[h3] at ho;simp at ho;subst ho;rw[h6g] at hf;intro hS;rcases hext.news b hS with h4|h4|⟨j,C',h4⟩
    ·exact hs.own l b C o1 hl h3 hf h4
    ·have:=hs.V2 hl;omega
    ·have:=hs.inj _ _ b _ _ hl h4;subst this;by_cases hil:j<h.length
     ·exact g2 (πmem j hil)
     ·have:=πge j (by omega);omega
   ·rw[r1] at hl;obtain⟨o1,h3,_⟩:=hsim.obj i _ C hl;rw[jd i o1 h3] at ho;cases ho;rw[Q5] at hf;exact hsim.own i b C o1 hl h3 hf
 refine⟨v,x.ml π,pg.map π,_,S',ρ',he,⟨pg,x,h',hk,(HN _ _).symm,rfl,rfl⟩,pd.ml (fun i p hp=>by rw[r1];exact hp),Hx,?_,?_,Ho⟩
 ·refine⟨hext.os,hext.tape,hext.output,hext.size,hext.mono,hext.cell,fun b hb=> ?_,fun b hb hn=>hext.frame b hb (fun i C=>hn (π i) C),fun l b C hl=> ?_⟩
  ·rcases hext.news b hb with h1|h1|⟨i,C,h1⟩
   ·exact .inl h1
   ·exact .inr (.inl h1)
   ·exact .inr (.inr ⟨π i,C,h1⟩)
  ·rcases eo l with⟨g1,g2⟩|⟨i,rfl⟩
   ·rw[r2 l g1 g2] at hl;exact .inr ⟨l,C,hl⟩
   ·rw[r1] at hl;rcases hext.owned i b C hl with h1|⟨j,C',h1⟩
    ·exact .inl h1
    ·exact .inr ⟨π j,C',h1⟩
 ·rw[TW v8,tc];omega
theorem k0c {H:List ae}: ∀{pos:List Nat} {os:List ae},pos.length=os.length->(∀(i l:Nat) (o:ae),pos[i]? =AD l->os[i]? =AD o-> ∃o',ax H l=AD o'/\bx o' o)->Oo H pos os
 |[],[],_,_=>trivial
 |[],_::_,h,_=>by simp at h
 |_::_,[],h,_=>by simp at h
 |l::pos,o::os,hl,h=>by obtain⟨o',h1,h2⟩:=h 0 l o rfl rfl;refine⟨by rw[h1];exact h2,k0c (by simpa using hl) fun i l o ha hb=>h (i+1) l o (by simpa using ha) (by simpa using hb)⟩
mutual
theorem AV.V0 {k:Nat}{π:Nat->Nat}(hπ: ∀i,i<k->π i=i): ∀x:AV,x.low k=AE->x.ml π=x
 | .d _,_=>rfl
 | .any,_=>rfl
 | .lc,_=>rfl
 | .agg cs,h=>by simp only[AV.ml];rw[AV.pu hπ cs (by simpa only[AV.low] using h)]
 | .tuple cs,h=>by simp only[AV.ml];rw[AV.pu hπ cs (by simpa only[AV.low] using h)]
 | .ptr m _,h=>by simp only[AV.ml];rw[hπ m (zq (by simpa only[AV.low] using h))]
 | .ii m _ _ _,h=>by simp only[AV.ml];rw[hπ m (zq (by simpa only[AV.low] using h))]
 | .d9 _ _,_=>rfl
 | .lm _ _ _,_=>rfl
 | .bi m _ _ _ _,h=>by simp only[AV.ml];rw[hπ m (zq (by simpa only[AV.low] using h))]
 | .d7 m _ _,h=>by simp only[AV.ml];rw[hπ m (zq (by simpa only[AV.low] using h))]
 | .map m,h=>by simp only[AV.ml];rw[hπ m (zq (by simpa only[AV.low] using h))]
 | .fn _ us cs,h=>by simp only[AV.low,AG] at h;simp only[AV.ml];rw[AV.pu hπ us h.1,AV.pu hπ cs h.2]
 | .ge _,_=>rfl
 | .yl m,h=>by simp only[AV.ml];rw[hπ m (zq (by simpa only[AV.low] using h))]
theorem AV.pu {k:Nat}{π:Nat->Nat}(hπ: ∀i,i<k->π i=i): ∀xs:List AV,AV.z9 k xs=AE->AV.ul π xs=xs
 |[],_=>rfl
 |x::xs,h=>by simp only[AV.z9,AG] at h;simp only[AV.ul];rw[AV.V0 hπ x h.1,AV.pu hπ xs h.2]
end
mutual
theorem AV.ST {k i:Nat}(hi:k<=i): ∀x:AV,x.low k=AE->x.forget i AI=x
 | .d _,_=>rfl
 | .any,_=>rfl
 | .lc,_=>rfl
 | .agg cs,h=>by simp only[AL];rw[AV.li hi cs (by simpa only[AV.low] using h)]
 | .tuple cs,h=>by simp only[AL];rw[AV.li hi cs (by simpa only[AV.low] using h)]
 | .ptr m _,h=>by have:=zq (by simpa only[AV.low] using h);simp only[AL,AH,if_false,HQ (show i≠m by omega)]
 | .ii m _ _ _,h=>by have:=zq (by simpa only[AV.low] using h);simp only[AL,AH,if_false,HQ (show i≠m by omega)]
 | .d9 _ _,_=>rfl
 | .lm _ _ _,_=>rfl
 | .bi m _ _ _ _,h=>by have:=zq (by simpa only[AV.low] using h);simp only[AL,AH,if_false,HQ (show i≠m by omega)]
 | .d7 m _ _,h=>by have:=zq (by simpa only[AV.low] using h);simp only[AL,AH,if_false,HQ (show i≠m by omega)]
 | .map m,h=>by have:=zq (by simpa only[AV.low] using h);simp only[AL,AH,if_false,HQ (show i≠m by omega)]
 | .fn _ us cs,h=>by simp only[AV.low,AG] at h;simp only[AL];rw[AV.li hi us h.1,AV.li hi cs h.2]
 | .ge _,_=>rfl
 | .yl m,h=>by have:=zq (by simpa only[AV.low] using h);simp only[AL,AH,if_false,HQ (show i≠m by omega)]
theorem AV.li {k i:Nat}(hi:k<=i): ∀xs:List AV,AV.z9 k xs=AE->AO i AI xs=xs
 |[],_=>rfl
 |x::xs,h=>by simp only[AV.z9,AG] at h;simp only[AO];rw[AV.ST hi x h.1,AV.li hi xs h.2]
end
theorem ae.ST {k i:Nat}(hi:k<=i){o:ae}(h:o.low k=AE):o.forget i AI=o:=by
 cases o with
 |var cs=>simp only[AW];rw[AV.li hi cs (by simpa only[ae.low] using h)]
 |dz w ks keys ap=>simp only[AW];rw[AV.li hi ap (by simpa only[ae.low] using h)]
 |loop s ts ps code=>simp only[AW];rw[AV.li hi ts (by simpa only[ae.low] using h)]
 |n7 ap=>simp only[AW];rw[AV.li hi ap (by simpa only[ae.low] using h)]
 |iter m n l=>simp only[AW];rw[AV.ST hi m (by simpa only[ae.low] using h)]
 |_=>rfl
theorem ae.V0 {k:Nat}{π:Nat->Nat}(hπ: ∀i,i<k->π i=i){o:ae}(h:o.low k=AE):o.ml π=o:=by
 cases o with
 |var cs=>simp only[ae.ml];rw[AV.pu hπ cs (by simpa only[ae.low] using h)]
 |dz w ks keys ap=>simp only[ae.ml];rw[AV.pu hπ ap (by simpa only[ae.low] using h)]
 |loop s ts ps code=>simp only[ae.ml];rw[AV.pu hπ ts (by simpa only[ae.low] using h)]
 |n7 ap=>simp only[ae.ml];rw[AV.pu hπ ap (by simpa only[ae.low] using h)]
 |iter m n l=>simp only[ae.ml];rw[AV.V0 hπ m (by simpa only[ae.low] using h)]
 |_=>rfl
theorem k1o {k:Nat}{π:Nat->Nat}(hπ: ∀i,i<k->π i=i){h:List ae}(hl:u1 k h=AE):uj π h=h:=by rw[u2];refine (List.map_congr_left fun o ho=> ?_).trans (List.map_id _);obtain⟨i,hi⟩:=AM ho;exact ae.V0 hπ (NA hl hi)
theorem fp.pack {E:Ay}{ts vv:List AV}{H h':List ae}{mv:List Nat}(π:Nat->Nat)(hb: ∀i,i<E.base->π i=i)(hl:E.base<=h'.length)(Vx: ∀i j,i<h'.length->j<h'.length->π i=π j->i=j)
 (Gd:fl ts (AV.ul π vv)) (hh: ∀(i:Nat) (o:ae),h'[i]? =AD o-> ∃o',ax H (π i)=AD o'/\bx o' (o.ml π)) (VE:AV.z9 h'.length vv=AE) (PX:u1 h'.length h'=AE):fp E ⟨ts,H,mv⟩ ⟨vv,h',mv⟩:=by
 intro a w S ρ r;simp only[cy] at hh;have da: ∀m p,lw.cut (fun i=>ρ (π i)) h'.length m=AD p->m<h'.length/\ρ (π m)=AD p:=fun m p hp=>by
  unfold lw.cut at hp;split at hp
  ·rename_i h;exact⟨h,hp⟩
  ·cases hp
 have hv:Vw w S ρ (AV.ul π vv) a.tmps:=Vw.LE Gd r.ts;refine⟨lw.cut (fun i=>ρ (π i)) h'.length,⟨⟨by have:=hv.1;rw[AV.f8] at this;simpa using this,fun i x v hx hu=> ?_⟩,?_,⟨r.co.i0,fun m ob C hl=> ?_,fun m m' b C C' h1 h2=> ?_,fun m b C o hl ho hf=> ?_⟩,?_,fun m hm Wl=> ?_,hl⟩⟩
 ·exact ((hv.2 i (x.ml π) v (by rw[AV.f8,AC,hx];rfl) hu).Vs rfl).cut (H8 VE hx)
 ·obtain⟨Ds,d1,d2,d3⟩:=r.ds;exact⟨Ds,d1,fun D hD=>⟨(d2 D hD).obj,(d2 D hD).new,fun m C hl=>(d2 D hD).out (π m) C (da _ _ hl).2,(d2 D hD).YN⟩,d3⟩
 ·obtain⟨hm,hl⟩:=da _ _ hl;have ho:h'[m]? =AD (h'[m]'hm):=AB _;obtain⟨o',g1,g2⟩:=hh m _ ho;obtain⟨o2,g3,g4⟩:=r.co.obj (π m) ob C hl;rw[g1] at g3;cases g3;refine⟨_,ho,?_⟩;have h5:=g2.holds _ _ _ _ _ g4;cases ob with
  |none=>obtain⟨hC,sz',e',h6⟩:=h5;refine⟨hC,sz',e',?_⟩;cases hoo:h'[m]'hm<;>rw[hoo] at h6<;>simp[ae.ml] at h6⊢ <;>exact h6
  |some b=>exact fv.cut (fv.Vs h5) (NA PX ho)
 ·obtain⟨m1,l1⟩:=da _ _ h1;obtain⟨m2,l2⟩:=da _ _ h2;exact Vx m m' m1 m2 (r.co.inj _ _ b C C' l1 l2)
 ·obtain⟨hm,hl⟩:=da _ _ hl;obtain⟨o',g1,g2⟩:=hh m _ ho;exact r.co.own (π m) b C o' hl g1 (g2.t0 (by rw[Q5];exact hf))
 ·exact⟨r.ext.os,r.ext.tape,r.ext.output,r.ext.size,r.ext.mono,r.ext.cell,r.ext.news,r.ext.frame,fun m b C hl=>r.ext.owned (π m) b C (da _ _ hl).2⟩
 ·have e:lw.cut (fun i=>ρ (π i)) h'.length m=ρ (π m):=if_pos (by omega);rw[e,hb m hm];exact r.v9 m hm Wl
end Go.Vf
