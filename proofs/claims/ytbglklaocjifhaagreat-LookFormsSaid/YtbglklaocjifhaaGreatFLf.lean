/- Weaker states, and loops by an invariant. The rules of an open proof: entries, requests, calls, loops, weaker states by live temporaries. A call that meets a part of the memory. Data of a program's kinds, and small rules. Calls that leave the objects as they were; objects that a call makes and drops. Conditions: none. -/
import Derived.Test.YtbglklaocjifhaaGreatFMg
import Derived.Test.YtbglklaocjifhaaGreatFMn
set_option linter.unusedSimpArgs false
set_option linter.unusedVariables false
namespace Go.Vf
open Go
structure a9v (o o':a0f):Prop where
 frz:o'.frozen=false->o.frozen=false
 holds: ∀(w:World) (S:Nat->Prop) (ρ:Rho) (ob:Option Nat) (C:Nat),c7g w S ρ ob C o->c7g w S ρ ob C o'
theorem a9v.refl (o:a0f):a9v o o:=⟨id,fun _ _ _ _ _ h=>h⟩
theorem a0x.any (x:AV):a0x x .any:=fun _ _ _ v _=> .any v
theorem a0x.trans {x y z:AV}(h:a0x x y)(k:a0x y z):a0x x z:=fun w S ρ v hv=>k w S ρ v (h w S ρ v hv)
theorem a9v.var {cs ds:List AV}(h:a3x cs ds):a9v (.var cs) (.var ds):=by
 refine⟨id,fun w S ρ ob C hh=> ?_⟩
 obtain⟨hl,hg⟩:=h.get
 cases ob with
 |none=>obtain⟨h1,sz',e1,h2|h2⟩:=hh<;>cases h2
 |some b=>
  obtain⟨vs,ty,h1,h2,h3⟩:=hh
  exact⟨vs,ty,h1,by omega,a0x.cells hl hg h3⟩
inductive a4k:List a0f->List a0f->Prop
 |nil (h:List a0f):a4k h []
 |cons {o o':a0f} {h h':List a0f} (e:a9v o o') (r:a4k h h'):a4k (o::h) (o'::h')
theorem a4k.get {h h':List a0f}(r:a4k h h'):h'.length<=h.length/\ ∀(i:Nat) (o o':a0f),h[i]? =some o->h'[i]? =some o'->a9v o o':=by
 induction r with
 |nil h=>simp
 |cons e r ih=>
  refine⟨by simp[ih.1],fun i o o' hx hy=> ?_⟩
  cases i with
  |zero=>simp at hx hy;subst hx;subst hy;exact e
  |succ i=>simp at hx hy;exact ih.2 i o o' hx hy
mutual
def AV.low (n:Nat):AV->Bool
 | .agg cs=>AV.lowL n cs
 | .tuple cs=>AV.lowL n cs
 | .fn _ us cs=>AV.lowL n us&&AV.lowL n cs
 | .ptr m _=>Nat.blt m n
 | .aptr m _ _ _=>Nat.blt m n
 | .msl m _ _ _ _=>Nat.blt m n
 | .vsl m _ _=>Nat.blt m n
 | .map m=>Nat.blt m n
 | .yl m=>Nat.blt m n
 |_=>true
def AV.lowL (n:Nat):List AV->Bool
 |[]=>true
 |v::r=>v.low n&&AV.lowL n r
end
def a0f.low (n:Nat):a0f->Bool
 | .var cs=>AV.lowL n cs
 | .loop _ ts _ _=>AV.lowL n ts
 | .mapv _ _ _ vs=>AV.lowL n vs
 |_=>true
def d5i (n:Nat):List a0f->Bool
 |[]=>true
 |o::r=>o.low n&&d5i n r
theorem a2f {n:Nat}{l:List AV}(h:AV.lowL n l=true){i:Nat}{x:AV}(hx:l[i]? =some x):x.low n=true:=by
 induction l generalizing i with
 |nil=>simp at hx
 |cons y l ih=>
  simp only[AV.lowL,Bool.and_eq_true] at h
  cases i with
  |zero=>simp at hx;subst hx;exact h.1
  |succ i=>simp at hx;exact ih h.2 hx
theorem c1k {n:Nat}{l:List a0f}(h:d5i n l=true){i:Nat}{x:a0f}(hx:l[i]? =some x):x.low n=true:=by
 induction l generalizing i with
 |nil=>simp at hx
 |cons y l ih=>
  simp only[d5i,Bool.and_eq_true] at h
  cases i with
  |zero=>simp at hx;subst hx;exact h.1
  |succ i=>simp at hx;exact ih h.2 hx
def Rho.cut (ρ:Rho)(n:Nat):Rho:=fun l=>if l<n then ρ l else none
theorem e0x {m n:Nat}(h:Nat.blt m n=true):m<n:=by simpa [Nat.blt_eq] using h
theorem Rho.cut_lt {ρ:Rho}{n m:Nat}(h:Nat.blt m n=true):ρ.cut n m=ρ m:=if_pos (e0x h)
theorem VR.cut {w:World}{S:Nat->Prop}{ρ:Rho}{n:Nat}{x:AV}{v:Value}(h:VR w S ρ x v)(hb:x.low n=true):VR w S (ρ.cut n) x v:=by
 induction h with
 |d h=>exact .d h
 |any v=>exact .any v
 |und=>exact .und
 |agg cs vs hl _ ih=>exact .agg cs vs hl fun i x v hx hv=>ih i x v hx hv (a2f (by simpa only[AV.low] using hb) hx)
 |tuple cs vs hl _ ih=>exact .tuple cs vs hl fun i x v hx hv=>ih i x v hx hv (a2f (by simpa only[AV.low] using hb) hx)
 |ptr l off b C h=>exact .ptr l off b C ((Rho.cut_lt (by simpa only[AV.low] using hb)).trans h)
 |aptr l sz i off b C h=>exact .aptr l sz i off b C ((Rho.cut_lt (by simpa only[AV.low] using hb)).trans h)
 |dptr row off b base f hb' hv hr=>exact .dptr row off b base f hb' hv hr
 |dfs sz n e a h=>exact .dfs sz n e a h
 |msl l sz start len full ob C cap a h hc hcap ha=>exact .msl l sz start len full ob C cap a ((Rho.cut_lt (by simpa only[AV.low] using hb)).trans h) hc hcap ha
 |vsl l off n b C cap h hc=>exact .vsl l off n b C cap ((Rho.cut_lt (by simpa only[AV.low] using hb)).trans h) hc
 |map l b C h=>exact .map l b C ((Rho.cut_lt (by simpa only[AV.low] using hb)).trans h)
 |fn f first cap us vs hl1 _ hl _ ih1 ih=>
  simp only[AV.low,Bool.and_eq_true] at hb
  exact .fn f first cap us vs hl1 (fun i x v hx hv=>ih1 i x v hx hv (a2f hb.1 hx)) hl (fun i x v hx hv=>ih i x v hx hv (a2f hb.2 hx))
 |ge m n h=>exact .ge m n h
 |yl l b C h=>exact .yl l b C ((Rho.cut_lt (by simpa only[AV.low] using hb)).trans h)
theorem a0z.cut {w:World}{S:Nat->Prop}{ρ:Rho}{n b C:Nat}{o:a0f}(h:a0z w S ρ b C o)(hb:o.low n=true):a0z w S (ρ.cut n) b C o:=by
 cases o with
 |var cs=>
  obtain⟨vs,ty,h1,h2,h3⟩:=h
  exact⟨vs,ty,h1,h2,fun i x v hx hv=>(h3 i x v hx hv).cut (a2f (by simpa only[a0f.low] using hb) hx)⟩
 |arr sz n e=>exact h
 |frz sz n e=>exact h
 |map wide ks n f=>exact h
 |mapv wide ks keys vals=>
  obtain⟨es,clock,h1,h2,h3,h4⟩:=h
  exact⟨es,clock,h1,h2,h3,fun i x e hx he=>(h4 i x e hx he).cut (a2f (by simpa only[a0f.low] using hb) hx)⟩
 |loop s ts ps code=>
  obtain⟨r,h1,h2,h3,h4,h5,h6,h7⟩:=h
  exact⟨r,h1,h2,h3,h4,h5,h6,fun i x v hx hv=>(h7 i x v hx hv).cut (a2f (by simpa only[a0f.low] using hb) hx)⟩
 |gone=>exact h
def e1s:List Nat->List Nat->Bool
 |[],_=>true
 |l::r,m=>b2l l m&&e1s r m
theorem b4g: ∀{l m:List Nat},e1s l m=true-> ∀i,i∈l->i∈m
 |[],_,_,i,h=>by simp at h
 |j::l,m,h,i,hi=>by
  simp only[e1s,Bool.and_eq_true] at h
  rcases List.mem_cons.1 hi with rfl|hi
  ·exact a1o.1 h.1
  ·exact b4g h.2 i hi
structure Le (base:Nat)(st st':St):Prop where
 ts:a3x st.ts st'.ts
 h:a4k st.h st'.h
 len:base<=st'.h.length
 cut:(AV.lowL st'.h.length st'.ts=true/\d5i st'.h.length st'.h=true)\/st.h.length=st'.h.length
 mv:e1s st.mv st'.mv=true
theorem Rel.le {E:Ent}{st st':St}{a:Act}{w:World}{S:Nat->Prop}{ρ:Rho}(l:Le E.base st st')(r:Rel E st a w S ρ): ∃ρ',Rel E st' a w S ρ':=by
 obtain⟨l1,l2⟩:=l.ts.get
 obtain⟨l3,l4⟩:=l.h.get
 have ht:VRs w S ρ st'.ts a.tmps:=⟨by rw[<-l1];exact r.ts.1,a0x.cells l1 l2 r.ts.2⟩
 have hobj: ∀l ob C,l<st'.h.length->ρ l=some (ob,C)-> ∃o o',st.h[l]? =some o/\st'.h[l]? =some o'/\a9v o o'/\c7g w S ρ ob C o':=fun m ob C hm hl=>by
  obtain⟨o,h1,h2⟩:=r.sim.obj m ob C hl
  have h3:st'.h[m]? =some (st'.h[m]'hm):=List.getElem?_eq_getElem _
  have:=l4 m o _ h1 h3
  exact⟨o,_,h1,h3,this,this.holds _ _ _ _ _ h2⟩
 have hlt: ∀l ob C,ρ l=some (ob,C)->l<st.h.length:=fun m ob C hl=>by
  obtain⟨o,h1,_⟩:=r.sim.obj m ob C hl
  exact (List.getElem?_eq_some_iff.1 h1).1
 by_cases hn:st.h.length=st'.h.length
 ·refine⟨ρ,⟨ht,r.ds,⟨r.sim.sblk,fun m ob C hl=> ?_,r.sim.inj,fun m b C o hl ho hf=> ?_⟩,r.ext,fun m hm hmv=>r.keep m hm fun h=>hmv (b4g l.mv m h),l.len⟩⟩
  ·obtain⟨o,o',_,h2,_,h4⟩:=hobj m ob C (hn▸hlt m ob C hl) hl
   exact⟨o',h2,h4⟩
  ·obtain⟨o1,o',h1,h2,h3,_⟩:=hobj m _ C (hn▸hlt m _ C hl) hl
   rw[ho] at h2;cases h2
   exact r.sim.own m b C o1 hl h1 (h3.frz hf)
 ·obtain⟨c1,c2⟩:=l.cut.resolve_right hn
  have hcut: ∀m p,ρ.cut st'.h.length m=some p->m<st'.h.length/\ρ m=some p:=fun m p hp=>by
   unfold Rho.cut at hp
   split at hp
   ·rename_i h;exact⟨h,hp⟩
   ·cases hp
  refine⟨ρ.cut st'.h.length,⟨⟨ht.1,fun i x v hx hv=>(ht.2 i x v hx hv).cut (a2f c1 hx)⟩,?_,⟨r.sim.sblk,fun m ob C hl=> ?_,fun m m' b C C' h1 h2=>r.sim.inj m m' b C C' (hcut _ _ h1).2 (hcut _ _ h2).2,fun m b C o hl ho hf=> ?_⟩,?_,fun m hm hmv=> ?_,l.len⟩⟩
  ·obtain⟨Ds,d1,d2,d3⟩:=r.ds
   exact⟨Ds,d1,fun D hD=>⟨(d2 D hD).obj,(d2 D hD).new,fun m C hl=>(d2 D hD).out m C (hcut _ _ hl).2,(d2 D hD).imm⟩,d3⟩
  ·obtain⟨hm,hl⟩:=hcut _ _ hl
   obtain⟨o,o',_,h2,_,h4⟩:=hobj m ob C hm hl
   refine⟨o',h2,?_⟩
   cases ob with
   |none=>exact h4
   |some b=>exact a0z.cut h4 (c1k c2 h2)
  ·obtain⟨hm,hl⟩:=hcut _ _ hl
   obtain⟨o1,o',h1,h2,h3,_⟩:=hobj m _ C hm hl
   rw[ho] at h2;cases h2
   exact r.sim.own m b C o1 hl h1 (h3.frz hf)
  ·exact⟨r.ext.os,r.ext.tape,r.ext.output,r.ext.size,r.ext.mono,r.ext.cell,r.ext.news,r.ext.frame,fun m b C hl=>r.ext.owned m b C (hcut _ _ hl).2⟩
  ·have:=l.len
   have e:ρ.cut st'.h.length m=ρ m:=if_pos (by omega)
   rw[e]
   exact r.keep m hm fun h=>hmv (b4g l.mv m h)
section
variable {P:Program} {A:Ann} {ro:Option Nat} {E:Ent} {Sg:Sig} {Q:Lv->St->Prop}
def e4f {σ:Type}(base:Nat)(R:σ->Prop)(μ:σ->Nat)(st:σ->St)(Q:Lv->St->Prop)(s:σ):Lv->St->Prop
 | .normal,st'=> ∃s',R s'/\μ s'<μ s/\Le base st' (st s')
 | .exit i,st'=>Q (.exit i) st'
 | .ret,st'=>Q .ret st'
theorem d1u (hm:P.follows .mixedOrders=true)(hok:OkP P)(hS:Sg=std P A ro E){σ:Type}(R:σ->Prop)(μ:σ->Nat)(st:σ->St){ic:a0c}{st0:St}(s:σ)(hs:R s)(h0:Le E.base st0 (st s))
 (h: ∀s,R s->ev Sg ic (e4f E.base R μ st Q s) (st s)):Sg.loop ic Q st0:=by
 subst hS
 intro c hc a w S ρ hr
 obtain⟨ρ1,hr1⟩:=hr.le h0
 clear hr h0
 refine wpIn_loop_rounds (μ s+1) ?_
 have hk:μ s<μ s+1:=Nat.lt_succ_self _
 generalize μ s+1=m at hk⊢
 induction m generalizing s a w S ρ1 with
 |zero=>omega
 |succ m ih=>
  refine wpIn_mono (a4x hm hok c ic hc (h s hs) a w S ρ1 hr1) fun e a' w' hp=> ?_
  obtain⟨lv,st',S',ρ',h1,h2,h3⟩:=hp
  cases lv with
  |normal=>
   cases e<;>simp[a9d] at h1
   obtain⟨s',g1,g2,g3⟩:=h2
   obtain⟨ρ',h3⟩:=h3.le g3
   exact ih s' g1 a' w' S' ρ' h3 (by omega)
  |exit i=>cases e<;>simp[a9d] at h1;subst h1;exact⟨_,st',S',ρ',rfl,h2,h3⟩
  |ret=>cases e<;>simp[a9d] at h1;exact⟨_,st',S',ρ',rfl,h2,h3⟩
end
def b5r:List (Nat×AV)->Nat->List AV
 |[],n=>b8q .any n
 |(i,v)::l,n=>a2x (b5r l n) i v
def b9b (ts:List AV):List (Nat×AV)->Prop
 |[]=>True
 |(i,v)::l=>(match a1a ts i with|some x=>a0x x v|none=>False)/\b9b ts l
theorem a3x.of_get: ∀{xs ys:List AV},xs.length=ys.length->(∀(i:Nat) (x y:AV),xs[i]? =some x->ys[i]? =some y->a0x x y)->a3x xs ys
 |[],[],_,_=> .nil
 |x::xs,y::ys,hl,h=> .cons (h 0 x y rfl rfl) (a3x.of_get (by simpa using hl) fun i a b ha hb=>h (i+1) a b (by simpa using ha) (by simpa using hb))
 |[],_::_,hl,_=>by simp at hl
 |_::_,[],hl,_=>by simp at hl
theorem b8u (l:List (Nat×AV))(n:Nat):(b5r l n).length=n:=by
 induction l with
 |nil=>simp[b5r,a7i]
 |cons p l ih=>obtain⟨i,v⟩:=p;simp[b5r,a0l,ih]
theorem d2w {ts:List AV}{l:List (Nat×AV)}{n:Nat}(hn:a3q ts=n)(h:b9b ts l):a3x ts (b5r l n):=by
 rw[a0u] at hn
 refine a3x.of_get (by rw[b8u,hn]) ?_
 induction l with
 |nil=>
  intro i x y hx hy
  rw[b5r,a7i,List.getElem?_replicate] at hy
  split at hy
  ·cases hy;exact a0x.any x
  ·cases hy
 |cons p l ih=>
  obtain⟨k,v⟩:=p
  obtain⟨h1,h2⟩:=h
  intro i x y hx hy
  rw[b5r,a0l] at hy
  by_cases e:i=k
  ·subst e
   rw[a0i,hx] at h1
   rw[List.getElem?_set] at hy
   simp at hy
   rw[<-hy.2]
   exact h1
  ·rw[List.getElem?_set_ne (Ne.symm e)] at hy
   exact ih h2 i x y hx hy
theorem a4c {base:Nat}{ts:List AV}{h h':List a0f}{mv mv':List Nat}{l:List (Nat×AV)}{n:Nat}(hn:a3q ts=n)(hl:b9b ts l)(hh:a4k h h')(hb:base<=h'.length)
 (hc:(AV.lowL h'.length (b5r l n)=true/\d5i h'.length h'=true)\/h.length=h'.length) (hv:e1s mv mv'=true):Le base ⟨ts,h,mv⟩ ⟨b5r l n,h',mv'⟩:=
 ⟨d2w hn hl,hh,hb,hc,hv⟩
section
variable {P:Program} {A:Ann} {ro:Option Nat} {E:Ent} {Sg:Sig} {Q:Lv->St->Prop}
theorem a1g (hS:Sg=std P A ro E){p q:Prop}(hp:p)(hq:q):Sg.req p q:=by subst hS;exact⟨hp,hq⟩
theorem a0v (hS:Sg=std P A ro E){own:Bool}{f:FuncId}{args:List AV}{K:AV->Prop}(r:AV)(h:a0j P own f args r)(hk:K r):Sg.callb own f args K:=by
 subst hS;exact⟨r,h,hk⟩
def c1l (N:St->Prop)(Q:Lv->St->Prop):Lv->St->Prop
 | .normal,st=>N st
 | .exit i,st=>Q (.exit i) st
 | .ret,st=>Q .ret st
theorem a7r (hm:P.follows .mixedOrders=true)(hok:OkP P)(hS:Sg=std P A ro E){σ:Type}(R:σ->Prop)(μ:σ->Nat)(st:σ->St){ic:a0c}{st0:St}(s:σ)(hs:R s)(h0:Le E.base st0 (st s))
 (h: ∀s,R s-> ∀N:St->Prop,(∀s' st',R s'->μ s'<μ s->Le E.base st' (st s')->N st')->ev Sg ic (c1l N Q) (st s)):Sg.loop ic Q st0:=by
 refine d1u hm hok hS R μ st s hs h0 fun s hs=> ?_
 have:=h s hs (fun st'=> ∃s',R s'/\μ s'<μ s/\Le E.base st' (st s')) fun s' st' h1 h2 h3=>⟨s',h1,h2,h3⟩
 have e:c1l (fun st'=> ∃s',R s'/\μ s'<μ s/\Le E.base st' (st s')) Q=e4f E.base R μ st Q s:=by
  funext lv st'
  cases lv<;>rfl
 rw[e] at this
 exact this
end
section
variable {P:Program} {f:FuncId} {x:XFn} {args:List AV}
theorem a0k (hm:P.follows .mixedOrders=true)(hok:OkP P)(hx:a0q P f x)(r:AV)(hn:Nat.ble args.length x.n=true)
 (h: ∀(E:Ent) (Sg:Sig),E.base=0->Sg=std P x.A none E->ev Sg x.ic (d8h Sg x.irs r) ⟨a9g args (x.n-args.length),[],[]⟩):a0j P false f args r:=by
 obtain⟨fn,c,hf,hb,hname,hc,hres,hnt⟩:=hx
 have hle:args.length<=x.n:=by simpa using hn
 exact b1p (n:=x.n-args.length) hm hok hf hb hname x.A hc hres (by rw[hnt];omega) h
theorem b9y (hm:P.follows .mixedOrders=true)(hok:OkP P)(hx:a0q P f x){h0:List a0f}{K:List Nat->AV->List a0f->Prop}(hn:Nat.ble args.length x.n=true)
 (h: ∀(E:Ent) (Sg:Sig),E.base=h0.length->Sg=std P x.A none E->ev Sg x.ic (d4j Sg x.irs h0.length K) ⟨a9g args (x.n-args.length),h0,[]⟩):a1h P f args h0 K:=by
 obtain⟨fn,c,hf,hb,hname,hc,hres,hnt⟩:=hx
 have hle:args.length<=x.n:=by simpa using hn
 exact b0s (n:=x.n-args.length) hm hok hf hb hname x.A hc hres (by rw[hnt];omega) h
theorem b8m {r:DV}(hf:c0j (.d r))(h:a0j P false f args (.d r)):a0j P true f args (.d r):=by
 have:=b4e (xs:=[.d r]) (fun x hx=>by simp at hx;subst hx;exact hf) h
 exact this
theorem a1e {b:Bool}(h:a0j P false f args (.d (.bool b))):a0j P true f args (.d (.bool b)):=b8m (by trivial) h
theorem a4e {k:IntKind}{n:IX}(h:a0j P false f args (.d (.int k n))):a0j P true f args (.d (.int k n)):=b8m (by trivial) h
end
section
variable {w:World} {S:Nat->Prop} {ρ ρ':Rho} {π:Nat->Nat}
end
def b2u:List Nat->Nat->Nat->Nat
 |[],base,i=>base+i
 |l::_,_,0=>l
 |_::pos,base,i+1=>b2u pos base i
def int (z:Int):AV:= .d (.int .i64 (.v z))
def u8 (z:Int):AV:= .d (.int .u8 (.v z))
def bool (b:Bool):AV:= .d (.bool b)
def isl (n:Nat)(g:Nat->Int):AV:= .d (.sl 1 n fun i=>[.int .i64 (.v (g i))])
theorem b6g {x:Int}(h1: -9223372036854775808<=x)(h2:x<=9223372036854775807):IntKind.i64.wrap x=x:=by
 simp[IntKind.wrap,IntKind.bits,IntKind.signed]
 omega
theorem a0s {a b:Bool}(h:a=b):a0x (.d (.bool a)) (.d (.bool b)):=by subst h;exact a0x.refl _
theorem ff {r:Bool}{p:Prop}(hr:r=true↔p)(h: ¬p):false=r:=by
 cases r
 ·rfl
 ·exact absurd (hr.1 rfl) h
theorem e8z {r:Bool}{p:Prop}(hr:r=true↔p)(h: ¬p):a0x (.d (.bool false)) (.d (.bool r)):=a0s (ff hr h)
theorem a6c {k:IntKind}{a b:Int}(h:a=b):a0x (.d (.int k (.l a))) (.d (.int k (.v b))):=a0x.int h
theorem b0a {k:IntKind}{a b:Int}(h:a=b):a0x (.d (.int k (.v a))) (.d (.int k (.v b))):=a0x.int h
theorem a0x.sl' {sz n m:Nat}{e e':Nat->List DV}(hn:n=m)(h: ∀i,i<n->e i=e' i):a0x (.d (.sl sz n e)) (.d (.sl sz m e')):=by
 subst hn;exact a0x.sl h
theorem b4i {P:Program}{f:FuncId}{args:List AV}{x y:AV}{l:List AV}(hf: ∀z,z∈x::y::l->c0j z)(h:a0j P false f args (.tuple (x::y::l))):a0j P true f args (.tuple (x::y::l)):=
 b4e (xs:=x::y::l) hf h
theorem a4k.same: ∀(h:List a0f),a4k h h
 |[]=> .nil _
 |o::h=> .cons (.refl o) (a4k.same h)
def ro (h:List a0f)(r:AV)(pg:List Nat)(v:AV)(h':List a0f):Prop:=pg=[]/\v=r/\h'=h
section
variable {P:Program} {f:FuncId} {args:List AV} {h:List a0f}
theorem a1h.of_pure {own:Bool}{r:AV}(hf:a3z args=true)(hp:a0j P own f args r):a1h P f args h (ro h r):=by
 refine⟨hp.1,fun w S ρ vs hs hv=> ?_⟩
 have hv0:VRs w S a2j args vs:=⟨hv.1,fun i x v hx hu=>b4t (vs:=vs.toList) hf (fun i x v hx hu=>hv.2 i x v hx (by simpa using hu)) i x v hx (by simpa using hu)⟩
 refine (hp.2 w S vs hs.sblk hv0).mono fun e w' he=> ?_
 obtain⟨v,S',h1,h2,h3,h4⟩:=he
 have c:=b5v (S1:=S') hs (fun b hb=>by
  rcases h3 b hb with h|h
  ·exact .inl h.2
  ·exact .inr h) h4
 exact⟨v,r,[],h,_,ρ,h1,⟨rfl,rfl,rfl⟩,h2.mono (fun b hb=> .inr hb) (fun _ _=>rfl) (fun l p hl=>by cases hl),c.sim,c.ext,Nat.le_refl _,fun l _ _=>rfl⟩
theorem a1h.cut {K:List Nat->AV->List a0f->Prop}(hc:a1h P f args h (fun pg v h'=> ∃h0 v0,a4k h' h0/\a0x v v0/\h.length<=h0.length/\((v0.low h0.length=true/\d5i h0.length h0=true)\/h'.length=h0.length)/\K pg v0 h0)):a1h P f args h K:=by
 refine⟨hc.1,fun w S ρ vs hs hv=>(hc.2 w S ρ vs hs hv).mono fun e w' he=> ?_⟩
 obtain⟨v,x,pg,h',S',ρ',h1,⟨h0,v0,k1,k2,k3,k45,k6⟩,h2,h3,h4,h5,h6⟩:=he
 obtain⟨l3,l4⟩:=k1.get
 have hcut: ∀m p,ρ'.cut h0.length m=some p->m<h0.length/\ρ' m=some p:=fun m p hp=>by
  unfold Rho.cut at hp
  split at hp
  ·rename_i h;exact⟨h,hp⟩
  ·cases hp
 by_cases hn:h'.length=h0.length
 ·refine⟨v,v0,pg,h0,S',ρ',h1,k6,k2 _ _ _ _ h2,⟨h3.sblk,fun m ob C hl=> ?_,h3.inj,fun m b C o hl ho hf=> ?_⟩,h4,k3,h6⟩
  ·obtain⟨o,q1,q2⟩:=h3.obj m ob C hl
   have hm:=(List.getElem?_eq_some_iff.1 q1).1
   have q3:h0[m]? =some (h0[m]'(by omega)):=List.getElem?_eq_getElem _
   exact⟨_,q3,(l4 m o _ q1 q3).holds _ _ _ _ _ q2⟩
  ·obtain⟨o1,q1,q2⟩:=h3.obj m _ C hl
   exact h3.own m b C o1 hl q1 ((l4 m o1 o q1 ho).frz hf)
 obtain⟨k4,k5⟩:=k45.resolve_right hn
 refine⟨v,v0,pg,h0,S',ρ'.cut h0.length,h1,k6,(k2 _ _ _ _ h2).cut k4,⟨h3.sblk,fun m ob C hl=> ?_,fun m m' b C C' q1 q2=>h3.inj m m' b C C' (hcut _ _ q1).2 (hcut _ _ q2).2,fun m b C o hl ho hf=> ?_⟩,?_,k3,fun m hm hmv=> ?_⟩
 ·obtain⟨hm,hl⟩:=hcut _ _ hl
  obtain⟨o,q1,q2⟩:=h3.obj m ob C hl
  have q3:h0[m]? =some (h0[m]'hm):=List.getElem?_eq_getElem _
  refine⟨_,q3,?_⟩
  have q4:=(l4 m o _ q1 q3).holds _ _ _ _ _ q2
  cases ob with
  |none=>exact q4
  |some b=>exact a0z.cut q4 (c1k k5 q3)
 ·obtain⟨hm,hl⟩:=hcut _ _ hl
  obtain⟨o1,q1,q2⟩:=h3.obj m _ C hl
  exact h3.own m b C o1 hl q1 ((l4 m o1 o q1 ho).frz hf)
 ·exact⟨h4.os,h4.tape,h4.output,h4.size,h4.mono,h4.cell,h4.news,h4.frame,fun m b C hl=>h4.owned m b C (hcut _ _ hl).2⟩
 ·have e:ρ'.cut h0.length m=ρ' m:=if_pos (by omega)
  rw[e]
  exact h6 m hm hmv
theorem VRs.like {w:World}{S:Nat->Prop}{ρ:Rho}{xs ys:List AV}{vs:Array Value}(h:a3x xs ys)(hv:VRs w S ρ xs vs):VRs w S ρ ys vs:=
 ⟨by rw[<-h.get.1];exact hv.1,a0x.cells h.get.1 h.get.2 hv.2⟩
theorem a0j.like {own:Bool}{args':List AV}{r:AV}(h:a3x args' args)(hp:a0j P own f args r):a0j P own f args' r:=
 ⟨hp.1,fun w S vs hS hv=>hp.2 w S vs hS (hv.like h)⟩
theorem a1h.like {args':List AV}{K:List Nat->AV->List a0f->Prop}(hl:a3x args' args)(hp:a1h P f args h K):a1h P f args' h K:=
 ⟨hp.1,fun w S ρ vs hs hv=>hp.2 w S ρ vs hs (hv.like hl)⟩
def roK (h0:List a0f)(r:AV)(pg:List Nat)(v:AV)(h':List a0f):Prop:=
 ∃h1 v0,a4k h' h1/\a0x v v0/\h0.length<=h1.length/\((v0.low h1.length=true/\d5i h1.length h1=true)\/h'.length=h1.length)/\ro h0 r pg v0 h1
theorem a2s {base:Nat}{h':List a0f}{v r:AV}(hv:a0x v r)(hl:a4k h' h)(hc:(r.low h.length=true/\d5i h.length h=true)\/h'.length=h.length):
 ∃pg,(∀l,l<base->l∈([]:List Nat)->l∈pg)/\roK h r pg v h':=
 ⟨[],by simp,h,r,hl,hv,Nat.le_refl _,hc,rfl,rfl,rfl⟩
theorem a2y {x:XFn}(hm:P.follows .mixedOrders=true)(hok:OkP P)(hx:a0q P f x)(r:AV)(hn:Nat.ble args.length x.n=true)
 (hv: ∀(E:Ent) (Sg:Sig),E.base=h.length->Sg=std P x.A none E->ev Sg x.ic (d4j Sg x.irs h.length (roK h r)) ⟨a9g args (x.n-args.length),h,[]⟩):a1h P f args h (ro h r):=
 a1h.cut (b9y hm hok hx hn hv)
theorem a3v {A:Ann}{rr:Option Nat}{E:Ent}{Sg:Sig}(hS:Sg=std P A rr E){r:AV}{K:List Nat->AV->List a0f->Prop}(hc:a1h P f args h (ro h r))(hk:K [] r h):Sg.call f args h K:=by
 subst hS
 refine a1h.mono (fun pg v h' e=> ?_) hc
 obtain⟨rfl,rfl,rfl⟩:=e
 exact hk
end
end Go.Vf
