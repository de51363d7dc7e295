/- The plain law: what Of makes is a diagram, whose cells are these. The plain law: Of of a diagram's cells makes the same diagram. Conditions: none. -/
import Derived.Test.YtpcokdalcafgdaaGreatWLq
import Derived.Test.YtpcokdalcafgdaaGreatWNa
import Derived.Test.YtpcokdalcafgdaaGreatWNc
import Derived.Test.YtpcokdalcafgdaaGreatWLh
import Derived.Test.YtpcokdalcafgdaaGreatWNb
import Derived.Test.YtpcokdalcafgdaaGreatWOh
import Derived.Test.YtpcokdalcafgdaaGreatWPm0
import Derived.Test.YtpcokdalcafgdaaGreatWQd
import Derived.Test.YtpcokdalcafgdaaGreatWQf
import Derived.Test.YtpcokdalcafgdaaGreatWQh
import Derived.Test.YtpcokdalcafgdaaGreatWSd
import Derived.Test.YtpcokdalcafgdaaGreatWSn
import Derived.Test.YtpcokdalcafgdaaGreatWSq
import Derived.Test.YtpcokdalcafgdaaGreatWSv
import Derived.Test.YtpcokdalcafgdaaGreatWUf
import Derived.Test.YtpcokdalcafgdaaGreatWUi
import Derived.Test.YtpcokdalcafgdaaGreatWXf
import Derived.Test.YtpcokdalcafgdaaGreatWXk
import Derived.Test.YtpcokdalcafgdaaGreatWXn
import Derived.Test.YtpcokdalcafgdaaGreatWXt
import Derived.Test.YtpcokdalcafgdaaGreatWXw
set_option linter.unusedSimpArgs false
set_option linter.unusedVariables false
namespace Go.Proofs.Tryz.Run
open Go Go.Vf Go.Proofs
open Go.Proofs.YtpcokdalcafgdaaGreat
inductive Way (on:List NdR)(p:Nat->Nat):Int->Int->Prop
 |fin {k:Int} (h:k<0):Way on p k k
 |node {k:Nat} {b:NdR} {e:Int} (h:on[k]? =some b) (h2:Way on p (b.kids.getD (p b.var.toNat) 0) e):Way on p (k:Int) e
theorem c0s {α:Type}{l m:List α}(h:l<+:m){i:Nat}{x:α}(hx:l[i]? =some x):m[i]? =some x:=by
 obtain⟨t,rfl⟩:=h
 rw[List.getElem?_append_left (List.getElem?_eq_some_iff.1 hx).1];exact hx
theorem b4c {α:Type}{l m:List α}(h:l<+:m){i:Nat}(hi:i<l.length){x:α}(hx:m[i]? =some x):l[i]? =some x:=by
 obtain⟨t,rfl⟩:=h
 rw[List.getElem?_append_left hi] at hx;exact hx
theorem Way.mono {on on':List NdR}(h:on<+:on'){p:Nat->Nat}{k e:Int}(w:Way on p k e):Way on' p k e:=by
 induction w with
 |fin h=>exact .fin h
 |node h1 _ ih=>exact .node (c0s h h1) ih
section
variable {C:Nat->VaR} {sz od str:Nat->Nat} {no:Nat}
def okR (od:Nat->Nat)(no:Nat)(s:Law.Mk)(r:Nat)(t:Int):Prop:=(t<0->(-1-t).toNat<s.oe.length)/\(0<=t-> ∃b p,s.on[t.toNat]? =some b/\r<=p/\p<no/\b.var=(od p:Int))
def okB (sz od:Nat->Nat)(no:Nat)(s:Law.Mk)(i:Nat)(b:NdR):Prop:= ∃p,p<no/\b.var=(od p:Int)/\b.kids.length=sz (od p)/\ ¬Law.flatL b.kids/\ ∀k,k∈b.kids->k<i/\okR od no s (p+1) k
structure Inv (sz od:Nat->Nat)(no:Nat)(s:Law.Mk):Prop where
 oe:s.oe.Nodup
 on:s.on.Nodup
 ok: ∀i b,s.on[i]? =some b->okB sz od no s i b
structure Pre (s t:Law.Mk):Prop where
 oe:s.oe<+:t.oe
 on:s.on<+:t.on
theorem Pre.refl (s:Law.Mk):Pre s s:=⟨List.prefix_refl _,List.prefix_refl _⟩
theorem Pre.trans {s t u:Law.Mk}(h:Pre s t)(k:Pre t u):Pre s u:=⟨h.oe.trans k.oe,h.on.trans k.on⟩
theorem okR.mono {s s':Law.Mk}(h:Pre s s'){r r':Nat}(hr:r'<=r){t:Int}(k:okR od no s r t):okR od no s' r' t:=
 ⟨fun h0=>Nat.lt_of_lt_of_le (k.1 h0) h.oe.length_le,fun h0=>by
   obtain⟨b,p,h1,h2,h3,h4⟩:=k.2 h0
   exact⟨b,p,c0s h.on h1,by omega,h3,h4⟩⟩
theorem okR.lt {s:Law.Mk}{r:Nat}{t:Int}(k:okR od no s r t):t<s.on.length:=by
 rcases Int.lt_or_le t 0 with h|h
 ·omega
 ·obtain⟨b,p,h1,_⟩:=k.2 h
  have:=(List.getElem?_eq_some_iff.1 h1).1
  omega
def rgs (s:Law.Mk):List Int×List Int:=(Law.rng s.on.length,Law.rng s.oe.length)
theorem b2k {N:List NdR}{f:Nat}{t:Int}{n e:Nat}(ht:t<f)(h1:t<n)(h2:t<0->(-1-t).toNat<e):Law.srch N f t (Law.rng n,Law.rng e)=(Law.rng n,Law.rng e):=by
 rcases Int.lt_or_le t 0 with h|h
 ·have:=h2 h
  have hm:(-1-t)∈Law.rng e:=Law.mem_rng.2 ⟨by omega,by omega⟩
  cases f with
  |zero=>rw[Law.srch,if_pos h];simp[a3t,hm]
  |succ f=>rw[Law.srch,if_pos h];simp[a3t,hm]
 ·cases f with
  |zero=>omega
  |succ f=>rw[Law.srch,if_neg (by omega),if_pos (Law.mem_rng.2 ⟨h,h1⟩)]
def b5t (od str:Nat->Nat)(p:Nat->Nat):Nat->Nat->Nat
 |0,_=>0
 |m+1,r=>p (od r)*str (od r)+b5t od str p m (r+1)
structure Res (C:Nat->VaR)(sz od str:Nat->Nat)(no m r num:Nat)(s s':Law.Mk)(t:Int):Prop where
 pre:Pre s s'
 inv:Inv sz od no s'
 new: ∀i b,s.on.length<=i->s'.on[i]? =some b-> ∃p,r<=p/\p<no/\b.var=(od p:Int)
 ref:okR od no s' r t
 srch: ∀N f,s'.on<+:N->t<(f:Nat)->Law.srch N f t (rgs s)=rgs s'
 way: ∀p:Nat->Nat,(∀i,i<no->p (od i)<sz (od i))-> ∃e:Int,e<0/\Way s'.on p t e/\s'.oe[(-1-e).toNat]? =some (C (num+b5t od str p m r))
theorem e5d {s:Law.Mk}(hs:Inv sz od no s)(num r:Nat):Res C sz od str no 0 r num s (Law.mkEnd s (C num)).1 (Law.mkEnd s (C num)).2:=by
 have hle:=Law.at1_le s.oe (C num)
 have hpre:Pre s (Law.mkEnd s (C num)).1:=⟨Law.onceE_pre _ _,List.prefix_refl _⟩
 have hget:(Law.onceE s.oe (C num))[Law.at1 s.oe (C num)]? =some (C num):=by
  by_cases h:C num∈s.oe
  ·rw[Law.onceE_mem h]
   obtain⟨i,hi⟩:=List.getElem?_of_mem h
   rw[Law.at1_mem hs.oe hi];exact hi
  ·rw[Law.onceE_not h,Law.at1_not h];simp
 have hlt:Law.at1 s.oe (C num)<(Law.onceE s.oe (C num)).length:=(List.getElem?_eq_some_iff.1 hget).1
 refine⟨hpre,⟨Law.nodup_onceE hs.oe _,hs.on,fun i b hb=> ?_⟩,fun i b hi hb=> ?_,⟨fun _=> ?_,fun h=> ?_⟩,fun N f _ hf=> ?_,fun p _=> ?_⟩
 ·obtain⟨p,h1,h2,h3,h4,h5⟩:=hs.ok i b hb
  exact⟨p,h1,h2,h3,h4,fun k hk=>⟨(h5 k hk).1,(h5 k hk).2.mono hpre (Nat.le_refl _)⟩⟩
 ·have:=(List.getElem?_eq_some_iff.1 hb).1
  simp only[Law.mkEnd] at this
  omega
 ·simp only[Law.mkEnd]
  rw[show (-1-(-1-(Law.at1 s.oe (C num):Int))).toNat=Law.at1 s.oe (C num) by omega];exact hlt
 ·simp only[Law.mkEnd] at h;omega
 ·simp only[Law.mkEnd,rgs]
  have hneg: -1-(Law.at1 s.oe (C num):Int)<0:=by omega
  have e1: -1-(-1-(Law.at1 s.oe (C num):Int))=(Law.at1 s.oe (C num):Int):=by omega
  have key:a3t (Law.rng s.oe.length) (Law.at1 s.oe (C num):Int)=Law.rng (Law.onceE s.oe (C num)).length:=by
   by_cases h:C num∈s.oe
   ·obtain⟨i,hi⟩:=List.getElem?_of_mem h
    have hi2:=(List.getElem?_eq_some_iff.1 hi).1
    rw[Law.onceE_mem h,Law.at1_mem hs.oe hi]
    have hm:(i:Int)∈Law.rng s.oe.length:=Law.mem_rng.2 ⟨by omega,by omega⟩
    simp[a3t,hm]
   ·rw[Law.onceE_not h,Law.at1_not h]
    have hm: ¬(s.oe.length:Int)∈Law.rng s.oe.length:=fun h=>by have:=Law.mem_rng.1 h;omega
    simp[a3t,hm,Law.rng_succ]
  cases f with
  |zero=>rw[Law.srch,if_pos hneg,e1,key]
  |succ f=>rw[Law.srch,if_pos hneg,e1,key]
 ·refine⟨-1-(Law.at1 s.oe (C num):Int),by omega,.fin (by simp only[Law.mkEnd];omega),?_⟩
  simp only[Law.mkEnd,b5t,Nat.add_zero]
  rw[show (-1-(-1-(Law.at1 s.oe (C num):Int))).toNat=Law.at1 s.oe (C num) by omega];exact hget
theorem e7e {k:Nat}(U:Nat->Int)(x:Int):L k (a0r U k x)=L k U:=a3i fun j hj=>by simp[a0r,show j≠k by omega]
structure g3d (C:Nat->VaR)(sz od str:Nat->Nat)(no m r num st k:Nat)(s s':Law.Mk)(U:Nat->Int):Prop where
 pre:Pre s s'
 inv:Inv sz od no s'
 new: ∀i b,s.on.length<=i->s'.on[i]? =some b-> ∃p,r<=p/\p<no/\b.var=(od p:Int)
 ref: ∀j,j<k->okR od no s' r (U j)
 srch: ∀N f,s'.on<+:N->(∀j,j<k->U j<(f:Nat))->(L k U).foldl (fun s k=>Law.srch N f k s) (rgs s)=rgs s'
 way: ∀j,j<k-> ∀p:Nat->Nat,(∀i,i<no->p (od i)<sz (od i))-> ∃e:Int,e<0/\Way s'.on p (U j) e/\s'.oe[(-1-e).toNat]? =some (C (num+j*st+b5t od str p m r))
theorem c7y {g:Nat->Law.Mk->Law.Mk×Int}{m r num st:Nat}(hg: ∀k t,Inv sz od no t->Res C sz od str no m r (num+k*st) t (g k t).1 (g k t).2){s:Law.Mk}(hs:Inv sz od no s):
 ∀k,g3d C sz od str no m r num st k s (a1t g k s).1 (a1t g k s).2
 |0=>⟨Pre.refl _,hs,fun i b hi hb=>by have:=(List.getElem?_eq_some_iff.1 hb).1;simp only[a1t] at this;omega,fun j hj=>by omega,fun N f _ _=>by simp[a1t,L],fun j hj=>by omega⟩
 |k+1=>by
  have ih:=c7y hg hs k
  have h:=hg k (a1t g k s).1 ih.inv
  rw[a1t]
  generalize a1t g k s=F at ih h
  generalize g k F.1=G at h
  simp only
  refine⟨ih.pre.trans h.pre,h.inv,fun i b hi hb=> ?_,fun j hj=> ?_,fun N f hN hf=> ?_,fun j hj p hp=> ?_⟩
  ·by_cases hl:i<F.1.on.length
   ·exact ih.new i b hi (b4c h.pre.on hl hb)
   ·exact h.new i b (by omega) hb
  ·simp only[a0r]
   split
   ·exact h.ref
   ·exact (ih.ref j (by omega)).mono h.pre (Nat.le_refl _)
  ·rw[a7n,e7e,List.foldl_append,ih.srch N f (h.pre.on.trans hN) fun j hj=>by have:=hf j (by omega);simpa [a0r,show j≠k by omega] using this]
   have hk:=hf k (by omega)
   simp only[a0r,if_true,List.foldl_cons,List.foldl_nil] at hk⊢
   exact h.srch N f hN hk
  ·simp only[a0r]
   split
   ·rename_i e;subst e;exact h.way p hp
   ·obtain⟨e,h1,h2,h3⟩:=ih.way j (by omega) p hp
    exact⟨e,h1,h2.mono h.pre.on,c0s h.pre.oe h3⟩
theorem a6i {α β:Type}{g:α->β->α}{x:α}: ∀{l:List β},(∀b,b∈l->g x b=x)->l.foldl g x=x
 |[],_=>rfl
 |b::l,h=>by rw[List.foldl_cons,h b (by simp),a6i fun c hc=>h c (by simp[hc])]
theorem d9v {m r num:Nat}{s S:Law.Mk}{U:Nat->Int}(hs:Inv sz od no s)(hr:r<no)(hinj: ∀i j,i<no->j<no->od i=od j->i=j)(hw:1<=sz (od r))(h:g3d C sz od str no m (r+1) num (str (od r)) (sz (od r)) s S U)
 (h1: ∀N f,S.on<+:N->U 0<(f:Nat)->(∀j,j<sz (od r)->U j=U 0)->Law.srch N f (U 0) (rgs s)=rgs S):
 Res C sz od str no (m+1) r num s (Law.mkNode S ⟨(od r:Int),L (sz (od r)) U⟩).1 (Law.mkNode S ⟨(od r:Int),L (sz (od r)) U⟩).2:=by
 have hwayC: ∀p:Nat->Nat,(∀i,i<no->p (od i)<sz (od i))-> ∃e:Int,e<0/\Way S.on p (U (p (od r))) e/\S.oe[(-1-e).toNat]? =some (C (num+b5t od str p (m+1) r)):=fun p hp=>by
  obtain⟨e,a,b,c⟩:=h.way (p (od r)) (hp r hr) p hp
  exact⟨e,a,b,by rw[b5t,<-Nat.add_assoc];exact c⟩
 by_cases hf:Law.flatL (L (sz (od r)) U)
 ·have hU: ∀j,j<sz (od r)->U j=U 0:=(b1k hw).1 hf
  have e:Law.mkNode S ⟨(od r:Int),L (sz (od r)) U⟩=(S,U 0):=by rw[Law.mkNode,if_pos hf,b5h hw]
  rw[e]
  refine⟨h.pre,h.inv,fun i b hi hb=> ?_,(h.ref 0 (by omega)).mono (Pre.refl _) (by omega),fun N f hN ht=>h1 N f hN ht hU,fun p hp=> ?_⟩
  ·obtain⟨p,a,b,c⟩:=h.new i b hi hb
   exact⟨p,by omega,b,c⟩
  ·obtain⟨e,a,b,c⟩:=hwayC p hp
   exact⟨e,a,by rw[hU _ (hp r hr)] at b;exact b,c⟩
 obtain⟨b,hb⟩: ∃b:NdR,b=⟨(od r:Int),L (sz (od r)) U⟩:=⟨_,rfl⟩
 have e:Law.mkNode S ⟨(od r:Int),L (sz (od r)) U⟩=({S with on:=Law.onceE S.on b},(Law.at1 S.on b:Int)):=by rw[Law.mkNode,if_neg hf,hb]
 rw[e]
 have hbv:b.var=(od r:Int):=by rw[hb]
 have hbk:b.kids=L (sz (od r)) U:=by rw[hb]
 have hfb: ¬Law.flatL b.kids:=by rw[hbk];exact hf
 have hway: ∀z:Nat,(∀on':List NdR,S.on<+:on'->on'[z]? =some b-> ∀p:Nat->Nat,(∀i,i<no->p (od i)<sz (od i))-> ∃e:Int,e<0/\Way on' p z e/\S.oe[(-1-e).toNat]? =some (C (num+b5t od str p (m+1) r))):=fun z on' ho hz p hp=>by
  obtain⟨e,a,w,c⟩:=hwayC p hp
  refine⟨e,a,.node hz ?_,c⟩
  rw[hbv,hbk,Int.toNat_natCast,List.getD,a6x,if_pos (hp r hr)]
  exact w.mono ho
 by_cases hm:b∈S.on
 ·obtain⟨z,hz⟩:=List.getElem?_of_mem hm
  have hzl:=(List.getElem?_eq_some_iff.1 hz).1
  have ha:=Law.at1_mem h.inv.on hz
  have hS:({S with on:=Law.onceE S.on b}:Law.Mk)=S:=by rw[Law.onceE_mem hm]
  rw[hS,ha]
  have hzs:z<s.on.length:=by
   apply Classical.byContradiction
   intro hn
   obtain⟨p,a1,a2,a3⟩:=h.new z b (by omega) hz
   have:=hinj r p hr a2 (by omega)
   omega
  obtain⟨p,a1,a2,a3,a4,a5⟩:=hs.ok z b (b4c h.pre.on hzs hz)
  have hvis: ∀N f,S.on<+:N->(∀j,j<sz (od r)->U j<(f:Nat))->rgs s=rgs S:=fun N f hN hf=>by
   rw[<-h.srch N f hN hf,<-hbk]
   refine (a6i fun k hk=> ?_).symm
   obtain⟨q1,q2⟩:=a5 k hk
   refine b2k ?_ q2.lt q2.1
   rw[hbk] at hk
   obtain⟨j,hj,rfl⟩:=a5t.1 hk
   exact hf j hj
  refine⟨h.pre,h.inv,fun i c hi hc=> ?_,⟨fun h=>by omega,fun _=>⟨b,r,by simpa using hz,Nat.le_refl _,hr,hbv⟩⟩,fun N f hN ht=> ?_,fun p hp=>hway z S.on (List.prefix_refl _) hz p hp⟩
  ·obtain⟨p,a,b,c⟩:=h.new i c hi hc
   exact⟨p,by omega,b,c⟩
  ·rw[<-hvis N S.on.length hN fun j hj=>(h.ref j hj).lt]
   exact b2k ht (by omega) (by omega)
 ·have ha:=Law.at1_not hm
  rw[Law.onceE_not hm,ha]
  have hp2:Pre S {S with on:=S.on++[b]}:=⟨List.prefix_refl _,List.prefix_append _ _⟩
  have hg:(S.on++[b])[S.on.length]? =some b:=by simp
  refine⟨h.pre.trans hp2,⟨h.inv.oe,?_,fun i c hc=> ?_⟩,fun i c hi hc=> ?_,⟨fun h=>by omega,fun _=>⟨b,r,by simp,Nat.le_refl _,hr,hbv⟩⟩,fun N f hN ht=> ?_,fun p hp=>hway _ _ hp2.on hg p hp⟩
  ·rw[List.nodup_append]
   exact⟨h.inv.on,by simp,fun x hx y hy=>by simp at hy;subst hy;exact fun e=>hm (e▸hx)⟩
  ·by_cases hl:i<S.on.length
   ·obtain⟨p,a1,a2,a3,a4,a5⟩:=h.inv.ok i c (b4c hp2.on hl hc)
    exact⟨p,a1,a2,a3,a4,fun k hk=>⟨(a5 k hk).1,(a5 k hk).2.mono hp2 (Nat.le_refl _)⟩⟩
   ·have hl2:=(List.getElem?_eq_some_iff.1 hc).1
    simp at hl2
    obtain rfl:i=S.on.length:=by omega
    rw[hg] at hc
    obtain rfl:b=c:=by simpa using hc
    refine⟨r,hr,hbv,by rw[hbk,a0k],hfb,fun k hk=> ?_⟩
    rw[hbk] at hk
    obtain⟨j,hj,rfl⟩:=a5t.1 hk
    exact⟨(h.ref j hj).lt,(h.ref j hj).mono hp2 (Nat.le_refl _)⟩
  ·by_cases hl:i<S.on.length
   ·obtain⟨p,a,q,d⟩:=h.new i c hi (b4c hp2.on hl hc)
    exact⟨p,by omega,q,d⟩
   ·have hl2:=(List.getElem?_eq_some_iff.1 hc).1
    simp at hl2
    obtain rfl:i=S.on.length:=by omega
    rw[hg] at hc
    obtain rfl:b=c:=by simpa using hc
    exact⟨r,Nat.le_refl _,hr,hbv⟩
  ·obtain⟨f,rfl⟩: ∃g,f=g+1:=⟨f-1,by omega⟩
   have hlen:=h.pre.on.length_le
   have hfold:=h.srch N f (hp2.on.trans hN) fun j hj=>by have:=(h.ref j hj).lt;omega
   rw[Law.srch,if_neg (by omega),if_neg (fun hq=>by have:=Law.mem_rng.1 hq;omega),Int.toNat_natCast,c0s hN hg]
   simp only[hbk,hfold]
   simp[rgs,Law.rng_succ]
theorem d6m (hinj: ∀i j,i<no->j<no->od i=od j->i=j)(hsz: ∀i,i<no->1<=sz (od i)): ∀(m r num:Nat) (s:Law.Mk),r+m=no->Inv sz od no s->Res C sz od str no m r num s (ofW C sz od str m r num s).1 (ofW C sz od str m r num s).2
 |0,r,num,s,_,hs=>e5d hs num r
 |m+1,r,num,s,hr,hs=>by
  have hg: ∀k t,Inv sz od no t->Res C sz od str no m (r+1) (num+k*str (od r)) t (ofW C sz od str m (r+1) (num+k*str (od r)) t).1 (ofW C sz od str m (r+1) (num+k*str (od r)) t).2:=fun k t ht=>d6m hinj hsz m (r+1) _ t (by omega) ht
  have hf:=fun k=>c7y hg hs k
  have hw:=hsz r (by omega)
  rw[ofW]
  refine d9v hs (by omega) hinj hw (hf _) fun N f hN ht hU=> ?_
  generalize hG:(fun k s=>ofW C sz od str m (r+1) (num+k*str (od r)) s)=G at hf hN ht hU⊢
  have hmono: ∀k,1<=k->(a1t G k s).2 0=(a1t G 1 s).2 0:=fun k hk=>by
   induction k with
   |zero=>omega
   |succ k ih=>
    by_cases h:k=0
    ·subst h;rfl
    ·rw[a1t];simp only[a0r,show¬0=k by omega,if_false];exact ih (by omega)
  have hpre1: ∀k,1<=k->Pre (a1t G 1 s).1 (a1t G k s).1:=fun k hk=>by
   induction k with
   |zero=>omega
   |succ k ih=>
    by_cases h:k=0
    ·subst h;exact Pre.refl _
    ·have hp:=(hg k (a1t G k s).1 (hf k).inv).pre
     rw[show ofW C sz od str m (r+1) (num+k*str (od r)) (a1t G k s).1=G k (a1t G k s).1 from congrFun (congrFun hG k) _] at hp
     exact (ih (by omega)).trans hp
  have q1:=(hf 1).srch N f ((hpre1 _ hw).on.trans hN) fun j hj=>by
   obtain rfl:j=0:=by omega
   rw[<-hmono _ hw];exact ht
  have q2:=(hf (sz (od r))).srch N f hN fun j hj=>by rw[hU j hj];exact ht
  have q3:=(hf 1).ref 0 (by omega)
  rw[<-hmono _ hw] at q3
  have e1:L 1 (a1t G 1 s).2=[(a1t G (sz (od r)) s).2 0]:=by simp[L,hmono _ hw]
  rw[e1] at q1
  simp only[List.foldl_cons,List.foldl_nil] at q1
  obtain⟨w,hw2⟩: ∃w,sz (od r)=w+1:=⟨sz (od r)-1,by omega⟩
  have e2: ∃l:List Int,L (sz (od r)) (a1t G (sz (od r)) s).2=(a1t G (sz (od r)) s).2 0::l/\ ∀x,x∈l->x=(a1t G (sz (od r)) s).2 0:=by
   refine⟨L w fun i=>(a1t G (sz (od r)) s).2 (i+1),?_,fun x hx=> ?_⟩
   ·rw[hw2];simp[L,List.range_succ_eq_map,List.map_map,Function.comp_def]
   ·obtain⟨i,hi,rfl⟩:=a5t.1 hx
    exact hU _ (by omega)
  obtain⟨l,e3,e4⟩:=e2
  rw[e3,List.foldl_cons,q1,a6i fun b hb=>by rw[e4 b hb];exact b2k ht q3.lt q3.1] at q2
  rw[q1,q2]
theorem g9f:Inv sz od no s0:=⟨List.nodup_nil,List.nodup_nil,fun i b h=>by simp[s0] at h⟩
theorem b8c {P:VaR->Prop}{g:Nat->Law.Mk->Law.Mk×Int}{w:Nat}(hg: ∀k s,k<w->(∀v,v∈s.oe->P v)-> ∀v,v∈(g k s).1.oe->P v)(s:Law.Mk)(hs: ∀v,v∈s.oe->P v): ∀k,k<=w-> ∀v,v∈(a1t g k s).1.oe->P v
 |0,_=>hs
 |k+1,h=>hg k _ (by omega) (b8c hg s hs k (by omega))
theorem c0t {P:VaR->Prop}{T:Nat}(hP: ∀j,j<T->P (C j)): ∀(m r num:Nat) (s:Law.Mk),num+a9b sz od str m r<T->(∀v,v∈s.oe->P v)-> ∀v,v∈(ofW C sz od str m r num s).1.oe->P v
 |0,r,num,s,hn,hs=>b4w hs (hP num (by simpa [a9b] using hn))
 |m+1,r,num,s,hn,hs=>by
  have h1:=b8c (P:=P) (w:=sz (od r)) (g:=fun k s=>ofW C sz od str m (r+1) (num+k*str (od r)) s) (fun k t hk ht=>c0t hP m (r+1) _ t (by
   rw[a9b] at hn
   have:k*str (od r)<=(sz (od r)-1)*str (od r):=Nat.mul_le_mul_right _ (by omega)
   omega) ht) s hs (sz (od r)) (Nat.le_refl _)
  rw[ofW]
  unfold Law.mkNode
  split
  ·exact h1
  ·exact h1
end
theorem Way.inv {on:List NdR}{p:Nat->Nat}{t e:Int}(w:Way on p t e):(t<0/\e=t)\/ ∃(k:Nat) (b:NdR),t=(k:Int)/\on[k]? =some b/\Way on p (b.kids.getD (p b.var.toNat) 0) e:=by
 cases w with
 |fin h=>exact .inl ⟨h,rfl⟩
 |node h1 h2=>exact .inr ⟨_,_,rfl,h1,h2⟩
theorem b2i (n:Nat):(Law.rng n).length=n:=a0k _ _
theorem b2n {n m:Nat}(h:Law.rng n=Law.rng m):n=m:=by rw[<-b2i n,h,b2i]
theorem d3b {l:List Int}{n:Nat}(h:l<+:Law.rng n):l=Law.rng l.length/\l.length<=n:=by
 have hl:=h.length_le
 rw[b2i] at hl
 refine⟨?_,hl⟩
 have:=List.prefix_iff_eq_take.1 h
 rw[this]
 simp only[List.length_take,b2i,Nat.min_eq_left hl]
 apply List.ext_getElem?
 intro i
 unfold Law.rng
 rw[List.getElem?_take,a6x,a6x]
 by_cases h:i<l.length
 ·simp[h,show i<n by omega]
 ·simp[h]
theorem a9i {N:List NdR}{f:Nat}: ∀{l:List Int} {s:List Int×List Int},s.1<+:(l.foldl (fun s k=>Law.srch N f k s) s).1/\s.2<+:(l.foldl (fun s k=>Law.srch N f k s) s).2
 |[],s=>⟨List.prefix_refl _,List.prefix_refl _⟩
 |k::l,s=>by
  rw[List.foldl_cons]
  have h1:=Law.srch_pre N f k s
  have h2:=a9i (N:=N) (f:=f) (l:=l) (s:=Law.srch N f k s)
  exact⟨h1.1.trans h2.1,h1.2.trans h2.2⟩
theorem e2q {N:List NdR}{f n' e':Nat}{k:Int}{s:List Int×List Int}(hk:k<f)(hN:k<N.length)(h:Law.srch N f k s=(Law.rng n',Law.rng e')):k<n'/\(k<0->(-1-k).toNat<e'):=by
 rcases Int.lt_or_le k 0 with h0|h0
 ·have:(s.1,a3t s.2 (-1-k))=(Law.rng n',Law.rng e'):=by
   rw[<-h]
   cases f<;>rw[Law.srch,if_pos h0]
  have h2:a3t s.2 (-1-k)=Law.rng e':=congrArg Prod.snd this
  have hm:(-1-k)∈a3t s.2 (-1-k):=by unfold a3t;split<;>simp_all
  rw[h2] at hm
  have:=Law.mem_rng.1 hm
  exact⟨by omega,fun _=>by omega⟩
 ·refine⟨?_,fun h=>by omega⟩
  obtain⟨f,rfl⟩: ∃g,f=g+1:=⟨f-1,by omega⟩
  rw[Law.srch,if_neg (by omega)] at h
  have hm:k∈Law.rng n':=by
   split at h
   ·rename_i h1;rw[h] at h1;exact h1
   ·obtain⟨b,hb⟩: ∃b,N[k.toNat]? =some b:=⟨_,List.getElem?_eq_getElem (by omega)⟩
    rw[hb] at h
    have:=congrArg Prod.fst h
    simp only at this
    rw[<-this];simp
  exact (Law.mem_rng.1 hm).2
section
variable {C:Nat->VaR} {sz od str:Nat->Nat} {no:Nat} {D:Law.Mk}
def cut (D:Law.Mk)(n e:Nat):Law.Mk:=⟨D.oe.take e,D.on.take n,fun _=>none⟩
def b3b (D:Law.Mk)(n e:Nat):Prop:= ∀i b,i<n->D.on[i]? =some b-> ∀k,k∈b.kids->k<0->(-1-k).toNat<e
theorem okR.kid (hD:Inv sz od no D)(hinj: ∀i j,i<no->j<no->od i=od j->i=j){r k:Nat}{b:NdR}(hb:D.on[k]? =some b)(hr:okR od no D r (k:Int)):
 ∃q,r<=q/\q<no/\b.var=(od q:Int)/\b.kids.length=sz (od q)/\ ¬Law.flatL b.kids/\ ∀k',k'∈b.kids->k'<k/\okR od no D (q+1) k':=by
 obtain⟨b',p,h1,h2,h3,h4⟩:=hr.2 (by omega)
 rw[Int.toNat_natCast,hb] at h1
 obtain rfl:b=b':=by simpa using h1
 obtain⟨q,g1,g2,g3,g4,g5⟩:=hD.ok k b hb
 have:p=q:=hinj p q h3 g1 (by omega)
 subst this
 exact⟨p,h2,g1,g2,g3,g4,g5⟩
theorem Way.indep (hD:Inv sz od no D)(hinj: ∀i j,i<no->j<no->od i=od j->i=j){p p':Nat->Nat}(hp: ∀i,i<no->p (od i)<sz (od i)){k x:Int}(w:Way D.on p k x):
 ∀r,okR od no D r k->(∀i,r<=i->i<no->p (od i)=p' (od i))->Way D.on p' k x:=by
 induction w with
 |fin h=>intro r _ _;exact .fin h
 | @node k b e h1 _ ih=>
   intro r hr he
   obtain⟨q,g1,g2,g3,g4,g5,g6⟩:=okR.kid hD hinj h1 hr
   refine .node h1 ?_
   rw[g3,Int.toNat_natCast,<-he q g1 g2]
   rw[g3,Int.toNat_natCast] at ih
   have hq:=hp q g2
   have hm:b.kids.getD (p (od q)) 0∈b.kids:=by
    rw[List.getD,List.getElem?_eq_getElem (by omega)]
    exact List.getElem_mem _
   exact ih (q+1) (g6 _ hm).2 fun i h1 h2=>he i (by omega) h2
def f7q (C:Nat->VaR)(sz od str:Nat->Nat)(no:Nat)(D:Law.Mk)(m r num:Nat)(k:Int):Prop:=
 ∀p:Nat->Nat,(∀i,i<no->p (od i)<sz (od i))-> ∃x:Int,x<0/\Way D.on p k x/\D.oe[(-1-x).toNat]? =some (C (num+b5t od str p m r))
theorem b7x {p p':Nat->Nat}: ∀{m r:Nat},(∀i,r<=i->i<r+m->p (od i)=p' (od i))->b5t od str p m r=b5t od str p' m r
 |0,_,_=>rfl
 |m+1,r,h=>by rw[b5t,b5t,h r (Nat.le_refl _) (by omega),b7x fun i h1 h2=>h i (by omega) (by omega)]
theorem e7b (hD:Inv sz od no D){n e n' e' f:Nat}{k:Int}{num:Nat}(h0:k<0)(hn:n<=D.on.length)(he:e<=D.oe.length)(hv:D.oe[(-1-k).toNat]? =some (C num))
 (hc:b3b D n e) (hs:Law.srch D.on f k (Law.rng n,Law.rng e)=(Law.rng n',Law.rng e')):Law.mkEnd (cut D n e) (C num)=(cut D n' e',k)/\b3b D n' e':=by
 have h1:(Law.rng n,a3t (Law.rng e) (-1-k))=(Law.rng n',Law.rng e'):=by
  rw[<-hs]
  cases f<;>rw[Law.srch,if_pos h0]
 have h2:=b2n (congrArg Prod.fst h1:Law.rng n=Law.rng n')
 have h3:a3t (Law.rng e) (-1-k)=Law.rng e':=congrArg Prod.snd h1
 subst h2
 have hj:=(List.getElem?_eq_some_iff.1 hv).1
 by_cases hin:(-1-k).toNat<e
 ·have hm:(-1-k)∈Law.rng e:=Law.mem_rng.2 ⟨by omega,by omega⟩
  have:Law.rng e=Law.rng e':=by rw[<-h3];simp[a3t,hm]
  have:=b2n this
  subst this
  have ht:=Law.take_get hv hin
  refine⟨?_,hc⟩
  unfold Law.mkEnd cut
  simp only
  rw[Law.onceE_mem (List.mem_of_getElem? ht),Law.at1_mem (Law.nodup_take hD.oe _) ht]
  congr 1
  omega
 ·have hm: ¬(-1-k)∈Law.rng e:=fun h=>by have:=Law.mem_rng.1 h;omega
  have h4:Law.rng e++[-1-k]=Law.rng e':=by rw[<-h3];simp[a3t,hm]
  have h5:e'=e+1:=by have:=congrArg List.length h4;simp[b2i] at this;omega
  subst h5
  rw[Law.rng_succ] at h4
  have h6: -1-k=(e:Int):=by simpa using h4
  have h7:(-1-k).toNat=e:=by omega
  rw[h7] at hv
  refine⟨?_,fun i b hi hb k hk h0=>by have:=hc i b hi hb k hk h0;omega⟩
  unfold Law.mkEnd cut
  simp only
  have hnm:=Law.not_take hD.oe hv (Nat.le_refl e)
  rw[Law.onceE_not hnm,Law.at1_not hnm,Law.take_succ hv,List.length_take]
  congr 1
  omega
theorem b3t {g:Nat->Law.Mk->Law.Mk×Int}{kd:Nat->Int}{f w:Nat}(hg: ∀j,j<w-> ∀n e n' e',n<=D.on.length->e<=D.oe.length->n'<=D.on.length->e'<=D.oe.length->b3b D n e->Law.srch D.on f (kd j) (Law.rng n,Law.rng e)=(Law.rng n',Law.rng e')->g j (cut D n e)=(cut D n' e',kd j)/\b3b D n' e')
 {n e:Nat} (hn:n<=D.on.length) (he:e<=D.oe.length) (hc:b3b D n e): ∀j,j<=w-> ∀n' e',n'<=D.on.length->e'<=D.oe.length->(L j kd).foldl (fun s k=>Law.srch D.on f k s) (Law.rng n,Law.rng e)=(Law.rng n',Law.rng e')->
   (a1t g j (cut D n e)).1=cut D n' e'/\b3b D n' e'/\ ∀i,i<j->(a1t g j (cut D n e)).2 i=kd i
 |0,_,n',e',h1,h2,h=>by
  simp only[L,List.range_zero,List.map_nil,List.foldl_nil,Prod.mk.injEq] at h
  have e1:=b2n h.1
  have e2:=b2n h.2
  subst e1 e2
  exact⟨rfl,hc,fun i hi=>by omega⟩
 |j+1,hj,n',e',h1,h2,h=>by
  rw[a7n,List.foldl_append,List.foldl_cons,List.foldl_nil] at h
  have hp:=Law.srch_pre D.on f (kd j) ((L j kd).foldl (fun s k=>Law.srch D.on f k s) (Law.rng n,Law.rng e))
  rw[h] at hp
  obtain⟨p1,p2⟩:=d3b hp.1
  obtain⟨p3,p4⟩:=d3b hp.2
  obtain⟨X,hX⟩: ∃X,X=(L j kd).foldl (fun s k=>Law.srch D.on f k s) (Law.rng n,Law.rng e):=⟨_,rfl⟩
  rw[<-hX] at h p1 p2 p3 p4
  obtain⟨q1,q2,q3⟩:=b3t hg hn he hc j (by omega) X.1.length X.2.length (by omega) (by omega) (by rw[<-hX,<-p1,<-p3])
  have h':Law.srch D.on f (kd j) (Law.rng X.1.length,Law.rng X.2.length)=(Law.rng n',Law.rng e'):=by rw[<-p1,<-p3];exact h
  obtain⟨r1,r2⟩:=hg j (by omega) X.1.length X.2.length n' e' (by omega) (by omega) h1 h2 q2 h'
  rw[a1t,q1,r1]
  refine⟨rfl,r2,fun i hi=> ?_⟩
  simp only[a0r]
  split
  ·rename_i e;rw[e]
  ·exact q3 i (by omega)
theorem d6p {w:Nat}{U:Nat->Int}{l:List Int}(hl:l.length=w)(h: ∀i,i<w->U i=l.getD i 0):L w U=l:=by
 subst hl
 exact (a3i h).trans (a9g l 0)
theorem e6q (hD:Inv sz od no D)(hinj: ∀i j,i<no->j<no->od i=od j->i=j)(hsz: ∀i,i<no->1<=sz (od i)): ∀(m r num:Nat) (k:Int) (n e n' e' f:Nat),r+m=no->okR od no D r k->f7q C sz od str no D m r num k->k<f->
 n<=D.on.length->e<=D.oe.length->n'<=D.on.length->e'<=D.oe.length->b3b D n e->Law.srch D.on f k (Law.rng n,Law.rng e)=(Law.rng n',Law.rng e')->
  ofW C sz od str m r num (cut D n e)=(cut D n' e',k)/\b3b D n' e':=by
 intro m
 induction m with
 |zero=>
  intro r num k n e n' e' f hr hk hsay hf hn he hn' he' hc hs
  have h0:k<0:=by
   apply Classical.byContradiction
   intro h
   obtain⟨b,p,_,h2,h3,_⟩:=hk.2 (by omega)
   omega
  have hex: ∃p:Nat->Nat,∀i,i<no->p (od i)<sz (od i):=⟨fun _=>0,fun i hi=>hsz i hi⟩
  obtain⟨p,hp⟩:=hex
  obtain⟨x,h1,h2,h3⟩:=hsay p hp
  rcases h2.inv with⟨_,rfl⟩|⟨k',b,e,_⟩
  ·rw[b5t,Nat.add_zero] at h3
   exact e7b hD h0 hn he h3 hc hs
  ·omega
 |succ m ih=>
  intro r num k n e n' e' f hr hk hsay hf hn he hn' he' hc hs
  have hrn:r<no:=by omega
  have hw:=hsz r hrn
  have hpu: ∀(p:Nat->Nat) (j:Nat),(∀i,i<no->p (od i)<sz (od i))->j<sz (od r)-> ∀i,i<no->(fun c=>if c=od r then j else p c) (od i)<sz (od i):=fun p j hp hj i hi=>by
   simp only
   split
   ·rename_i h;rw[h];exact hj
   ·exact hp i hi
  have hpe: ∀(p:Nat->Nat) (j:Nat),∀i,r+1<=i->i<no->(fun c=>if c=od r then j else p c) (od i)=p (od i):=fun p j i h1 h2=>by
   have:od i≠od r:=fun h=>by have:=hinj i r h2 hrn h;omega
   simp only[if_neg this]
  have hoff: ∀(p:Nat->Nat) (j:Nat),num+b5t od str (fun c=>if c=od r then j else p c) (m+1) r=num+j*str (od r)+b5t od str p m (r+1):=fun p j=>by
   rw[b5t,if_pos rfl,b7x (p:=fun c=>if c=od r then j else p c) (p':=p) fun i h1 h2=>hpe p j i h1 (by omega)]
   omega
  rw[ofW]
  by_cases hA:okR od no D (r+1) k
  ·
   have hsay2: ∀j,j<sz (od r)->f7q C sz od str no D m (r+1) (num+j*str (od r)) k:=fun j hj p hp=>by
    obtain⟨x,h1,h2,h3⟩:=hsay (fun c=>if c=od r then j else p c) (hpu p j hp hj)
    rw[hoff] at h3
    exact⟨x,h1,h2.indep hD hinj (hpu p j hp hj) (r+1) hA fun i a b=>hpe p j i a b,h3⟩
   have hin:=e2q hf hk.lt hs
   have hfold:(L (sz (od r)) fun _=>k).foldl (fun s k=>Law.srch D.on f k s) (Law.rng n,Law.rng e)=(Law.rng n',Law.rng e'):=by
    obtain⟨w,hw2⟩: ∃w,sz (od r)=w+1:=⟨sz (od r)-1,by omega⟩
    have:(L (sz (od r)) fun _=>k)=k::L w fun _=>k:=by rw[hw2];simp[L,List.range_succ_eq_map,List.map_map,Function.comp_def]
    rw[this,List.foldl_cons,hs]
    refine a6i fun b hb=> ?_
    obtain⟨i,_,rfl⟩:=a5t.1 hb
    exact b2k hf hin.1 hin.2
   obtain⟨q1,q2,q3⟩:=b3t (g:=fun k s=>ofW C sz od str m (r+1) (num+k*str (od r)) s) (kd:=fun _=>k) (f:=f) (w:=sz (od r))
    (fun j hj n e n' e' a1 a2 a3 a4 a5 a6=>ih (r+1) _ k n e n' e' f (by omega) hA (hsay2 j hj) hf a1 a2 a3 a4 a5 a6) hn he hc _ (Nat.le_refl _) n' e' hn' he' hfold
   refine⟨?_,q2⟩
   rw[q1,Law.mkNode,if_pos ((b1k hw).2 fun j hj=>by rw[q3 j hj,q3 0 (by omega)])]
   simp only
   rw[b5h hw,q3 0 (by omega)]
  ·have hk0:0<=k:=by
    apply Classical.byContradiction
    intro h
    exact hA ⟨hk.1,fun h2=>by omega⟩
   obtain⟨z,rfl⟩: ∃z:Nat,k=z:=⟨k.toNat,by omega⟩
   obtain⟨b,p0,hb,hp1,hp2,hp3⟩:=hk.2 hk0
   rw[Int.toNat_natCast] at hb
   have hp0:p0=r:=by
    apply Classical.byContradiction
    intro h
    exact hA ⟨fun h2=>by omega,fun _=>⟨b,p0,by simpa using hb,by omega,hp2,hp3⟩⟩
   subst hp0
   obtain⟨q,g1,g2,g3,g4,g5,g6⟩:=okR.kid hD hinj hb hk
   obtain rfl:q=p0:=hinj q p0 g2 hp2 (by omega)
   have hkm: ∀j,j<sz (od q)->b.kids.getD j 0∈b.kids:=fun j hj=>by
    rw[List.getD,List.getElem?_eq_getElem (by omega)]
    exact List.getElem_mem _
   have hsay2: ∀j,j<sz (od q)->f7q C sz od str no D m (q+1) (num+j*str (od q)) (b.kids.getD j 0):=fun j hj p hp=>by
    obtain⟨x,h1,h2,h3⟩:=hsay (fun c=>if c=od q then j else p c) (hpu p j hp hj)
    rw[hoff] at h3
    refine⟨x,h1,?_,h3⟩
    rcases h2.inv with⟨h,_⟩|⟨k',b',e1,e2,e3⟩
    ·omega
    ·obtain rfl:z=k':=by omega
     rw[hb] at e2
     obtain rfl:b=b':=by simpa using e2
     rw[g3,Int.toNat_natCast,if_pos rfl] at e3
     exact e3.indep hD hinj (hpu p j hp hj) (q+1) (g6 _ (hkm j hj)).2 fun i a b=>hpe p j i a b
   have hLk:(L (sz (od q)) fun j=>b.kids.getD j 0)=b.kids:=d6p g4 fun i _=>rfl
   by_cases hz:z<n
   ·have h1:=b2k (N:=D.on) (f:=f) (t:=(z:Int)) (n:=n) (e:=e) hf (by omega) (by omega)
    rw[h1] at hs
    obtain⟨e1,e2⟩:=Prod.mk.inj hs
    have e1:=b2n e1
    have e2:=b2n e2
    subst e1 e2
    have hfold:(L (sz (od q)) fun j=>b.kids.getD j 0).foldl (fun s k=>Law.srch D.on f k s) (Law.rng n,Law.rng e)=(Law.rng n,Law.rng e):=by
     rw[hLk]
     refine a6i fun k hk=> ?_
     have:=g6 k hk
     exact b2k (by omega) (by omega) (hc z b hz hb k hk)
    obtain⟨q1,q2,q3⟩:=b3t (g:=fun k s=>ofW C sz od str m (q+1) (num+k*str (od q)) s) (kd:=fun j=>b.kids.getD j 0) (f:=f) (w:=sz (od q))
     (fun j hj n e n' e' a1 a2 a3 a4 a5 a6=>ih (q+1) _ _ n e n' e' f (by omega) (g6 _ (hkm j hj)).2 (hsay2 j hj) (by have:=(g6 _ (hkm j hj)).1;omega) a1 a2 a3 a4 a5 a6) hn he hc _ (Nat.le_refl _) n e hn he hfold
    refine⟨?_,q2⟩
    have hbb:(⟨(od q:Int),L (sz (od q)) (a1t (fun k s=>ofW C sz od str m (q+1) (num+k*str (od q)) s) (sz (od q)) (cut D n e)).2⟩:NdR)=b:=by
     rw[d6p g4 q3]
     cases b
     simp only at g3⊢
     rw[g3]
    rw[q1,hbb,Law.mkNode,if_neg g5]
    have ht:=Law.take_get hb hz
    unfold cut
    simp only
    rw[Law.onceE_mem (List.mem_of_getElem? ht),Law.at1_mem (Law.nodup_take hD.on _) ht]
   ·obtain⟨f,rfl⟩: ∃g,f=g+1:=⟨f-1,by omega⟩
    rw[Law.srch,if_neg (by omega),if_neg (fun hq=>by have:=Law.mem_rng.1 hq;omega),Int.toNat_natCast,hb] at hs
    simp only at hs
    obtain⟨X,hX⟩: ∃X,X=b.kids.foldl (fun s k=>Law.srch D.on f k s) (Law.rng n,Law.rng e):=⟨_,rfl⟩
    rw[<-hX] at hs
    obtain⟨e1,e2⟩:=Prod.mk.inj hs
    have hlen:=congrArg List.length e1
    rw[List.length_append,b2i] at hlen
    simp at hlen
    obtain⟨v,rfl⟩: ∃v,n'=v+1:=⟨n'-1,by omega⟩
    rw[Law.rng_succ] at e1
    have e3:X.1=Law.rng v/\(z:Int)=(v:Int):=by
     have:=List.append_inj' e1 rfl
     exact⟨this.1,by simpa using this.2⟩
    obtain rfl:z=v:=by omega
    have hfold:(L (sz (od q)) fun j=>b.kids.getD j 0).foldl (fun s k=>Law.srch D.on f k s) (Law.rng n,Law.rng e)=(Law.rng z,Law.rng e'):=by
     rw[hLk,<-hX,<-e3.1,<-e2]
    obtain⟨q1,q2,q3⟩:=b3t (g:=fun k s=>ofW C sz od str m (q+1) (num+k*str (od q)) s) (kd:=fun j=>b.kids.getD j 0) (f:=f) (w:=sz (od q))
     (fun j hj n e n' e' a1 a2 a3 a4 a5 a6=>ih (q+1) _ _ n e n' e' f (by omega) (g6 _ (hkm j hj)).2 (hsay2 j hj) (by have:=(g6 _ (hkm j hj)).1;omega) a1 a2 a3 a4 a5 a6) hn he hc _ (Nat.le_refl _) z e' (by omega) he' hfold
    have hbb:(⟨(od q:Int),L (sz (od q)) (a1t (fun k s=>ofW C sz od str m (q+1) (num+k*str (od q)) s) (sz (od q)) (cut D n e)).2⟩:NdR)=b:=by
     rw[d6p g4 q3]
     cases b
     simp only at g3⊢
     rw[g3]
    refine⟨?_,fun i c hi hc2 k hk h0=> ?_⟩
    ·rw[q1,hbb,Law.mkNode,if_neg g5]
     have hnm:=Law.not_take hD.on hb (Nat.le_refl z)
     unfold cut
     simp only
     rw[Law.onceE_not hnm,Law.at1_not hnm,Law.take_succ hb,List.length_take]
     congr 2
     omega
    ·by_cases hi2:i<z
     ·exact q2 i c hi2 hc2 k hk h0
     ·obtain rfl:i=z:=by omega
      rw[hb] at hc2
      obtain rfl:b=c:=by simpa using hc2
      have hvis: ∀(l:List Int) (s:List Int×List Int) (n' e':Nat),l.foldl (fun s k=>Law.srch D.on f k s) s=(Law.rng n',Law.rng e')-> ∀k,k∈l->k<0->(-1-k).toNat<e':=by
       intro l
       induction l with
       |nil=>intro s n' e' _ k hk;simp at hk
       |cons y l ihl=>
        intro s n' e' h k hk h0
        rw[List.foldl_cons] at h
        rcases List.mem_cons.1 hk with rfl|hk
        ·have hp:=a9i (N:=D.on) (f:=f) (l:=l) (s:=Law.srch D.on f k s)
         rw[h] at hp
         have hm:(-1-k)∈(Law.srch D.on f k s).2:=by
          have:Law.srch D.on f k s=(s.1,a3t s.2 (-1-k)):=by cases f<;>rw[Law.srch,if_pos h0]
          rw[this]
          simp only
          unfold a3t;split<;>simp_all
         have:=Law.mem_rng.1 (hp.2.subset hm)
         omega
        ·exact ihl _ n' e' h k hk h0
      exact hvis b.kids _ i e' (by rw[<-hX,<-e3.1,<-e2]) k hk h0
end
end Go.Proofs.Tryz.Run
