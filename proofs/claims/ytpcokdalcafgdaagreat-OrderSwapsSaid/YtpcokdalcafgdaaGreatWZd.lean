/- Parts of the proof: Za, Zb, Zc, Zd. Conditions: none. -/
import Derived.Test.YtpcokdalcafgdaaGreatWLq
import Derived.Test.YtpcokdalcafgdaaGreatWNa
import Derived.Test.YtpcokdalcafgdaaGreatWNc
import Derived.Test.YtpcokdalcafgdaaGreatWLh
import Derived.Test.YtpcokdalcafgdaaGreatWNb
import Derived.Test.YtpcokdalcafgdaaGreatWOh
import Derived.Test.YtpcokdalcafgdaaGreatWPm0
import Derived.Test.YtpcokdalcafgdaaGreatWNe
import Derived.Test.YtpcokdalcafgdaaGreatWQd
import Derived.Test.YtpcokdalcafgdaaGreatWQf
import Derived.Test.YtpcokdalcafgdaaGreatWQh
import Derived.Test.YtpcokdalcafgdaaGreatWQi
import Derived.Test.YtpcokdalcafgdaaGreatWSd
import Derived.Test.YtpcokdalcafgdaaGreatWSn
import Derived.Test.YtpcokdalcafgdaaGreatWSq
import Derived.Test.YtpcokdalcafgdaaGreatWSv
import Derived.Test.YtpcokdalcafgdaaGreatWSy
import Derived.Test.YtpcokdalcafgdaaGreatWUf
import Derived.Test.YtpcokdalcafgdaaGreatWUi
import Derived.Test.YtpcokdalcafgdaaGreatWXc
import Derived.Test.YtpcokdalcafgdaaGreatWXf
import Derived.Test.YtpcokdalcafgdaaGreatWXk
import Derived.Test.YtpcokdalcafgdaaGreatWXn
import Derived.Test.YtpcokdalcafgdaaGreatWXt
import Derived.Test.YtpcokdalcafgdaaGreatWXw
import Derived.Test.YtpcokdalcafgdaaGreatWYb
import Derived.Test.YtpcokdalcafgdaaGreatWYf
set_option linter.unusedSimpArgs false
set_option linter.unusedVariables false
set_option maxHeartbeats 0
set_option maxRecDepth 100000
namespace Go.Proofs.Tryz.Run
open Go Go.Vf Go.Proofs
open Go.Proofs.YtpcokdalcafgdaaGreat
theorem Way.det {on:List NdR}{p:Nat->Nat}{k e e':Int}(w:Way on p k e)(w':Way on p k e'):e=e':=by
 induction w generalizing e' with
 |fin h=>
  rcases w'.inv with⟨_,h2⟩|⟨j,b,h2,_⟩
  ·exact h2.symm
  ·omega
 | @node k b e h1 h2 ih=>
   rcases w'.inv with⟨h,_⟩|⟨j,b',h3,h4,h5⟩
   ·omega
   ·obtain rfl:k=j:=Int.ofNat.inj h3
    rw[h1] at h4
    obtain rfl:b=b':=by simpa using h4
    exact ih h5
def h3j (D:Law.Mk)(p:Nat->Nat)(k:Int)(v:VaR):Prop:= ∃e:Int,e<0/\Way D.on p k e/\D.oe[(-1-e).toNat]? =some v
def dgOk (sz od:Nat->Nat)(no:Nat)(p:Nat->Nat):Prop:= ∀i,i<no->p (od i)<sz (od i)
def h3p (p:Nat->Nat)(c j:Nat):Nat->Nat:=fun x=>if x=c then j else p x
theorem h3j.det {D:Law.Mk}{p:Nat->Nat}{k:Int}{v v':VaR}(h:h3j D p k v)(h':h3j D p k v'):v=v':=by
 obtain⟨e,_,w,h1⟩:=h
 obtain⟨e',_,w',h2⟩:=h'
 obtain rfl:=w.det w'
 rw[h1] at h2
 simpa using h2
theorem h3j.end {D:Law.Mk}{p:Nat->Nat}{k:Int}(hk:k<0){v:VaR}:h3j D p k v↔D.oe[(-1-k).toNat]? =some v:=by
 constructor
 ·rintro⟨e,_,w,h⟩
  rcases w.inv with⟨_,rfl⟩|⟨j,b,h3,_⟩
  ·exact h
  ·omega
 ·exact fun h=>⟨k,hk,.fin hk,h⟩
theorem h3j.node {D:Law.Mk}{p:Nat->Nat}{k:Nat}{b:NdR}(hb:D.on[k]? =some b){v:VaR}:h3j D p (k:Int) v↔h3j D p (b.kids.getD (p b.var.toNat) 0) v:=by
 constructor
 ·rintro⟨e,h0,w,h⟩
  rcases w.inv with⟨h1,_⟩|⟨j,b',h3,h4,h5⟩
  ·omega
  ·obtain rfl:k=j:=Int.ofNat.inj h3
   rw[hb] at h4
   obtain rfl:b=b':=by simpa using h4
   exact⟨e,h0,h5,h⟩
 ·rintro⟨e,h0,w,h⟩
  exact⟨e,h0,.node hb w,h⟩
section
variable {sz od:Nat->Nat} {no:Nat} {D:Law.Mk}
theorem h3j.indep (hD:Inv sz od no D)(hinj: ∀i j,i<no->j<no->od i=od j->i=j){p p':Nat->Nat}(hp:dgOk sz od no p){r:Nat}{k:Int}(hk:okR od no D r k)(he: ∀i,r<=i->i<no->p (od i)=p' (od i)){v:VaR}(h:h3j D p k v):h3j D p' k v:=by
 obtain⟨e,h0,w,h1⟩:=h
 exact⟨e,h0,w.indep hD hinj hp r hk he,h1⟩
theorem dgOk.set (hinj: ∀i j,i<no->j<no->od i=od j->i=j){p:Nat->Nat}(hp:dgOk sz od no p){q j:Nat}(hj:j<sz (od q)):dgOk sz od no (h3p p (od q) j):=by
 intro i hi
 unfold h3p
 split
 ·rename_i e;rw[e];exact hj
 ·exact hp i hi
theorem h3k {b:NdR}{j:Nat}(hj:j<b.kids.length):b.kids.getD j 0∈b.kids:=by
 rw[List.getD,List.getElem?_eq_getElem hj]
 exact List.getElem_mem _
theorem h4u {l:List Int}{x:Int}(h:x∈l): ∃j,j<l.length/\l.getD j 0=x:=by
 obtain⟨j,hj⟩:=List.getElem?_of_mem h
 exact⟨j,(List.getElem?_eq_some_iff.1 hj).1,by rw[List.getD,hj];rfl⟩
theorem h3m (hD:Inv sz od no D)(hinj: ∀i j,i<no->j<no->od i=od j->i=j){p:Nat->Nat}(hp:dgOk sz od no p): ∀(m:Nat) (k:Int) (r:Nat),k<m->okR od no D r k-> ∃v,h3j D p k v
 |m,k,r,hm,hk=>by
  rcases Int.lt_or_le k 0 with h0|h0
  ·have:=hk.1 h0
   exact⟨_,(h3j.end h0).2 (List.getElem?_eq_getElem this)⟩
  ·match m with
   |0=>omega
   |m+1=>
    obtain⟨z,rfl⟩: ∃z:Nat,k=z:=⟨k.toNat,by omega⟩
    obtain⟨b,_,h1,_⟩:=hk.2 h0
    rw[Int.toNat_natCast] at h1
    obtain⟨q,g1,g2,g3,g4,g5,g6⟩:=okR.kid hD hinj h1 hk
    have hm2:=h3k (b:=b) (j:=p (od q)) (by rw[g4];exact hp q g2)
    obtain⟨h7,h8⟩:=g6 _ hm2
    obtain⟨v,hv⟩:=h3m hD hinj hp m _ _ (by omega) h8
    exact⟨v,(h3j.node h1).2 (by rw[g3,Int.toNat_natCast];exact hv)⟩
theorem okR.up {r q:Nat}{k:Int}(hk:okR od no D r k)(hq: ∀b p,0<=k->D.on[k.toNat]? =some b->p<no->b.var=(od p:Int)->q<=p):okR od no D q k:=
 ⟨hk.1,fun h0=>by
   obtain⟨b,p,h1,h2,h3,h4⟩:=hk.2 h0
   exact⟨b,p,h1,hq b p h0 h1 h3 h4,h3,h4⟩⟩
theorem h3r {l:List Int}(h: ¬Law.flatL l): ∃j,j<l.length/\l.getD j 0≠l.getD 0 0:=by
 refine Classical.byContradiction fun hn=>h fun k hk=> ?_
 obtain⟨j,hj,rfl⟩:=h4u hk
 have:l.getD j 0=l.getD 0 0:=Classical.byContradiction fun e=>hn ⟨j,hj,e⟩
 rw[this]
 cases l<;>rfl
theorem h4y (hD:Inv sz od no D)(hinj: ∀i j,i<no->j<no->od i=od j->i=j)(hsz: ∀i,i<no->1<=sz (od i)):
 ∀(m:Nat) (a b:Int) (r:Nat),(a+1).toNat+(b+1).toNat<=m->okR od no D r a->okR od no D r b->(∀p,dgOk sz od no p-> ∀v,h3j D p a v->h3j D p b v)->a=b:=by
 intro m
 induction m with
 |zero=>
  intro a b r hm ha hb h
  have ha0:a<0:=by omega
  have hb0:b<0:=by omega
  have h1:=ha.1 ha0
  have:=h (fun _=>0) hsz _ ((h3j.end ha0).2 (List.getElem?_eq_getElem h1))
  have h2:=(h3j.end hb0).1 this
  have h3:=hb.1 hb0
  have:=(List.getElem?_inj h1 hD.oe).1 (h2.trans (List.getElem?_eq_getElem h1).symm).symm
  omega
 |succ m ih=>
  intro a b r hm ha hb h
  have caseA: ∀q (x:NdR),0<=a->q<no->D.on[a.toNat]? =some x->x.var=(od q:Int)->x.kids.length=sz (od q)-> ¬Law.flatL x.kids->(∀k',k'∈x.kids->k'<a/\okR od no D (q+1) k')->okR od no D (q+1) b->False:=by
   intro q x a0 hq hx hv hl hf hk hb1
   obtain⟨z,rfl⟩: ∃z:Nat,a=z:=⟨a.toNat,by omega⟩
   rw[Int.toNat_natCast] at hx
   have hall: ∀j,j<x.kids.length->x.kids.getD j 0=b:=fun j hj=>by
    obtain⟨k1,k2⟩:=hk _ (h3k hj)
    refine ih _ _ (q+1) (by omega) k2 hb1 fun p hp v hl1=> ?_
    have hp':=hp.set hinj (q:=q) (j:=j) (by omega)
    have he: ∀i,q+1<=i->i<no->p (od i)=h3p p (od q) j (od i):=fun i hi hi2=>by
     unfold h3p
     rw[if_neg fun e=>by have:=hinj i q hi2 hq e;omega]
    have h2:h3j D (h3p p (od q) j) (z:Int) v:=(h3j.node hx).2 (by
     rw[hv,Int.toNat_natCast]
     show h3j D _ (x.kids.getD (if od q=od q then j else _) 0) v
     rw[if_pos rfl]
     exact hl1.indep hD hinj hp k2 he)
    exact (h _ hp' v h2).indep hD hinj hp' hb1 fun i hi hi2=>(he i hi hi2).symm
   obtain⟨j,hj,hne⟩:=h3r hf
   exact hne (by rw[hall j hj,hall 0 (by omega)])
  have caseB: ∀q (x:NdR),0<=b->q<no->D.on[b.toNat]? =some x->x.var=(od q:Int)->x.kids.length=sz (od q)-> ¬Law.flatL x.kids->(∀k',k'∈x.kids->k'<b/\okR od no D (q+1) k')->okR od no D (q+1) a->False:=by
   intro q x b0 hq hx hv hl hf hk ha1
   obtain⟨z,rfl⟩: ∃z:Nat,b=z:=⟨b.toNat,by omega⟩
   rw[Int.toNat_natCast] at hx
   have hall: ∀j,j<x.kids.length->a=x.kids.getD j 0:=fun j hj=>by
    obtain⟨k1,k2⟩:=hk _ (h3k hj)
    refine ih _ _ (q+1) (by omega) ha1 k2 fun p hp v hl1=> ?_
    have hp':=hp.set hinj (q:=q) (j:=j) (by omega)
    have he: ∀i,q+1<=i->i<no->p (od i)=h3p p (od q) j (od i):=fun i hi hi2=>by
     unfold h3p
     rw[if_neg fun e=>by have:=hinj i q hi2 hq e;omega]
    have h2:=h _ hp' v (hl1.indep hD hinj hp ha1 he)
    have h3:=(h3j.node hx).1 h2
    rw[hv,Int.toNat_natCast] at h3
    have h4:h3j D (h3p p (od q) j) (x.kids.getD j 0) v:=by
     have:h3p p (od q) j (od q)=j:=if_pos rfl
     rwa [this] at h3
    exact h4.indep hD hinj hp' k2 fun i hi hi2=>(he i hi hi2).symm
   obtain⟨j,hj,hne⟩:=h3r hf
   exact hne (by rw[<-hall j hj,<-hall 0 (by omega)])
  rcases Int.lt_or_le a 0 with a0|a0
  ·rcases Int.lt_or_le b 0 with b0|b0
   ·exact ih a b r (by omega) ha hb h
   ·exfalso
    obtain⟨z,rfl⟩: ∃z:Nat,b=z:=⟨b.toNat,by omega⟩
    obtain⟨x,_,h1,_⟩:=hb.2 b0
    rw[Int.toNat_natCast] at h1
    obtain⟨q,g1,g2,g3,g4,g5,g6⟩:=okR.kid hD hinj h1 hb
    exact caseB q x b0 g2 (by rw[Int.toNat_natCast];exact h1) g3 g4 g5 g6 (ha.up fun _ _ h=>by omega)
  ·obtain⟨z,rfl⟩: ∃z:Nat,a=z:=⟨a.toNat,by omega⟩
   obtain⟨x,_,h1,_⟩:=ha.2 a0
   rw[Int.toNat_natCast] at h1
   obtain⟨q,g1,g2,g3,g4,g5,g6⟩:=okR.kid hD hinj h1 ha
   rcases Int.lt_or_le b 0 with b0|b0
   ·exact (caseA q x a0 g2 (by rw[Int.toNat_natCast];exact h1) g3 g4 g5 g6 (hb.up fun _ _ h=>by omega)).elim
   ·obtain⟨z2,rfl⟩: ∃z:Nat,b=z:=⟨b.toNat,by omega⟩
    obtain⟨y,_,h1',_⟩:=hb.2 b0
    rw[Int.toNat_natCast] at h1'
    obtain⟨q',g1',g2',g3',g4',g5',g6'⟩:=okR.kid hD hinj h1' hb
    have hxq: ∀(w:NdR) p,D.on[z]? =some w->p<no->w.var=(od p:Int)->p=q:=fun w p hw hp hv=>by
     rw[h1] at hw
     obtain rfl:x=w:=by simpa using hw
     exact hinj p q hp g2 (by omega)
    have hyq: ∀(w:NdR) p,D.on[z2]? =some w->p<no->w.var=(od p:Int)->p=q':=fun w p hw hp hv=>by
     rw[h1'] at hw
     obtain rfl:y=w:=by simpa using hw
     exact hinj p q' hp g2' (by omega)
    rcases Nat.lt_trichotomy q q' with hlt|rfl|hlt
    ·exact (caseA q x a0 g2 (by rw[Int.toNat_natCast];exact h1) g3 g4 g5 g6 (hb.up fun w p _ hw hp hv=>by
      rw[Int.toNat_natCast] at hw
      have:=hyq w p hw hp hv;omega)).elim
    ·have hkk: ∀j,j<sz (od q)->x.kids.getD j 0=y.kids.getD j 0:=fun j hj=>by
      obtain⟨k1,k2⟩:=g6 _ (h3k (b:=x) (j:=j) (by omega))
      obtain⟨k3,k4⟩:=g6' _ (h3k (b:=y) (j:=j) (by omega))
      refine ih _ _ (q+1) (by omega) k2 k4 fun p hp v hl1=> ?_
      have hp':=hp.set hinj (q:=q) (j:=j) hj
      have he: ∀i,q+1<=i->i<no->p (od i)=h3p p (od q) j (od i):=fun i hi hi2=>by
       unfold h3p
       rw[if_neg fun e=>by have:=hinj i q hi2 g2 e;omega]
      have hsj:h3p p (od q) j (od q)=j:=if_pos rfl
      have h2:h3j D (h3p p (od q) j) (z:Int) v:=(h3j.node h1).2 (by
       rw[g3,Int.toNat_natCast,hsj]
       exact hl1.indep hD hinj hp k2 he)
      have h3:=(h3j.node h1').1 (h _ hp' v h2)
      rw[g3',Int.toNat_natCast,hsj] at h3
      exact h3.indep hD hinj hp' k4 fun i hi hi2=>(he i hi hi2).symm
     have hke:x.kids=y.kids:=by
      refine List.ext_getElem (by omega) fun j h2 h3=> ?_
      have:=hkk j (by omega)
      rw[List.getD,List.getD,List.getElem?_eq_getElem h2,List.getElem?_eq_getElem h3] at this
      exact this
     have hxy:x=y:=by
      cases x;cases y
      simp only at hke g3 g3'
      rw[hke,g3,g3']
     have h4:D.on[z]? =D.on[z2]? :=by rw[h1,h1',hxy]
     have:=(List.getElem?_inj (List.getElem?_eq_some_iff.1 h1).1 hD.on).1 h4
     omega
    ·exact (caseB q' y b0 g2' (by rw[Int.toNat_natCast];exact h1') g3' g4' g5' g6' (ha.up fun w p _ hw hp hv=>by
      rw[Int.toNat_natCast] at hw
      have:=hxq w p hw hp hv;omega)).elim
end
def h4v (s:Num):Law.Mk:=⟨s.oe,s.on,fun _=>none⟩
def DiR.mk' (d:DiR):Law.Mk:=⟨d.E,d.N,fun _=>none⟩
structure h4d (s t:Num):Prop where
 oe:s.oe<+:t.oe
 on:s.on<+:t.on
theorem h4d.refl (s:Num):h4d s s:=⟨List.prefix_refl _,List.prefix_refl _⟩
theorem h4d.trans {s t u:Num}(h:h4d s t)(k:h4d t u):h4d s u:=⟨h.oe.trans k.oe,h.on.trans k.on⟩
theorem h4z {α:Type}[DecidableEq α](l:List α)(x:α):x∈Law.onceE l x:=by
 by_cases h:x∈l
 ·rw[Law.onceE_mem h];exact h
 ·rw[Law.onceE_not h];simp
theorem h4p {α:Type}[DecidableEq α]{l:List α}(h:l.Nodup)(x:α):(Law.onceE l x)[Law.at1 l x]? =some x:=by
 by_cases hx:x∈l
 ·obtain⟨i,hi⟩:=List.getElem?_of_mem hx
  rw[Law.onceE_mem hx,Law.at1_mem h hi];exact hi
 ·rw[Law.onceE_not hx,Law.at1_not hx];simp
theorem h4s {α:Type}[DecidableEq α](l:List α)(x:α):Law.at1 (Law.onceE l x) x=Law.at1 l x:=by
 by_cases h:x∈l
 ·rw[Law.onceE_mem h]
 ·rw[Law.onceE_not h,b6p h,Law.at1_not h]
def h4n (d:DiR)(refs:Nat->Int)(t:Num)(r:Int):Int:=if 0<=r then refs r.toNat else-1-(Law.at1 t.oe (d.en (-1-r).toNat):Int)
theorem h4m (d:DiR)(refs:Nat->Int)(s:Num)(r:Int):h4d s (c6o d refs s r).1:=by
 unfold c6o
 split
 ·exact .refl _
 ·exact⟨Law.onceE_pre _ _,List.prefix_refl _⟩
theorem h3q (d:DiR)(refs:Nat->Int)(i:Nat)(s:Num): ∀k,h4d s (a8o d refs i s k).1
 |0=> .refl _
 |k+1=>(h3q d refs i s k).trans (h4m ..)
theorem h3o (d:DiR)(refs:Nat->Int)(i:Nat)(s t:Num): ∀k,h4d (a8o d refs i s k).1 t-> ∀j,j<k->(a8o d refs i s k).2 j=h4n d refs t (d.kid i j)/\(d.kid i j<0->d.en (-1-d.kid i j).toNat∈t.oe)
 |0,_,j,hj=>by omega
 |k+1,hp,j,hj=>by
  have hp0:=(h4m d refs (a8o d refs i s k).1 (d.kid i k)).trans hp
  rw[a8o]
  simp only[a0r]
  by_cases e:j=k
  ·subst e
   rw[if_pos rfl]
   rw[a8o] at hp
   unfold c6o h4n at*
   split
   ·rename_i h
    exact⟨rfl,fun h2=>by omega⟩
   ·rename_i h
    rw[if_neg h] at hp
    have hin:d.en (-1-d.kid i j).toNat∈Law.onceE (a8o d refs i s j).1.oe (d.en (-1-d.kid i j).toNat):=h4z _ _
    refine⟨?_,fun _=>hp.oe.subset hin⟩
    have:=h5d hp.oe hin
    simp only at this⊢
    rw[this,h4s]
  ·rw[if_neg e]
   exact h3o d refs i s t k hp0 j (by omega)
theorem h4a (d:DiR)(refs:Nat->Int)(i:Nat){s:Num}(hs:s.oe.Nodup): ∀k,(a8o d refs i s k).1.oe.Nodup
 |0=>hs
 |k+1=>by
  rw[a8o]
  unfold c6o
  split
  ·exact h4a d refs i hs k
  ·exact Law.nodup_onceE (h4a d refs i hs k) _
theorem h3t (d:DiR)(s:Num): ∀i,h4d s (a4k d s i).1
 |0=> .refl _
 |i+1=>by
  refine (h3t d s i).trans ((h3q d (a4k d s i).2 i (a4k d s i).1 (d.nk i)).trans ?_)
  rw[a4k]
  exact⟨List.prefix_refl _,Law.onceE_pre _ _⟩
theorem h3s (d:DiR){s:Num}(hs:s.oe.Nodup/\s.on.Nodup): ∀i,(a4k d s i).1.oe.Nodup/\(a4k d s i).1.on.Nodup
 |0=>hs
 |i+1=>by
  have ih:=h3s d hs i
  rw[a4k]
  refine⟨h4a d _ i ih.1 _,Law.nodup_onceE ?_ _⟩
  rw[b5s];exact ih.2
theorem h3w (d:DiR)(hk: ∀k,k<d.nn-> ∀j,j<d.nk k->d.kid k j<k){s t:Num}(hs:s.oe.Nodup/\s.on.Nodup): ∀i,i<=d.nn->h4d (a4k d s i).1 t->
 ∀k,k<i->(∃w:Nat,(a4k d s i).2 k=(w:Int)/\t.on[w]? =some ⟨d.var k,L (d.nk k) fun j=>h4n d (a4k d s i).2 t (d.kid k j)⟩)/\ ∀j,j<d.nk k->d.kid k j<0->d.en (-1-d.kid k j).toNat∈t.oe
 |0,_,_,k,hk=>by omega
 |i+1,hi,hp,k,hki=>by
  have hnd:=h3s d hs i
  have hp1:h4d (a8o d (a4k d s i).2 i (a4k d s i).1 (d.nk i)).1 t:=by
   rw[a4k] at hp
   exact⟨hp.oe,(Law.onceE_pre _ _).trans hp.on⟩
  have hp0:=(h3q d (a4k d s i).2 i (a4k d s i).1 (d.nk i)).trans hp1
  have hres: ∀k,k<=i-> ∀j,j<d.nk k->h4n d (a0r (a4k d s i).2 i (Law.at1 (a8o d (a4k d s i).2 i (a4k d s i).1 (d.nk i)).1.on (e3a d (a4k d s i).2 i (a4k d s i).1))) t (d.kid k j)=h4n d (a4k d s i).2 t (d.kid k j):=fun k hk2 j hj=>by
   have:=hk k (by omega) j hj
   unfold h4n
   split
   ·unfold a0r
    rw[if_neg (by omega)]
   ·rfl
  by_cases e:k=i
  ·subst e
   have hspec:=h3o d (a4k d s k).2 k (a4k d s k).1 t (d.nk k) hp1
   refine⟨⟨_,by rw[a4k];simp only[a0r,if_pos];rfl,?_⟩,fun j hj h0=>(hspec j hj).2 h0⟩
   rw[a4k] at hp⊢
   simp only at hp⊢
   have hkey:e3a d (a4k d s k).2 k (a4k d s k).1=⟨d.var k,L (d.nk k) fun j=>h4n d (a4k d s k).2 t (d.kid k j)⟩:=by
    unfold e3a
    rw[a3i fun j hj=>(hspec j hj).1]
   rw[a3i fun j hj=>hres k (Nat.le_refl _) j hj,<-hkey]
   exact c0s hp.on (h4p (by rw[b5s];exact hnd.2) _)
  ·obtain⟨⟨w,h1,h2⟩,h3⟩:=h3w d hk hs i (by omega) hp0 k (by omega)
   refine⟨⟨w,?_,?_⟩,h3⟩
   ·rw[a4k]
    simp only[a0r]
    rw[if_neg e];exact h1
   ·rw[a4k]
    simp only
    rw[a3i fun j hj=>hres k (by omega) j hj]
    exact h2
theorem h4h (d:DiR){s:Num}(hs:s.oe.Nodup/\s.on.Nodup): ∀i b,b∈(a4k d s i).1.on->b∈s.on\/ ∃k,k<i/\ ∃w:Nat,(a4k d s i).2 k=(w:Int)/\(a4k d s i).1.on[w]? =some b
 |0,b,h=> .inl h
 |i+1,b,h=>by
  have hnd:=h3s d hs i
  have hon:=b5s d (a4k d s i).2 i (a4k d s i).1 (d.nk i)
  rw[a4k] at h⊢
  simp only[hon] at h⊢
  by_cases hb:b∈(a4k d s i).1.on
  ·rcases h4h d hs i b hb with h1|⟨k,hk,w,h1,h2⟩
   ·exact .inl h1
   ·refine .inr ⟨k,by omega,w,?_,c0s (Law.onceE_pre _ _) h2⟩
    simp only[a0r]
    rw[if_neg (by omega)];exact h1
  ·have hb2:b=e3a d (a4k d s i).2 i (a4k d s i).1:=by
    unfold Law.onceE at h
    split at h
    ·exact absurd h hb
    ·simpa [hb] using h
   refine .inr ⟨i,by omega,_,by simp only[a0r,if_pos];rfl,?_⟩
   rw[hb2]
   exact h4p hnd.2 _
theorem h4g (d:DiR){s:Num}(hk: ∀k,k<d.nn-> ∀j,j<d.nk k->d.kid k j<k)(hs: ∀(w:Nat) (b:NdR),s.on[w]? =some b-> ∀k,k∈b.kids->k<w): ∀i,i<=d.nn-> ∀(w:Nat) (b:NdR),(a4k d s i).1.on[w]? =some b-> ∀k,k∈b.kids->k<w
 |0,_,w,b,h=>hs w b h
 |i+1,hi,w,b,h=>by
  have ih:=h4g d hk hs i (by omega)
  have hon:=b5s d (a4k d s i).2 i (a4k d s i).1 (d.nk i)
  rw[a4k] at h
  simp only[hon] at h
  unfold Law.onceE at h
  split at h
  ·exact ih w b h
  ·by_cases hw:w<(a4k d s i).1.on.length
   ·rw[List.getElem?_append_left hw] at h
    exact ih w b h
   ·rw[List.getElem?_append_right (by omega)] at h
    have hw2:w=(a4k d s i).1.on.length:=by
     have:=(List.getElem?_eq_some_iff.1 h).1
     simp at this;omega
    subst hw2
    simp at h
    subst h
    intro k hk2
    obtain⟨j,hj,rfl⟩:=a5t.1 (show k∈L (d.nk i) (a8o d (a4k d s i).2 i (a4k d s i).1 (d.nk i)).2 from hk2)
    have h1:=(h3o d (a4k d s i).2 i (a4k d s i).1 _ (d.nk i) (.refl _) j hj).1
    rw[h1]
    unfold h4n
    split
    ·rename_i h0
     have:=hk i (by omega) j hj
     exact (c2l d s i _ (by omega)).2
    ·omega
structure Hom (d:DiR)(t:Num)(R:Int->Int):Prop where
 nd: ∀k,k<d.nn-> ∃w:Nat,R (k:Int)=(w:Int)/\t.on[w]? =some ⟨d.var k,L (d.nk k) fun j=>R (d.kid k j)⟩
 en: ∀k,k<d.nn-> ∀j,j<d.nk k->d.kid k j<0->R (d.kid k j)<0/\t.oe[(-1-R (d.kid k j)).toNat]? =some (d.en (-1-d.kid k j).toNat)
section
variable {n:Nat} {l:Nat->DiR}
theorem h3l: ∀n,(a7d l n).oe.Nodup/\(a7d l n).on.Nodup
 |0=>⟨.nil,.nil⟩
 |n+1=>h3s (l n) (h3l n) _
theorem h4j {m:Nat}: ∀{n},m<=n->h4d (a7d l m) (a7d l n)
 |0,h=>by obtain rfl:m=0:=by omega
          exact .refl _
 |n+1,h=>by
  by_cases e:m=n+1
  ·subst e;exact .refl _
  ·exact (h4j (n:=n) (by omega)).trans (h3t _ _ _)
theorem h4x {α:Type}[DecidableEq α]{l:List α}{x:α}(h:l.Nodup)(hx:x∈l):l[Law.at1 l x]? =some x:=by
 obtain⟨i,hi⟩:=List.getElem?_of_mem hx
 rw[Law.at1_mem h hi];exact hi
theorem h4r (hk: ∀m,m<n-> ∀k,k<(l m).nn-> ∀j,j<(l m).nk k->(l m).kid k j<k){m:Nat}(hm:m<n):Hom (l m) (a7d l n) (h4n (l m) (a4k (l m) (a7d l m) (l m).nn).2 (a7d l n)):=by
 have hpre:h4d (a4k (l m) (a7d l m) (l m).nn).1 (a7d l n):=h4j (l:=l) (show m+1<=n from hm)
 have hs:=h3w (l m) (hk m hm) (h3l m) (l m).nn (Nat.le_refl _) hpre
 refine⟨fun k hk=> ?_,fun k hk j hj h0=> ?_⟩
 ·obtain⟨⟨w,h1,h2⟩,_⟩:=hs k hk
  refine⟨w,?_,h2⟩
  unfold h4n
  rw[if_pos (by omega),Int.toNat_natCast];exact h1
 ·have:=(hs k hk).2 j hj h0
  unfold h4n
  rw[if_neg (by omega)]
  refine⟨by omega,?_⟩
  rw[show (-1-(-1-(Law.at1 (a7d l n).oe ((l m).en (-1-(l m).kid k j).toNat):Int))).toNat=Law.at1 (a7d l n).oe ((l m).en (-1-(l m).kid k j).toNat) by omega]
  exact h4x (h3l n).1 this
theorem h4i: ∀{n} b,b∈(a7d l n).on-> ∃m,m<n/\ ∃k,k<(l m).nn/\ ∃w:Nat,(a4k (l m) (a7d l m) (l m).nn).2 k=(w:Int)/\(a7d l n).on[w]? =some b
 |0,b,h=>by simp[a7d] at h
 |n+1,b,h=>by
  rcases h4h (l n) (h3l n) _ b h with h1|⟨k,hk,w,h1,h2⟩
  ·obtain⟨m,hm,k,hk,w,h2,h3⟩:=h4i b h1
   exact⟨m,by omega,k,hk,w,h2,c0s (h3t _ _ _).on h3⟩
  ·exact⟨n,by omega,k,hk,w,h1,h2⟩
theorem h4f (hk: ∀m,m<n-> ∀k,k<(l m).nn-> ∀j,j<(l m).nk k->(l m).kid k j<k): ∀m,m<=n-> ∀(w:Nat) (b:NdR),(a7d l m).on[w]? =some b-> ∀k,k∈b.kids->k<w
 |0,_,w,b,h=>by simp[a7d] at h
 |m+1,hm,w,b,h=>h4g (l m) (hk m (by omega)) (h4f hk m (by omega)) _ (Nat.le_refl _) w b h
end
section
variable {sz od:Nat->Nat} {no:Nat}
theorem okR.frame {od':Nat->Nat}{D:Law.Mk}{r:Nat}{k:Int}(h:okR od no D r k)(h1: ∀i,i<no->od i=od' i):okR od' no D r k:=
 ⟨h.1,fun h0=>by
   obtain⟨b,p,g1,g2,g3,g4⟩:=h.2 h0
   exact⟨b,p,g1,g2,g3,by rw[<-h1 p g3];exact g4⟩⟩
theorem Inv.frame {sz' od':Nat->Nat}{D:Law.Mk}(h:Inv sz od no D)(h1: ∀i,i<no->od i=od' i)(h2: ∀i,i<no->sz (od i)=sz' (od' i)):Inv sz' od' no D:=
 ⟨h.oe,h.on,fun i b hb=>by
   obtain⟨p,g1,g2,g3,g4,g5⟩:=h.ok i b hb
   exact⟨p,g1,by rw[<-h1 p g1];exact g2,by rw[<-h2 p g1];exact g3,g4,fun k hk=>⟨(g5 k hk).1,(g5 k hk).2.frame h1⟩⟩⟩
theorem Hom.leads {d:DiR}{t:Num}{R:Int->Int}(hR:Hom d t R)(hD:Inv sz od no d.mk'){p:Nat->Nat}(hp:dgOk sz od no p){v:VaR}: ∀(m:Nat) (x:Int),x<m->x<d.nn->(x<0->R x<0/\t.oe[(-1-R x).toNat]? =some (d.en (-1-x).toNat))->
 h3j d.mk' p x v->h3j (h4v t) p (R x) v
 |m,x,hm,hx,h0,h=>by
  rcases Int.lt_or_le x 0 with hn|hn
  ·obtain⟨a,b⟩:=h0 hn
   have h1:=(h3j.end hn).1 h
   have h2:(L d.ne d.en)[(-1-x).toNat]? =some v:=h1
   rw[a6x] at h2
   split at h2
   ·refine (h3j.end a).2 ?_
    rw[<-h2];exact b
   ·cases h2
  ·match m with
   |0=>omega
   |m+1=>
    obtain⟨k,rfl⟩: ∃k:Nat,x=k:=⟨x.toNat,by omega⟩
    have hk:k<d.nn:=by omega
    have hN:d.mk'.on[k]? =some (d.nd k):=by
     show (L d.nn d.nd)[k]? =_
     rw[a6x,if_pos hk]
    obtain⟨q,g1,g2,g3,g4,g5⟩:=hD.ok k _ hN
    obtain⟨w,h1,h2⟩:=hR.nd k hk
    have hlen:d.nk k=sz (od q):=by rw[<-g3];exact (a0k _ _).symm
    have hj:p (od q)<d.nk k:=by rw[hlen];exact hp q g1
    have e1:(d.nd k).kids.getD (p (d.nd k).var.toNat) 0=d.kid k (p (od q)):=by
     rw[g2,Int.toNat_natCast]
     show (L (d.nk k) (d.kid k)).getD _ 0=_
     rw[List.getD,a6x,if_pos hj];rfl
    have h3:=(h3j.node hN).1 h
    rw[e1] at h3
    rw[h1]
    refine (h3j.node (D:=h4v t) h2).2 ?_
    have e2:(L (d.nk k) fun j=>R (d.kid k j)).getD (p (d.var k).toNat) 0=R (d.kid k (p (od q))):=by
     have g2':d.var k=(od q:Int):=g2
     rw[g2',Int.toNat_natCast,List.getD,a6x,if_pos hj];rfl
    rw[e2]
    have hlt:=(g5 (d.kid k (p (od q))) (a5t.2 ⟨_,hj,rfl⟩)).1
    exact Hom.leads hR hD hp m _ (by omega) (by omega) (fun hn=>hR.en k hk _ hj hn) h3
end
section
variable {n:Nat} {l:Nat->DiR}
def szN (l:Nat->DiR)(c:Nat):Nat:=((l 0).sz c).toNat
def odN (l:Nat->DiR)(i:Nat):Nat:=((l 0).od i).toNat
theorem a0x.inj (h:a0x n l): ∀i j,i<(l 0).no->j<(l 0).no->odN l i=odN l j->i=j:=fun i j hi hj e=>by
 have ho:=(a1k (h.di 0 h.pos.1).fr).2.2.2
 have h1:=(ho.2 i hi).1
 have h2:=(ho.2 j hj).1
 unfold odN at e
 exact ho.inj i j hi hj (by omega)
theorem a0x.s1 (h:a0x n l): ∀i,i<(l 0).no->1<=szN l (odN l i):=fun i hi=>by
 obtain⟨_,h2,_,ho⟩:=a1k (h.di 0 h.pos.1).fr
 have h1:=(ho.2 i hi).1
 have:=h2 ((l 0).od i).toNat (by omega)
 unfold szN odN;omega
theorem a0x.invM (h:a0x n l){m:Nat}(hm:m<n):Inv (szN l) (odN l) (l 0).no (l m).mk':=by
 obtain⟨e1,e2⟩:=h.fr m hm
 obtain⟨a1,a2⟩:=a2w.1 e1
 obtain⟨b1,b2⟩:=a2w.1 e2
 have ho:=(a1k (h.di 0 h.pos.1).fr).2.2.2
 have hi:=(h.di m hm).inv
 rw[<-b1] at hi
 refine hi.frame (fun i hi=> ?_) fun i hi=> ?_
 ·show _=((l 0).od i).toNat
  rw[b2 i hi]
 ·show _=((l 0).sz ((l 0).od i).toNat).toNat
  have:=(ho.2 i hi).1
  rw[b2 i hi,a2 _ (by rw[<-b2 i hi];omega)]
theorem a0x.below (h:a0x n l): ∀m,m<n-> ∀k,k<(l m).nn-> ∀j,j<(l m).nk k->(l m).kid k j<k:=fun m hm k hk j hj=>by
 have hN:(l m).mk'.on[k]? =some ((l m).nd k):=by
  show (L (l m).nn (l m).nd)[k]? =_
  rw[a6x,if_pos hk]
 obtain⟨q,g1,g2,g3,g4,g5⟩:=(h.invM hm).ok k _ hN
 exact (g5 _ (a5t.2 ⟨j,hj,rfl⟩)).1
def h4q (l:Nat->DiR)(n m:Nat):Int->Int:=h4n (l m) (a4k (l m) (a7d l m) (l m).nn).2 (a7d l n)
theorem a0x.hom (h:a0x n l){m:Nat}(hm:m<n):Hom (l m) (a7d l n) (h4q l n m):=h4r h.below hm
theorem a0x.cov (h:a0x n l){w:Nat}{b:NdR}(hb:(a7d l n).on[w]? =some b): ∃m,m<n/\ ∃k,k<(l m).nn/\h4q l n m (k:Int)=(w:Int)/\b=⟨(l m).var k,L ((l m).nk k) fun j=>h4q l n m ((l m).kid k j)⟩:=by
 obtain⟨m,hm,k,hk,w',h1,h2⟩:=h4i b (List.mem_of_getElem? hb)
 have hww:w'=w:=(List.getElem?_inj (List.getElem?_eq_some_iff.1 h2).1 (h3l n).2).1 (h2.trans hb.symm)
 subst hww
 obtain⟨w2,h3,h4⟩:=(h.hom hm).nd k hk
 have h5:h4q l n m (k:Int)=(w':Int):=by
  unfold h4q h4n
  rw[if_pos (by omega),Int.toNat_natCast];exact h1
 rw[h5] at h3
 obtain rfl:w'=w2:=Int.ofNat.inj h3
 refine⟨m,hm,k,hk,h5,?_⟩
 rw[hb] at h4
 exact Option.some.inj h4
theorem a0x.kidLeads (h:a0x n l){m:Nat}(hm:m<n){k:Nat}(hk:k<(l m).nn){j:Nat}(hj:j<(l m).nk k){p:Nat->Nat}(hp:dgOk (szN l) (odN l) (l 0).no p){v:VaR}(hl:h3j (l m).mk' p ((l m).kid k j) v):h3j (h4v (a7d l n)) p (h4q l n m ((l m).kid k j)) v:=
 (h.hom hm).leads (h.invM hm) hp k _ (h.below m hm k hk j hj) (by have:=h.below m hm k hk j hj;omega) (fun h0=>(h.hom hm).en k hk j hj h0) hl
theorem a0x.nodeLeads (h:a0x n l){m:Nat}(hm:m<n){k:Nat}(hk:k<(l m).nn){p:Nat->Nat}(hp:dgOk (szN l) (odN l) (l 0).no p){v:VaR}(hl:h3j (l m).mk' p (k:Int) v):h3j (h4v (a7d l n)) p (h4q l n m (k:Int)) v:=
 (h.hom hm).leads (h.invM hm) hp (k+1) _ (by omega) (by omega) (fun h0=>by omega) hl
theorem a0x.invW (h:a0x n l):Inv (szN l) (odN l) (l 0).no (h4v (a7d l n)):=by
 refine⟨(h3l n).1,(h3l n).2,fun w b hb=> ?_⟩
 obtain⟨m,hm,k,hk,h1,rfl⟩:=h.cov hb
 have hN:(l m).mk'.on[k]? =some ((l m).nd k):=by
  show (L (l m).nn (l m).nd)[k]? =_
  rw[a6x,if_pos hk]
 have hD:=h.invM hm
 obtain⟨q,g1,g2,g3,g4,g5⟩:=hD.ok k _ hN
 have hlen:(l m).nk k=szN l (odN l q):=by rw[<-g3];exact (a0k _ _).symm
 have hk1:1<=(l m).nk k:=by rw[hlen];exact h.s1 q g1
 refine⟨q,g1,g2,by rw[<-hlen];exact a0k _ _,fun hf=>g4 ?_,fun x hx=>⟨h4f h.below n (Nat.le_refl _) w _ hb x hx,?_⟩⟩
 ·show Law.flatL (L ((l m).nk k) ((l m).kid k))
  rw[b1k hk1]
  intro j hj
  have hf:h4q l n m ((l m).kid k j)=h4q l n m ((l m).kid k 0):=(b1k hk1).1 hf j hj
  have k1:=g5 _ (a5t.2 ⟨j,hj,rfl⟩)
  have k2:=g5 _ (a5t.2 ⟨0,hk1,rfl⟩)
  refine h4y hD h.inj h.s1 _ _ _ (q+1) (Nat.le_refl _) k1.2 k2.2 fun p hp v hl=> ?_
  have l1:=h.kidLeads hm hk hj hp hl
  obtain⟨v',hl'⟩:=h3m hD h.inj hp k _ (q+1) k2.1 k2.2
  have l2:=h.kidLeads hm hk hk1 hp hl'
  rw[hf] at l1
  rw[l1.det l2];exact hl'
 ·obtain⟨j,hj,rfl⟩:=a5t.1 (show x∈L ((l m).nk k) fun j=>h4q l n m ((l m).kid k j) from hx)
  obtain⟨k1,k2⟩:=g5 _ (a5t.2 ⟨j,hj,rfl⟩)
  rcases Int.lt_or_le ((l m).kid k j) 0 with h0|h0
  ·obtain⟨a,c⟩:=(h.hom hm).en k hk j hj h0
   exact⟨fun _=>(List.getElem?_eq_some_iff.1 c).1,fun h2=>by omega⟩
  ·obtain⟨b',r,c1,c2,c3,c4⟩:=k2.2 h0
   obtain⟨z,hz⟩: ∃z:Nat,(l m).kid k j=z:=⟨((l m).kid k j).toNat,by omega⟩
   obtain⟨w',d1,d2⟩:=(h.hom hm).nd z (by omega)
   rw[hz] at c1⊢
   rw[Int.toNat_natCast] at c1
   rw[d1]
   refine⟨fun h2=>by omega,fun _=>⟨_,r,by rw[Int.toNat_natCast];exact d2,c2,c3,?_⟩⟩
   have:(L (l m).nn (l m).nd)[z]? =some b':=c1
   rw[a6x,if_pos (by omega)] at this
   obtain rfl:(l m).nd z=b':=by simpa using this
   exact c4
end
inductive Rch (N:List NdR)(x:Int):Int->Prop
 |refl:Rch N x x
 |kid {k:Nat} {b:NdR} {k':Int} (h:N[k]? =some b) (hm:k'∈b.kids) (h2:Rch N x k'):Rch N x (k:Int)
theorem h4e {N:List NdR}: ∀(f:Nat) (k:Int) (s:List Int×List Int) (x:Int),x∈(Law.srch N f k s).1->x∈s.1\/Rch N x k
 |0,k,s,x,h=>by
  rw[Law.srch] at h
  split at h<;>exact .inl h
 |f+1,k,s,x,h=>by
  rw[Law.srch] at h
  split at h
  ·exact .inl h
  ·split at h
   ·exact .inl h
   ·rename_i h0 _
    cases hN:N[k.toNat]? with
    |none=>rw[hN] at h;exact .inl h
    |some b=>
     rw[hN] at h
     simp only[List.mem_append,List.mem_singleton] at h
     rcases h with h|h
     ·have key: ∀(l:List Int) (s:List Int×List Int),(∀k',k'∈l->k'∈b.kids)->x∈(l.foldl (fun s k=>Law.srch N f k s) s).1->x∈s.1\/Rch N x k:=by
       intro l
       induction l with
       |nil=>intro s _ h;exact .inl h
       |cons k' l ih=>
        intro s hl h
        rw[List.foldl_cons] at h
        rcases ih _ (fun y hy=>hl y (by simp[hy])) h with h1|h1
        ·rcases h4e f k' s x h1 with h2|h2
         ·exact .inl h2
         ·refine .inr ?_
          have:=Rch.kid hN (hl k' (by simp)) h2
          rwa [Int.toNat_of_nonneg (by omega)] at this
        ·exact .inr h1
      exact key b.kids s (fun _ h=>h) h
     ·exact .inr (by rw[h];exact .refl)
section
variable {sz od:Nat->Nat} {no:Nat} {D:Law.Mk}
theorem h5g (hD:Inv sz od no D)(hinj: ∀i j,i<no->j<no->od i=od j->i=j)(hsz: ∀i,i<no->1<=sz (od i)){x:Nat}{q:Nat}(hq:q<no){bx:NdR}(hx:D.on[x]? =some bx)(hv:bx.var=(od q:Int)){a:Int}(hr:Rch D.on (x:Int) a):
 ∀r,okR od no D r a->r<=q/\ ∃α,dgOk sz od no α/\ ∀p,dgOk sz od no p->(∀i,r<=i->i<q->p (od i)=α (od i))-> ∀v,h3j D p (x:Int) v->h3j D p a v:=by
 induction hr with
 |refl=>
  intro r ha
  obtain⟨b,p,h1,h2,h3,h4⟩:=ha.2 (by omega)
  rw[Int.toNat_natCast,hx] at h1
  obtain rfl:bx=b:=by simpa using h1
  obtain rfl:p=q:=hinj p q h3 hq (by omega)
  exact⟨h2,fun _=>0,hsz,fun p _ _ v h=>h⟩
 | @kid k b k' hb hm _ ih=>
   intro r ha
   obtain⟨q1,g1,g2,g3,g4,g5,g6⟩:=okR.kid hD hinj hb ha
   obtain⟨h1,α,h2,h3⟩:=ih (q1+1) (g6 _ hm).2
   obtain⟨j,hj,hk'⟩:=h4u hm
   refine⟨by omega,h3p α (od q1) j,h2.set hinj (by omega),fun p hp he v hl=> ?_⟩
   have h4:=h3 p hp (fun i hi hi2=>by
    rw[he i (by omega) hi2]
    unfold h3p
    rw[if_neg fun e=>by have:=hinj i q1 (by omega) g2 e;omega]) v hl
   refine (h3j.node hb).2 ?_
   have:p (od q1)=j:=by
    rw[he q1 g1 (by omega)]
    exact if_pos rfl
   rw[g3,Int.toNat_natCast,this,hk']
   exact h4
theorem h4o (hD:Inv sz od no D)(hinj: ∀i j,i<no->j<no->od i=od j->i=j){α:Nat->Nat}(hα:dgOk sz od no α): ∀(m r:Nat) (a:Int),r+m<=no->okR od no D r a->
 ∃x,okR od no D (r+m) x/\ ∀p,dgOk sz od no p->(∀i,r<=i->i<r+m->p (od i)=α (od i))-> ∀v,h3j D p x v->h3j D p a v
 |0,r,a,_,ha=>⟨a,ha,fun _ _ _ v h=>h⟩
 |m+1,r,a,hm,ha=>by
  by_cases h: ∃(k:Nat) (b:NdR),a=k/\D.on[k]? =some b/\b.var=(od r:Int)
  ·obtain⟨k,b,rfl,hb,hbv⟩:=h
   obtain⟨q,g1,g2,g3,g4,g5,g6⟩:=okR.kid hD hinj hb ha
   obtain rfl:q=r:=hinj q r g2 (by omega) (by omega)
   have hj:α (od q)<b.kids.length:=by rw[g4];exact hα q g2
   obtain⟨x,h1,h2⟩:=h4o hD hinj hα m (q+1) _ (by omega) (g6 _ (h3k hj)).2
   rw[show q+1+m=q+(m+1) by omega] at h1 h2
   refine⟨x,h1,fun p hp he v hl=> ?_⟩
   have h3:=h2 p hp (fun i hi hi2=>he i (by omega) hi2) v hl
   refine (h3j.node hb).2 ?_
   rw[g3,Int.toNat_natCast,he q (Nat.le_refl _) (by omega)]
   exact h3
  ·have ha1:okR od no D (r+1) a:=⟨ha.1,fun h0=>by
    obtain⟨b,p,h1,h2,h3,h4⟩:=ha.2 h0
    refine⟨b,p,h1,?_,h3,h4⟩
    have:p≠r:=fun e=>h ⟨a.toNat,b,by omega,h1,by rw[<-e];exact h4⟩
    omega⟩
   obtain⟨x,h1,h2⟩:=h4o hD hinj hα m (r+1) a (by omega) ha1
   rw[show r+1+m=r+(m+1) by omega] at h1 h2
   exact⟨x,h1,fun p hp he v hl=>h2 p hp (fun i hi hi2=>he i (by omega) hi2) v hl⟩
theorem h5c (hD:Inv sz od no D)(hinj: ∀i j,i<no->j<no->od i=od j->i=j)(hsz: ∀i,i<no->1<=sz (od i)){k:Nat}{b:NdR}(hb:D.on[k]? =some b){q:Nat}(hq:q<no)(hv:b.var=(od q:Int)):
 ∃p j j' v v',dgOk sz od no p/\j<sz (od q)/\j'<sz (od q)/\v≠v'/\h3j D (h3p p (od q) j) (k:Int) v/\h3j D (h3p p (od q) j') (k:Int) v':=by
 obtain⟨q',g1,g2,g3,g4,g5⟩:=hD.ok k b hb
 obtain rfl:q'=q:=hinj q' q g1 hq (by omega)
 obtain⟨j,hj,hne⟩:=h3r g4
 have k1:=g5 _ (h3k hj)
 have k2:=g5 _ (h3k (b:=b) (j:=0) (by omega))
 refine Classical.byContradiction fun hn=>hne ?_
 refine h4y hD hinj hsz _ _ _ (q'+1) (Nat.le_refl _) k1.2 k2.2 fun p hp v hl=> ?_
 obtain⟨v',hl'⟩:=h3m hD hinj hp k _ (q'+1) k2.1 k2.2
 have up: ∀(j:Nat) (v:VaR),j<b.kids.length->h3j D p (b.kids.getD j 0) v->h3j D (h3p p (od q') j) (k:Int) v:=fun j v hj hl=>by
  refine (h3j.node hb).2 ?_
  have:h3p p (od q') j (od q')=j:=if_pos rfl
  rw[hv,Int.toNat_natCast,this]
  refine hl.indep hD hinj hp (g5 _ (h3k hj)).2 fun i hi hi2=> ?_
  unfold h3p
  rw[if_neg fun e=>by have:=hinj i q' hi2 g1 e;omega]
 by_cases e:v=v'
 ·rw[e];exact hl'
 ·exact absurd ⟨p,j,0,v,v',hp,by omega,by omega,e,up j v hj hl,up 0 v' (by omega) hl'⟩ hn
end
theorem h3v {α β:Type}{R:α->β->Prop}: ∀{l1:List α} {l2:List β},l1.Nodup->(∀x,x∈l1-> ∃y,y∈l2/\R x y)->(∀x x' y,R x y->R x' y->x=x')->l1.length<=l2.length
 |[],l2,_,_,_=>by simp
 |x::l1,l2,hn,h,hi=>by
  obtain⟨y,hy,hxy⟩:=h x (by simp)
  obtain⟨s,t,rfl⟩:=List.append_of_mem hy
  have ih:=h3v (l1:=l1) (l2:=s++t) (List.nodup_cons.1 hn).2 (fun z hz=>by
   obtain⟨w,hw,hzw⟩:=h z (by simp[hz])
   refine⟨w,?_,hzw⟩
   simp only[List.mem_append,List.mem_cons] at hw⊢
   rcases hw with hw|hw|hw
   ·exact .inl hw
   ·subst hw
    exact absurd (hi z x w hzw hxy) (fun e=>(List.nodup_cons.1 hn).1 (by rw[<-e];exact hz))
   ·exact .inr hw) hi
  simp only[List.length_append,List.length_cons] at ih⊢
  omega
theorem c9g.rootLeads {d:DiR}(h:c9g d)(h0: ∀j,j<d.ne->0<=(d.en j).fault){p:Nat->Nat}(hp: ∀i,i<d.no->p (d.od i).toNat<(d.sz (d.od i).toNat).toNat):
 h3j d.mk' p d.root (d.cell (a5r d.sz (fun c=>(p c:Int)) d.ns).toNat):=by
 obtain⟨h1,h2,h3,h4⟩:=a1k h.fr
 have hroot:=a3f h.loose.2.2
 have hpl:d2d d fun c=>(p c:Int):=fun c hc=>by
  obtain⟨q,q1,q2,_⟩:=e9a h4 (v:=(c:Int)) ⟨by omega,by omega⟩
  have:p (d.od q).toNat<(d.sz (d.od q).toNat).toNat:=hp q q1
  rw[q2,Int.toNat_natCast] at this
  show 0<=(p c:Int)/\(p c:Int)<d.sz c
  omega
 have hv:=a8u (sz:=d.sz) (pl:=fun c=>(p c:Int)) hpl
 obtain⟨V,hV⟩: ∃V:Nat,a5r d.sz (fun c=>(p c:Int)) d.ns=V:=⟨(a5r d.sz (fun c=>(p c:Int)) d.ns).toNat,by omega⟩
 obtain⟨s1,s2⟩:=a8e (sz:=d.sz) (n:=d.ns) (fun j hj=>(h2 j hj).1) V (by rw[<-hV];exact hv.2)
 have he:=c9i s1 hpl (by rw[s2,hV])
 have hw:=b7z h.loose he s1 hpl d.root hroot
 obtain⟨w1,w2⟩:=c6c h.loose hpl d.root hroot
 rw[hV,Int.toNat_natCast]
 refine⟨wayE d (fun c=>(p c:Int)) d.root,w1,f1d h.loose hpl hroot,?_⟩
 show (L d.ne d.en)[_]? =some (d.en (-1-wayE d (a9d d.sz d.ns _) d.root).toNat)
 rw[hw,a6x,if_pos (by omega)]
theorem h4c {sz sz' pl:Nat->Int}: ∀{n:Nat},(∀j,j<n->sz j=sz' j)->a5r sz pl n=a5r sz' pl n
 |0,_=>rfl
 |n+1,h=>by rw[a5r,a5r,h n (by omega),h4c fun j hj=>h j (by omega)]
section
variable {n:Nat} {l l':Nat->DiR}
theorem a0x.rootOk (h:a0x n l){m:Nat}(hm:m<n):okR (odN l) (l 0).no (l m).mk' 0 (l m).root:=by
 have hd:=h.di m hm
 have hroot:=a3f hd.loose.2.2
 refine⟨fun q=> ?_,fun q=> ?_⟩
 ·have:=hroot.2 q
  show _<(L (l m).ne (l m).en).length
  rw[a0k];omega
 ·have hz:=hroot.1 q
  have hN:(l m).mk'.on[(l m).root.toNat]? =some ((l m).nd (l m).root.toNat):=by
   show (L (l m).nn (l m).nd)[_]? =_
   rw[a6x,if_pos (by omega)]
  obtain⟨p,g1,g2,_⟩:=(h.invM hm).ok _ _ hN
  exact⟨_,p,hN,Nat.zero_le _,g1,g2⟩
theorem a0x.cellLeads (h:a0x n l){m:Nat}(hm:m<n){p:Nat->Nat}(hp:dgOk (szN l) (odN l) (l 0).no p):h3j (l m).mk' p (l m).root ((l m).cell (a5r (l 0).sz (fun c=>(p c:Int)) (l 0).ns).toNat):=by
 obtain⟨e1,e2⟩:=h.fr m hm
 obtain⟨a1,a2⟩:=a2w.1 e1
 obtain⟨b1,b2⟩:=a2w.1 e2
 have ho:=(a1k (h.di 0 h.pos.1).fr).2.2.2
 have:=(h.di m hm).rootLeads (h.flt m hm) (p:=p) (fun i hi=>by
  have h1:=hp i (by omega)
  have h2:=(ho.2 i (by omega)).1
  unfold szN odN at h1
  rw[<-b2 i (by omega),<-a2 _ (by omega)]
  exact h1)
 rw[<-a1,<-h4c (pl:=fun c=>(p c:Int)) a2] at this
 exact this
theorem a0x.rch (h:a0x n l){m:Nat}(hm:m<n){k:Nat}(hk:k<(l m).nn):Rch (l m).mk'.on (k:Int) (l m).root:=by
 have hs:=(h.di m hm).dia.2.2
 have hin:(k:Int)∈(Law.srch (l m).N ((l m).nn+1) (l m).root ([],[])).1:=by
  rw[hs]
  exact Law.mem_rng.2 ⟨by omega,by omega⟩
 rcases h4e _ _ _ _ hin with h1|h1
 ·simp at h1
 ·exact h1
noncomputable def h4l (od:Nat->Nat)(q:Nat)(α p:Nat->Nat):Nat->Nat:=fun c=>by
 classical exact if∃i,i<q/\od i=c then α c else p c
theorem h4k (h:a0x n l)(h':a0x n l')(hns:(l 0).ns=(l' 0).ns)(hszE: ∀j,j<(l 0).ns->(l 0).sz j=(l' 0).sz j)
 (hc: ∀m,m<n-> ∀j:Nat,(j:Int)<prod (l 0).sz (l 0).ns->(l m).cell j=(l' m).cell j) {q q':Nat} (hq:q<(l 0).no) (hq':q'<(l' 0).no) (hqq:odN l q=odN l' q')
 (hb: ∀c,(∃i,i<q/\odN l i=c)↔ ∃i,i<q'/\odN l' i=c):cnt (a7d l n).on (odN l q)<=cnt (a7d l' n).on (odN l q):=by
 have ho:=(a1k (h.di 0 h.pos.1).fr).2.2.2
 have ho':=(a1k (h'.di 0 h.pos.1).fr).2.2.2
 have hod: ∀i,i<(l 0).no->odN l i<(l 0).ns:=fun i hi=>by
  have:=(ho.2 i hi).1
  unfold odN;omega
 have hod': ∀i,i<(l' 0).no->odN l' i<(l 0).ns:=fun i hi=>by
  have:=(ho'.2 i hi).1
  unfold odN;omega
 have hszN: ∀c,c<(l 0).ns->szN l c=szN l' c:=fun c hc=>by unfold szN;rw[hszE c hc]
 have hex: ∀c,c<(l 0).ns->(∃i,i<(l 0).no/\odN l i=c):=fun c hc=>by
  obtain⟨p,p1,p2,_⟩:=e9a ho (v:=(c:Int)) ⟨by omega,by omega⟩
  exact⟨p,p1,by unfold odN;omega⟩
 have hex': ∀c,c<(l 0).ns->(∃i,i<(l' 0).no/\odN l' i=c):=fun c hc=>by
  obtain⟨p,p1,p2,_⟩:=e9a ho' (v:=(c:Int)) ⟨by omega,by omega⟩
  exact⟨p,p1,by unfold odN;omega⟩
 have hdg: ∀p,dgOk (szN l) (odN l) (l 0).no p↔dgOk (szN l') (odN l') (l' 0).no p:=fun p=>by
  constructor
  ·intro hp i hi
   obtain⟨k,k1,k2⟩:=hex (odN l' i) (hod' i hi)
   have:=hp k k1
   rw[k2] at this
   rw[<-hszN _ (hod' i hi)];exact this
  ·intro hp i hi
   obtain⟨k,k1,k2⟩:=hex' (odN l i) (hod i hi)
   have:=hp k k1
   rw[k2] at this
   rw[hszN _ (hod i hi)];exact this
 let R:NdR->NdR->Prop:=fun b b'=> ∃w w':Nat,(a7d l n).on[w]? =some b/\b.var=(odN l q:Int)/\(a7d l' n).on[w']? =some b'/\ ∀p,dgOk (szN l) (odN l) (l 0).no p-> ∀v,h3j (h4v (a7d l n)) p (w:Int) v->h3j (h4v (a7d l' n)) p (w':Int) v
 unfold cnt
 refine Int.ofNat_le.2 (h3v (R:=R) ((h3l n).2.filter _) (fun b hbm=> ?_) fun b b2 b' h1 h2=> ?_)
 ·obtain⟨hb1,hb2⟩:=List.mem_filter.1 hbm
  have hbv:b.var=(odN l q:Int):=of_decide_eq_true hb2
  obtain⟨w,hw⟩:=List.getElem?_of_mem hb1
  obtain⟨m,hm,k,hk,hkw,hbE⟩:=h.cov hw
  have hD:=h.invM hm
  have hD':=h'.invM hm
  have hN:(l m).mk'.on[k]? =some ((l m).nd k):=by
   show (L (l m).nn (l m).nd)[k]? =_
   rw[a6x,if_pos hk]
  have hkv:((l m).nd k).var=(odN l q:Int):=by rw[hbE] at hbv;exact hbv
  have hkq:okR (odN l) (l 0).no (l m).mk' q (k:Int):=⟨fun h0=>by omega,fun _=>⟨_,q,by rw[Int.toNat_natCast];exact hN,Nat.le_refl _,hq,hkv⟩⟩
  obtain⟨_,α,hα,hαl⟩:=h5g hD h.inj h.s1 hq hN hkv (h.rch hm hk) 0 (h.rootOk hm)
  have hα':=(hdg α).1 hα
  obtain⟨x,hx1,hx2⟩:=h4o hD' h'.inj hα' q' 0 _ (by omega) (h'.rootOk hm)
  rw[Nat.zero_add] at hx1 hx2
  have key: ∀p,dgOk (szN l) (odN l) (l 0).no p-> ∀v,h3j (l m).mk' p (k:Int) v->h3j (l' m).mk' p x v:=fun p hp v hl=>by
   have hmix:dgOk (szN l) (odN l) (l 0).no (h4l (odN l) q α p):=fun i hi=>by
    unfold h4l
    split
    ·exact hα i hi
    ·exact hp i hi
   have hmix':=(hdg _).1 hmix
   have hp':=(hdg _).1 hp
   have e1: ∀i,q<=i->i<(l 0).no->p (odN l i)=h4l (odN l) q α p (odN l i):=fun i hi hi2=>by
    unfold h4l
    rw[if_neg]
    rintro⟨j,hj,e⟩
    have:=h.inj j i (by omega) hi2 e
    omega
   have e2: ∀i,q'<=i->i<(l' 0).no->h4l (odN l) q α p (odN l' i)=p (odN l' i):=fun i hi hi2=>by
    unfold h4l
    rw[if_neg]
    rw[hb]
    rintro⟨j,hj,e⟩
    have:=h'.inj j i (by omega) hi2 e
    omega
   have l1:=hl.indep hD h.inj hp hkq e1
   have l2:=hαl _ hmix (fun i _ hi=>by unfold h4l;rw[if_pos ⟨i,hi,rfl⟩]) _ l1
   have l3:=l2.det (h.cellLeads hm hmix)
   have l4:=h'.cellLeads hm hmix'
   have hcell:(l m).cell (a5r (l 0).sz (fun c=>(h4l (odN l) q α p c:Int)) (l 0).ns).toNat=(l' m).cell (a5r (l' 0).sz (fun c=>(h4l (odN l) q α p c:Int)) (l' 0).ns).toNat:=by
    rw[<-hns,<-h4c (pl:=fun c=>(h4l (odN l) q α p c:Int)) hszE]
    refine hc m hm _ ?_
    have hv:=a8u (n:=(l 0).ns) (sz:=(l 0).sz) (pl:=fun c=>(h4l (odN l) q α p c:Int)) fun c hcc=>by
     obtain⟨i,i1,i2⟩:=hex c hcc
     have:=hmix i i1
     rw[i2] at this
     unfold szN at this
     show 0<=(h4l (odN l) q α p c:Int)/\(h4l (odN l) q α p c:Int)<(l 0).sz c
     omega
    omega
   rw[<-hcell,<-l3] at l4
   obtain⟨v',hl'⟩:=h3m hD' h'.inj hmix' (x.toNat+1) x q' (by omega) hx1
   have l5:=hx2 _ hmix' (fun i _ hi=>by
    unfold h4l
    rw[if_pos ((hb _).2 ⟨i,hi,rfl⟩)]) _ hl'
   rw[l4.det l5]
   exact hl'.indep hD' h'.inj hmix' hx1 e2
  have hxn: ∃(z:Nat) (bz:NdR),x=z/\(l' m).mk'.on[z]? =some bz/\bz.var=(odN l' q':Int):=by
   refine Classical.byContradiction fun hn=> ?_
   have hx3:okR (odN l') (l' 0).no (l' m).mk' (q'+1) x:=⟨hx1.1,fun h0=>by
    obtain⟨b,p,h1,h2,h3,h4⟩:=hx1.2 h0
    refine⟨b,p,h1,?_,h3,h4⟩
    have:p≠q':=fun e=>hn ⟨x.toNat,b,by omega,h1,by rw[<-e];exact h4⟩
    omega⟩
   obtain⟨p,j,j',v,v',hp,hj,hj',hne,d1,d2⟩:=h5c hD h.inj h.s1 hN hq hkv
   have hp1:=hp.set h.inj hj
   have hp2:=hp.set h.inj hj'
   have k1:=key _ hp1 _ d1
   have k2:=key _ hp2 _ d2
   refine hne ((k1.indep hD' h'.inj ((hdg _).1 hp1) hx3 fun i hi hi2=> ?_).det k2)
   unfold h3p
   rw[hqq,if_neg fun e=>by have:=h'.inj i q' hi2 hq' e;omega,if_neg fun e=>by have:=h'.inj i q' hi2 hq' e;omega]
  obtain⟨z,bz,rfl,hz1,hz2⟩:=hxn
  have hzn:z<(l' m).nn:=by
   have:=(List.getElem?_eq_some_iff.1 hz1).1
   rwa [show (l' m).mk'.on.length=(l' m).nn from a0k _ _] at this
  obtain⟨w',hw1,hw2⟩:=(h'.hom hm).nd z hzn
  refine⟨_,List.mem_filter.2 ⟨List.mem_of_getElem? hw2,?_⟩,w,w',hw,hbv,hw2,fun p hp v hl=> ?_⟩
  ·have:(L (l' m).nn (l' m).nd)[z]? =some bz:=hz1
   rw[a6x,if_pos hzn] at this
   obtain rfl:(l' m).nd z=bz:=by simpa using this
   rw[hqq]
   exact decide_eq_true hz2
  ·obtain⟨v',hl'⟩:=h3m hD h.inj hp (k+1) (k:Int) q (by omega) hkq
   have g1:=h.nodeLeads hm hk hp hl'
   rw[hkw] at g1
   have g2:=h'.nodeLeads hm hzn ((hdg _).1 hp) (key p hp v' hl')
   have hw1':h4q l' n m (z:Int)=(w':Int):=hw1
   rw[hw1'] at g2
   rw[hl.det g1];exact g2
 ·obtain⟨w,w',a1,av,a2,a3⟩:=h1
  obtain⟨u,u',b1,bv,b2',b3⟩:=h2
  obtain rfl:w'=u':=(List.getElem?_inj (List.getElem?_eq_some_iff.1 a2).1 (h3l n).2).1 (a2.trans b2'.symm)
  have hW:=h.invW
  have ok: ∀(w:Nat) (b:NdR),(a7d l n).on[w]? =some b->b.var=(odN l q:Int)->okR (odN l) (l 0).no (h4v (a7d l n)) q (w:Int):=fun w b hw hv=>⟨fun h0=>by omega,fun _=>⟨b,q,by rw[Int.toNat_natCast];exact hw,Nat.le_refl _,hq,hv⟩⟩
  have:(w:Int)=(u:Int):=h4y hW h.inj h.s1 _ _ _ q (Nat.le_refl _) (ok w b a1 av) (ok u b2 b1 bv) fun p hp v hl=>by
   obtain⟨v',hl'⟩:=h3m hW h.inj hp (u+1) (u:Int) q (by omega) (ok u b2 b1 bv)
   rw[(a3 p hp v hl).det (b3 p hp v' hl')];exact hl'
  obtain rfl:w=u:=Int.ofNat.inj this
  rw[a1] at b1
  exact Option.some.inj b1
theorem h4t (h:a0x n l)(h':a0x n l')(hns:(l 0).ns=(l' 0).ns)(hszE: ∀j,j<(l 0).ns->(l 0).sz j=(l' 0).sz j)
 (hc: ∀m,m<n-> ∀j:Nat,(j:Int)<prod (l 0).sz (l 0).ns->(l m).cell j=(l' m).cell j) {q q':Nat} (hq:q<(l 0).no) (hq':q'<(l' 0).no) (hqq:odN l q=odN l' q')
 (hb: ∀c,(∃i,i<q/\odN l i=c)↔ ∃i,i<q'/\odN l' i=c):cnt (a7d l n).on (odN l q)=cnt (a7d l' n).on (odN l q):=by
 refine Int.le_antisymm (h4k h h' hns hszE hc hq hq' hqq hb) ?_
 have:=h4k h' h hns.symm (fun j hj=>(hszE j (by omega)).symm) (fun m hm j hj=>(hc m hm j (by rw[show prod (l 0).sz (l 0).ns=prod (l' 0).sz (l 0).ns from b1u (a3i hszE),hns];exact hj)).symm) hq' hq hqq.symm (fun c=>(hb c).symm)
 rw[<-hqq] at this
 exact this
end
theorem h3n {n:Nat}(g:Nat->Int){k j:Nat}(hk:k+1<n)(hj:j<n):mvd n g k (k+1) j=if j=k then g (k+1) else if j=k+1 then g k else g j:=by
 rw[c4z (by omega) hk _ hj]
 unfold e5a
 (repeat' split)<;>first|rfl|(congr 1;omega)|omega
section
variable {n:Nat} {l:Nat->DiR}
theorem a0x.swapWidth (h:a0x n l)(hs:prod (l 0).sz (l 0).ns<=1000){k:Nat}(hk:k+1<(l 0).no){i:Nat}(hi:i<(l 0).ns)(h1:(i:Int)≠(l 0).od k)(h2:(i:Int)≠(l 0).od (k+1)):
 cnt (a7d l n).on i=cnt (a7d (mvF l k (k+1)) n).on i:=by
 have hfr:=h.frMv (p:=k) (q:=k+1) (by omega) hk
 have h':a0x n (mvF l k (k+1)):=h.chg hs hfr
 have ho:=(a1k (h.di 0 h.pos.1).fr).2.2.2
 obtain⟨q,q1,q2,_⟩:=e9a ho (v:=(i:Int)) ⟨by omega,by omega⟩
 have hqi:odN l q=i:=by unfold odN;omega
 have hqk:q≠k:=fun e=>h1 (by rw[<-e,q2])
 have hqk1:q≠k+1:=fun e=>h2 (by rw[<-e,q2])
 have hod: ∀j,j<(l 0).no->odN (mvF l k (k+1)) j=if j=k then odN l (k+1) else if j=k+1 then odN l k else odN l j:=fun j hj=>by
  show (mvd (l 0).no (l 0).od k (k+1) j).toNat=_
  rw[h3n _ hk hj]
  (repeat' split)<;>rfl
 have:=h4t h h' (q:=q) (q':=q) rfl (fun j hj=>rfl) (fun m hm j hj=>(h.chgCell hfr hm hj).symm) q1 q1 (by rw[hod q q1,if_neg hqk,if_neg hqk1]) fun c=>by
  constructor
  ·rintro⟨j,hj,e⟩
   by_cases e1:j=k
   ·exact⟨k+1,by omega,by rw[hod _ hk,if_neg (by omega),if_pos rfl,<-e1];exact e⟩
   ·by_cases e2:j=k+1
    ·exact⟨k,by omega,by rw[hod k (by omega),if_pos rfl,<-e2];exact e⟩
    ·exact⟨j,hj,by rw[hod j (by omega),if_neg e1,if_neg e2];exact e⟩
  ·rintro⟨j,hj,e⟩
   rw[hod j (by omega)] at e
   split at e
   ·exact⟨k+1,by omega,e⟩
   ·split at e
    ·exact⟨k,by omega,e⟩
    ·exact⟨j,hj,e⟩
 rw[hqi] at this
 exact this
end
section
variable {P:Program} {A:Ann} {ro:Option Nat} {E:Ent} {Sg:Sig}
theorem h4b (hS:Sg=std P A ro E){n:Nat}(h:1<=n):Sg.isub (Sg.ofNat n) (Int.ofNat 1)=((n-1:Nat):Int):=by
 rw[(a5x hS).isub,(a5x hS).ofNat]
 show (n:Int)-1=_
 omega
theorem h5a (hS:Sg=std P A ro E){z:Int}{n:Nat}(h:0<=z)(hn:1<=n):Sg.irem z (Sg.isub (Sg.ofNat n) (Int.ofNat 1))=((z.toNat % (n-1):Nat):Int):=by
 rw[h4b hS hn,(a5x hS).irem]
 obtain⟨k,rfl⟩: ∃k:Nat,z=k:=⟨z.toNat,by omega⟩
 rw[Int.toNat_natCast,Int.tmod_eq_emod_of_nonneg h];rfl
theorem b3f (hS:Sg=std P A ro E){n:Nat}(h:1<=n)(h2:n<=1000000):Sg.inr .i64 (Sg.isub (Sg.ofNat n) (Int.ofNat 1)):=by rw[h4b hS h];exact a9w hS (by omega)
theorem h5h (hS:Sg=std P A ro E){n:Nat}(h:2<=n):Sg.nz (Sg.isub (Sg.ofNat n) (Int.ofNat 1)):=by rw[h4b hS (by omega)];subst hS;exact fun h2=>by have:=Int.ofNat.inj h2;omega
end
theorem h3y (n:Nat)(l:Nat->DiR)(hw: ∀i,i<n->(l i).wf)(z:Int)(hz:0<=z/\z<=255):a0j Tryz.prog true 8 [dsl n l,u8 z] (bool true):=by
 have haw:=d0x
 by_cases ht:d7d n l/\a6p n l 0
 rotate_left
 ·have h34:=d4k n l hw false (by simp only[ht,Bool.false_eq_true])
  refine a0s (a0d Tryz.mixed okP ok8 _ rfl fun E Sg hb hS=> ?_)
  cbv
  refine a0e hS _ h34 ?_
  cbv
  refine a0e hS _ haw ?_
  cbv
  exact a0b.refl _
 have h34:=d4k n l hw true (by simp only[ht,and_self])
 have hn4:=ht.1.1
 have hF:=a0x.mk' (n:=n) (l:=l) (by omega) (fun i hi=>(ht.1.2 i hi).1.fit (hw i hi)) (fun i hi=>(hw i hi).2.2) ht.2
 have hp:=hF.pos.1
 have hns:=(a1k (hF.di 0 hp).fr).1
 have hs:prod (l 0).sz (l 0).ns<=1000:=by
  have:=(ht.1.2 0 hp).2 (c1q ht.2|>.2 0 hp).1
  omega
 have hno:=hF.ons
 by_cases h0:(l 0).ns<2
 ·obtain⟨ns,hnse⟩: ∃ns,(l 0).ns=ns:=⟨_,rfl⟩
  rw[hnse] at h0
  refine a0s (a0d Tryz.mixed okP ok8 _ rfl fun E Sg hb hS=> ?_)
  have e:=a5x hS
  cbv
  refine a0e hS _ h34 ?_
  cbv
  refine a0a hS (a1d hS hp) ?_
  have hn0:nat Sg (IX.l (Int.ofNat 0))=0:=rfl
  have hd:decide ((ns:Int)<Int.ofNat 2)=true:=decide_eq_true (Int.ofNat_lt.2 h0)
  simp only[hn0,hnse,e.ofNat,e.ilt,hd]
  cbv
  refine a0e hS _ haw ?_
  cbv
  exact a0b.refl _
 obtain⟨k,hk⟩: ∃k,k=z.toNat % ((l 0).ns-1):=⟨_,rfl⟩
 have hkn:k+1<(l 0).ns:=by have:k<(l 0).ns-1:=by rw[hk];exact Nat.mod_lt _ (by omega)
                           omega
 rw[<-hno] at hkn
 have hfr:=hF.frMv (p:=k) (q:=k+1) (by omega) hkn
 obtain⟨G,hG⟩: ∃G:Nat->DiR,mvF l k (k+1)=G:=⟨_,rfl⟩
 have hGok:a0x n G:=by rw[<-hG];exact hF.chg hs hfr
 have hsw1:=(h4w hF k).2 k rfl (by omega)
 have hsw2:a0j Tryz.prog false 36 [dsl n G,int k] (.tuple [dsl n l,int 0]):=by
  have h1:=(h4w hGok k).2 k rfl (by rw[<-hG];exact hkn)
  refine a0j.resLike (a1r.tuple (.cons ?_ (.cons (a0b.refl _) .nil))) h1
  rw[<-hG]
  refine hF.back (no:=(l 0).no) hfr fun j hj=> ?_
  show mvd (l 0).no (mvd (l 0).no (l 0).od k (k+1)) k (k+1) j=_
  rw[h3n _ hkn hj,h3n _ hkn hkn,h3n _ hkn (show k<(l 0).no by omega),h3n _ hkn hj]
  (repeat' split)<;>first|rfl|omega|(congr 1;omega)
 obtain⟨u,hu⟩: ∃u,cnt (a7d l n).on=u:=⟨_,rfl⟩
 obtain⟨v,hv⟩: ∃v,cnt (a7d G n).on=v:=⟨_,rfl⟩
 have h20:=(hF.costs u fun j _=>by rw[hu]).2
 have h20G:=(hGok.costs v fun j _=>by rw[hv]).2
 have h21G:a0j Tryz.prog true 21 [dsl n G] (int 0):=d2k n (by omega) G hGok.fit 0 hGok.err
 have hsame: ∀i,i<(l 0).ns->(i:Int)≠(l 0).od k->(i:Int)≠(l 0).od (k+1)->u i=v i:=fun i hi h1 h2=>by
  rw[<-hu,<-hv,<-hG]
  exact hF.swapWidth hs hkn hi h1 h2
 have h19:=e2w n (by omega) l hF.fit
 have h19G:=e2w n (by omega) G hGok.fit
 have h27:=hF.same
 have hGns:(G 0).ns=(l 0).ns:=by rw[<-hG];rfl
 rw[hGns] at h20G
 rw[hG] at hsw1
 obtain⟨ns,hnse⟩: ∃ns,(l 0).ns=ns:=⟨_,rfl⟩
 obtain⟨o1,ho1⟩: ∃o1,(l 0).od=o1:=⟨_,rfl⟩
 rw[hnse] at h20 h20G hk hsame hno h0 hns
 rw[hno] at hkn
 rw[ho1] at hsame
 clear hG hGok hu hv
 refine a0s (a0d Tryz.mixed okP ok8 _ rfl fun E Sg hb hS=> ?_)
 have e:=a5x hS
 have hn0:nat Sg (IX.l (Int.ofNat 0))=0:=rfl
 cbv
 refine a0e hS _ h34 ?_
 cbv
 refine a0a hS (a1d hS hp) ?_
 have hd:decide ((ns:Int)<Int.ofNat 2)=false:=decide_eq_false (fun h=>h0 (Int.ofNat_lt.1 h))
 simp only[hn0,hnse,e.ofNat,e.ilt,hd]
 cbv
 have er:=h5a (n:=ns) hS hz.1 (by omega)
 rw[<-hk] at er
 simp only[hn0,hnse,h5i hS hz,er]
 refine a0a hS (a1d hS hp) (a0a hS (b3f hS (by omega) (by omega)) (a0a hS (h5h hS (by omega)) ?_))
 refine a0e hS _ h19 ?_
 cbv
 refine a0e hS _ hsw1 ?_
 cbv
 simp only[e.ieq,e.bnot,BEq.rfl,Bool.not_true]
 cbv
 refine a0e hS _ h21G ?_
 cbv
 simp only[e.ieq,e.bnot,BEq.rfl,Bool.not_true]
 cbv
 refine a0e hS _ h19 ?_
 cbv
 refine a0e hS _ h20 ?_
 cbv
 refine a0e hS _ h19G ?_
 cbv
 refine a0e hS _ h20G ?_
 cbv
 refine a0e hS _ hsw2 ?_
 cbv
 repeat (simp only[e.ieq,e.bnot,BEq.rfl,Bool.not_true];cbv)
 refine a0a hS (a1d hS hp) ?_
 simp only[hn0,hnse]
 repeat (simp only[e.ieq,e.bnot,BEq.rfl,Bool.not_true];cbv)
 refine a0y Tryz.mixed okP hS (fun i=>i<=ns) (fun i=>ns-i)
  (fun i=>⟨a2l [(0,dsl n l),(5,int k),(8,isl ns u),(10,isl ns v),(12,dsl n l),(14,int i)] 139,[],[]⟩) 0 (by omega) ?_ ?_
 ·exact a0m rfl ⟨a0b.refl _,a0b.refl _,a0b.refl _,a0b.refl _,a0b.refl _,a1m rfl,trivial⟩ (.nil _) (by omega) (.inr rfl) rfl
 ·intro i hi N hN
  have hsi:=hsame i
  cbv
  split
  ·rename_i h
   have hil:i<ns:=c3a hS h
   cbv
   simp only[nat,e.toNat,Int.ofNat_eq_natCast,Int.toNat_natCast]
   refine a0a hS (a1d hS hil) (a0a hS (a1d hS hil) ?_)
   split
   ·rename_i h1
    have hk0:k<ns:=by omega
    have q1:=f2x hS h1
    cbv
    simp only[hn0,hno,ho1,nat,e.toNat,Int.ofNat_eq_natCast,Int.toNat_natCast]
    refine a0a hS (a1d hS hp) (a0a hS (a1d hS hk0) ?_)
    split
    ·rename_i h2
     have q2:=f2x hS h2
     have hb1: -9223372036854775808<=((k+1:Nat):Int)/\((k+1:Nat):Int)<=9223372036854775807:=by omega
     have e1:Sg.iadd (Int.ofNat k) (Int.ofNat 1)=((k+1:Nat):Int):=e.iadd _ _
     cbv
     simp only[e1]
     simp only[hn0,hno,ho1,nat,e.toNat,Int.ofNat_eq_natCast,Int.toNat_natCast]
     refine a0a hS (a1d hS hp) (a0a hS (a9w hS hb1) (a0a hS (a1d hS hkn) ?_))
     split
     ·rename_i h3
      have q3:=f2x hS h3
      cbv
      exact absurd (hsi hil q2 q3) q1
     ·cbv
      refine a0a hS (a4t hS (by omega)) ?_
      exact hN (i+1) _ hil (by omega) (a0m rfl ⟨a0b.refl _,a0b.refl _,a0b.refl _,a0b.refl _,a0b.refl _,a5c hS,trivial⟩ (.nil _) (by omega) (.inr rfl) rfl)
    ·cbv
     refine a0a hS (a4t hS (by omega)) ?_
     exact hN (i+1) _ hil (by omega) (a0m rfl ⟨a0b.refl _,a0b.refl _,a0b.refl _,a0b.refl _,a0b.refl _,a5c hS,trivial⟩ (.nil _) (by omega) (.inr rfl) rfl)
   ·cbv
    refine a0a hS (a4t hS (by omega)) ?_
    exact hN (i+1) _ hil (by omega) (a0m rfl ⟨a0b.refl _,a0b.refl _,a0b.refl _,a0b.refl _,a0b.refl _,a5c hS,trivial⟩ (.nil _) (by omega) (.inr rfl) rfl)
  ·rename_i h
   have hil:ns<=i:=d4h hS h
   cbv
   refine a0e hS _ h27 ?_
   cbv
   refine a0e hS _ haw ?_
   cbv
   exact a0b.refl _
end Go.Proofs.Tryz.Run
