/- The program's Sift of a family; costs of families that are alike. Choosing the greatest again and again ranks; sifting never makes the cost greater. The widths as a list of its own; the reference's Rank. OrderLess answers true: the walk. Conditions: none. -/
import Derived.Test.YtpcokdalcafgdaaGreatLLr
import Derived.Test.YtpcokdalcafgdaaGreatLNa
import Derived.Test.YtpcokdalcafgdaaGreatLNc
import Derived.Test.YtpcokdalcafgdaaGreatLLh
import Derived.Test.YtpcokdalcafgdaaGreatLNb
import Derived.Test.YtpcokdalcafgdaaGreatLOi
import Derived.Test.YtpcokdalcafgdaaGreatLPm0
import Derived.Test.YtpcokdalcafgdaaGreatLNe
import Derived.Test.YtpcokdalcafgdaaGreatLQd
import Derived.Test.YtpcokdalcafgdaaGreatLQf
import Derived.Test.YtpcokdalcafgdaaGreatLQh
import Derived.Test.YtpcokdalcafgdaaGreatLQi
import Derived.Test.YtpcokdalcafgdaaGreatLSd
import Derived.Test.YtpcokdalcafgdaaGreatLSq
import Derived.Test.YtpcokdalcafgdaaGreatLSv
import Derived.Test.YtpcokdalcafgdaaGreatLSy
import Derived.Test.YtpcokdalcafgdaaGreatLUf
import Derived.Test.YtpcokdalcafgdaaGreatLUi
import Derived.Test.YtpcokdalcafgdaaGreatLXc
import Derived.Test.YtpcokdalcafgdaaGreatLXf
import Derived.Test.YtpcokdalcafgdaaGreatLXk
import Derived.Test.YtpcokdalcafgdaaGreatLXn
import Derived.Test.YtpcokdalcafgdaaGreatLXt
import Derived.Test.YtpcokdalcafgdaaGreatLXw
import Derived.Test.YtpcokdalcafgdaaGreatLYb
import Derived.Test.YtpcokdalcafgdaaGreatLYf
import Derived.Test.YtpcokdalcafgdaaGreatLYi
import Derived.Test.YtpcokdalcafgdaaGreatLYj
set_option linter.unusedSimpArgs false
set_option linter.unusedVariables false
set_option maxHeartbeats 0
set_option maxRecDepth 100000
namespace Go.Proofs.Tryz.Run
open Go Go.Vf Go.Proofs
open Go.Proofs.YtpcokdalcafgdaaGreat
theorem d3a {a b:DiR}(he:a.E=b.E)(refs:Nat->Int)(s:Num){r i:Int}(hr:a4g a.ne r i):c6o a refs s r=c6o b refs s r:=by
 obtain⟨_,h2⟩:=a2w.1 he
 unfold c6o
 split
 ·rfl
 ·have:=hr.2 (by omega)
  rw[h2 _ (by omega)]
theorem c2x {a b:DiR}(he:a.E=b.E)(hN:a.N=b.N)(hk:b1f a)(refs:Nat->Int)(s:Num){i:Nat}(hi:i<a.nn): ∀k,k<=a.nk i->a8o a refs i s k=a8o b refs i s k
 |0,_=>rfl
 |k+1,h=>by
  have ih:=c2x he hN hk refs s hi k (by omega)
  have h1:=(a2w.1 ((a8z.1 hN).2 i hi).2).2 k (by omega)
  rw[a8o,a8o,ih,<-h1,d3a he _ _ (hk i hi k (by omega))]
theorem c1z {a b:DiR}(he:a.E=b.E)(hN:a.N=b.N)(hk:b1f a)(s:Num): ∀i,i<=a.nn->a4k a s i=a4k b s i
 |0,_=>rfl
 |i+1,h=>by
  have ih:=c1z he hN hk s i (by omega)
  obtain⟨h1,h2⟩:=(a8z.1 hN).2 i (by omega)
  have h3:=(a2w.1 h2).1
  have h4: ∀refs s,a8o a refs i s (b.nk i)=a8o b refs i s (b.nk i):=fun refs s=>by
   rw[<-h3];exact c2x he hN hk refs s (i:=i) (by omega) _ (Nat.le_refl _)
  rw[a4k,a4k,ih]
  unfold e3a
  simp only[h4,h1,h3]
theorem c2y {l l':Nat->DiR}: ∀{n},(∀i,i<n->a6o (l i) (l' i)/\b1f (l i))->a7d l n=a7d l' n
 |0,_=>rfl
 |n+1,h=>by
  obtain⟨⟨_,_,he,hN,_⟩,hk⟩:=h n (by omega)
  rw[a7d,a7d,c2y fun i hi=>h i (by omega),c1z he hN hk _ _ (Nat.le_refl _),(a8z.1 hN).1]
theorem b6x.surj {n:Nat}{u:Nat->Nat}(h:b6x n u){v:Nat}(hv:v<n): ∃p,p<n/\u p=v:=by
 have ho:a1u n n fun i=>(u i:Int):=⟨rfl,fun i hi=>⟨⟨Int.natCast_nonneg _,by have:=h.1 i hi;show (u i:Int)<=_;omega⟩,fun k hk e=>by
  have:=h.2 k i (by omega) hi (Int.ofNat.inj e)
  omega⟩⟩
 obtain⟨p,hp,e⟩:=ho.at (v:=(v:Int)) ⟨by omega,by omega⟩
 exact⟨p,hp,by omega⟩
theorem b5b.uniq {n:Nat}{W:Nat->Int}{u u':Nat->Nat}(h:b5b n W u)(h':b5b n W u'): ∀t,t<n->u t=u' t:=by
 intro t
 induction t using Nat.strongRecOn with
 |ind t ih=>
  intro ht
  obtain⟨s,hs,e⟩:=h'.perm.surj (h.perm.1 t ht)
  obtain⟨s',hs',e'⟩:=h.perm.surj (h'.perm.1 t ht)
  have h1:t<=s:=Nat.le_of_not_lt fun hc=>by
   have:=h.perm.2 s t hs ht (by rw[ih s hc hs,e])
   omega
  have h2:t<=s':=Nat.le_of_not_lt fun hc=>by
   have:=h'.perm.2 s' t hs' ht (by rw[<-ih s' hc hs',e'])
   omega
  rcases Nat.eq_or_lt_of_le h1 with q|q
  ·subst q;exact e.symm
  rcases Nat.eq_or_lt_of_le h2 with q2|q2
  ·subst q2;exact e'
  have a:=h'.ord t s q hs
  have b:=h.ord t s' q2 hs'
  rw[e] at a
  rw[e'] at b
  unfold lef at a b
  omega
noncomputable def rkU (n:Nat)(W:Nat->Int):Nat->Nat:=by
 classical exact if h: ∃u,b5b n W u then h.choose else fun _=>0
theorem f2c {n:Nat}{W:Nat->Int}{u:Nat->Nat}(h:b5b n W u): ∀t,t<n->u t=rkU n W t:=fun t ht=>by
 unfold rkU
 have hx: ∃u,b5b n W u:=⟨u,h⟩
 rw[dif_pos hx]
 exact h.uniq hx.choose_spec t ht
theorem e4l {n:Nat}{W:Nat->Int}: ∀t,t<n->rkU n W t<n:=fun t ht=>by
 unfold rkU
 split
 ·rename_i hx;exact hx.choose_spec.perm.1 t ht
 ·show 0<n;omega
section
variable {n:Nat} {l:Nat->DiR}
theorem d3w (h:a0x n l)(hs:prod (l 0).sz (l 0).ns<=1000){od od':Nat->Int}(ho:a1u (l 0).no (l 0).no od)(e: ∀j,j<(l 0).no->od j=od' j):cst n l od=cst n l od':=by
 unfold cst
 rw[c2y fun i hi=>⟨d7o e i,((h.chg hs (h.frO ho)).di i hi).loose.kids⟩]
theorem h2p (h:a0x n l):cst n l (l 0).od=(a7d l n).on.length:=by
 unfold cst
 rw[c2y (l:=l) (l':=chg l (l 0).no (l 0).od) fun i hi=>⟨h.own hi,(h.di i hi).loose.kids⟩]
noncomputable def f8p (n:Nat)(l:Nat->DiR):Nat->Nat:=rkU (l 0).no (cnt (a7d l n).on)
noncomputable def e8z (n:Nat)(l:Nat->DiR)(t:Nat):Nat->Int:=a6q (cst n l) (l 0).no (f8p n l) (l 0).od t
noncomputable def g1s (n:Nat)(l:Nat->DiR)(t:Nat):Nat:=trl (cst n l) (l 0).no (f8p n l) (l 0).od t
theorem a0x.sOrd (h:a0x n l){t:Nat}(ht:t<=(l 0).no):a1u (l 0).no (l 0).no (e8z n l t):=b9r h.ordO (fun t ht=>e4l t ht) t ht
theorem a0x.sift (h:a0x n l)(hs:prod (l 0).sz (l 0).ns<=1000):
 a0j Tryz.prog false 25 [dsl n l] (.tuple [dsl n (Run.chg l (l 0).no (e8z n l (l 0).no)),isl (l 0).no (fun t=>(g1s n l t:Int)),int 0]):=by
 have h54:=h.openF
 have h56:=h.widOwn (cnt (a7d l n).on) fun j _=>rfl
 have h55:=fun od (ho:a1u (l 0).no (l 0).no od)=>h.costF hs ho
 have h64:=fun od od' (ho:a1u (l 0).no (l 0).no od) (ho':a1u (l 0).no (l 0).no od')=>h.inF hs ho ho'
 obtain⟨m,rfl⟩: ∃m,n=m+1:=⟨n-1,by have:=h.pos;omega⟩
 exact e7q (h.no 0 h.pos.1) h.ons.symm (cnt (a7d l (m+1)).on) (cst (m+1) l) (fun od ho=>f0h h hs ho) h.ordO (fun od i=>(Run.chg l (l 0).no od i).row) (ec:=fun i=>[.sl 2 (b3m l i) (c2g l i)])
  h54 h56 h55 h64 (fun od p q ho hp hq=>h.moveF ho hp hq) (f8p (m+1) l) (fun t ht=>e4l t ht) fun u hu t ht=>f2c hu t ht
end
def bst (w:Nat->Int):Nat->Int
 |0=> -1
 |k+1=>if 0<=w k/\(bst w k<0\/w (bst w k).toNat<w k) then k else bst w k
theorem h0e (w:Nat->Int): ∀n,(bst w n= -1/\ ∀k,k<n->w k<0)\/((0<=bst w n/\bst w n<n)/\0<=w (bst w n).toNat/\ ∀k,k<n->0<=w k->lef w (bst w n).toNat k)
 |0=> .inl ⟨rfl,fun k hk=>by omega⟩
 |n+1=>by
  have ih:=h0e w n
  rw[bst]
  split
  ·rename_i h
   refine .inr ⟨by omega,by rw[Int.toNat_natCast];exact h.1,fun k hk hw=> ?_⟩
   rw[Int.toNat_natCast]
   by_cases e:k=n
   ·subst e;exact .inr ⟨rfl,Nat.le_refl _⟩
   ·rcases ih with⟨h1,h2⟩|⟨h1,h2,h3⟩
    ·have:=h2 k (by omega);omega
    ·have h4:=h3 k (by omega) hw
     unfold lef at*
     omega
  ·rename_i h
   rcases ih with⟨h1,h2⟩|⟨h1,h2,h3⟩
   ·refine .inl ⟨h1,fun k hk=> ?_⟩
    by_cases e:k=n
    ·subst e;omega
    ·exact h2 k (by omega)
   ·refine .inr ⟨by omega,h2,fun k hk hw=> ?_⟩
    by_cases e:k=n
    ·subst e;unfold lef;omega
    ·exact h3 k (by omega) hw
def wS (n:Nat)(w:Nat->Int):Nat->Nat->Int
 |0=>w
 |t+1=>a0r (wS n w t) (bst (wS n w t) n).toNat (-1)
def sel (n:Nat)(w:Nat->Int)(t:Nat):Nat:=(bst (wS n w t) n).toNat
theorem f2m {n t:Nat}{u:Nat->Nat}(ht:t<n): ∃k,k<n/\ ∀j,j<t->u j≠k:=by
 apply Classical.byContradiction
 intro hc
 have h1: ∀k,∃j,k<n->j<t/\u j=k:=fun k=>by
  by_cases hk:k<n
  ·apply Classical.byContradiction
   intro h2
   exact hc ⟨k,hk,fun j hj e=>h2 ⟨j,fun _=>⟨hj,e⟩⟩⟩
  ·exact⟨0,fun h=>absurd h hk⟩
 obtain⟨f,hf⟩:=Classical.axiomOfChoice h1
 have hp:b6x n f:=⟨fun i hi=>by have:=(hf i hi).1;omega,fun i j hi hj e=>by
  rw[<-(hf i hi).2,<-(hf j hj).2,e]⟩
 obtain⟨p,hp1,hp2⟩:=hp.surj (v:=n-1) (by omega)
 have:=(hf p hp1).1
 omega
theorem h0f {n:Nat}{w:Nat->Int}(hw: ∀k,k<n->0<=w k): ∀t,t<=n->(∀j,j<t->sel n w j<n/\bst (wS n w j) n=(sel n w j:Int))/\(∀k,k<n->(∃j,j<t/\sel n w j=k)/\wS n w t k= -1\/(∀j,j<t->sel n w j≠k)/\wS n w t k=w k)
 |0,_=>⟨fun j hj=>by omega,fun k hk=> .inr ⟨fun j hj=>by omega,rfl⟩⟩
 |t+1,ht=>by
  obtain⟨h1,h2⟩:=h0f hw t (by omega)
  obtain⟨k0,hk0,hk1⟩:=f2m (u:=sel n w) (t:=t) (n:=n) (by omega)
  have hst:sel n w t<n/\bst (wS n w t) n=(sel n w t:Int):=by
   unfold sel
   rcases h0e (wS n w t) n with⟨_,a⟩|⟨a,_⟩
   ·exfalso
    have h3:=a k0 hk0
    rcases h2 k0 hk0 with⟨⟨j,hj,e⟩,_⟩|⟨_,e⟩
    ·exact hk1 j hj e
    ·have:=hw k0 hk0;omega
   ·omega
  refine⟨fun j hj=> ?_,fun k hk=> ?_⟩
  ·by_cases e:j=t
   ·subst e;exact hst
   ·exact h1 j (by omega)
  ·rw[wS]
   unfold a0r
   rw[show (bst (wS n w t) n).toNat=sel n w t from rfl]
   by_cases e:k=sel n w t
   ·rw[if_pos e];exact .inl ⟨⟨t,by omega,e.symm⟩,rfl⟩
   ·rw[if_neg e]
    rcases h2 k hk with⟨⟨j,hj,e2⟩,e3⟩|⟨h3,e3⟩
    ·exact .inl ⟨⟨j,by omega,e2⟩,e3⟩
    ·refine .inr ⟨fun j hj e4=> ?_,e3⟩
     by_cases e5:j=t
     ·subst e5;exact e e4.symm
     ·exact h3 j (by omega) e4
theorem h0g {n:Nat}{w:Nat->Int}(hw: ∀k,k<n->0<=w k){t:Nat}(ht:t<n):(∀j,j<t->sel n w j≠sel n w t)/\ ∀k,k<n->(∀j,j<t->sel n w j≠k)->lef w (sel n w t) k:=by
 obtain⟨h1,h2⟩:=h0f hw t (by omega)
 obtain⟨h3,h4⟩:=(h0f hw (t+1) (by omega)).1 t (by omega)
 have h5:=h0e (wS n w t) n
 rw[h4,Int.toNat_natCast] at h5
 rcases h5 with⟨a,_⟩|⟨_,a,b⟩
 ·omega
 have hs:(∀j,j<t->sel n w j≠sel n w t)/\wS n w t (sel n w t)=w (sel n w t):=by
  rcases h2 _ h3 with⟨_,e⟩|c
  ·omega
  ·exact c
 refine⟨hs.1,fun k hk hn=> ?_⟩
 have e:wS n w t k=w k:=by
  rcases h2 k hk with⟨⟨j,hj,e⟩,_⟩|c
  ·exact absurd e (hn j hj)
  ·exact c.2
 have:=b k hk (by have:=hw k hk;omega)
 unfold lef at*
 rw[hs.2,e] at this
 exact this
theorem h0j {n:Nat}{w:Nat->Int}(hw: ∀k,k<n->0<=w k):b5b n w (sel n w):=by
 have hl: ∀t,t<n->sel n w t<n:=fun t ht=>((h0f hw (t+1) (by omega)).1 t (by omega)).1
 refine⟨⟨hl,fun i j hi hj e=> ?_⟩,fun p q hpq hq=> ?_⟩
 ·rcases Nat.lt_trichotomy i j with h|h|h
  ·exact absurd e ((h0g hw hj).1 i h)
  ·exact h
  ·exact absurd e.symm ((h0g hw hi).1 j h)
 ·refine (h0g hw (t:=p) (by omega)).2 _ (hl q hq) fun j hj=> ?_
  exact (h0g hw hq).1 j (by omega)
theorem b8x {g:Nat->Nat}: ∀{m q:Nat},q<m->g (b0i g m)<=g q
 |0,q,h=>by omega
 |m+1,q,h=>by
  rw[b0i]
  split
  ·have:q=0:=by omega
   subst this;exact Nat.le_refl _
  ·rename_i hm
   split
   ·rename_i h1
    by_cases e:q=m
    ·subst e;exact Nat.le_refl _
    ·have:=b8x (g:=g) (m:=m) (q:=q) (by omega);omega
   ·rename_i h1
    by_cases e:q=m
    ·subst e;omega
    ·exact b8x (by omega)
theorem h2l {n:Nat}(g:Nat->Int){i p q j:Nat}(hi:i<n)(hp:p<n)(hq:q<n)(hj:j<n):mvd n (mvd n g i p) p q j=mvd n g i q j:=by
 rw[c4z hp hq _ hj,c4z hi hp _ ((e6s hp hq).1 j hj),c4z hi hq _ hj]
 unfold e5a
 (repeat' split)<;>first|rfl|(congr 1;omega)|omega
theorem h2t {n:Nat}(g:Nat->Int){p q:Nat}(hp:p<n)(hq:q<n):mvd n g p q q=g p:=by
 rw[c4z hp hq _ hq]
 unfold e5a
 (repeat' split)<;>first|rfl|omega
section
variable {n:Nat} {l:Nat->DiR}
theorem h0l (h:a0x n l): ∀t,t<(l 0).no->sel (l 0).no (cnt (a7d l n).on) t=f8p n l t:=
 f2c (h0j fun k _=>(d7l _ _).1)
theorem h2q (h:a0x n l): ∀t,t<(l 0).no->f8p n l t<(l 0).no:=fun t ht=>e4l t ht
noncomputable def h2r (n:Nat)(l:Nat->DiR)(t:Nat):Nat:=pos (e8z n l t) (f8p n l t:Int) (l 0).no 0
theorem a0x.pPos (h:a0x n l){t:Nat}(ht:t<(l 0).no):h2r n l t<(l 0).no/\e8z n l t (h2r n l t)=(f8p n l t:Int):=by
 have:=h2q h t ht
 obtain⟨p,h1,h2,h3⟩:=e9a (h.sOrd (t:=t) (by omega)) (v:=(f8p n l t:Int)) ⟨by omega,by omega⟩
 unfold h2r
 rw[h3];exact⟨h1,h2⟩
theorem h2e (t:Nat):e8z n l (t+1)=mvd (l 0).no (e8z n l t) (h2r n l t) (g1s n l t):=rfl
theorem a0x.tLt (h:a0x n l){t:Nat}(ht:t<(l 0).no):g1s n l t<(l 0).no:=c4p (by omega)
theorem a0x.tMin (h:a0x n l){t:Nat}{q:Nat}(hq:q<(l 0).no):cst n l (e8z n l (t+1))<=cst n l (mvd (l 0).no (e8z n l t) (h2r n l t) q):=
 b8x (g:=fun q=>cst n l (mvd (l 0).no (e8z n l t) (h2r n l t) q)) hq
theorem a0x.less (h:a0x n l)(hs:prod (l 0).sz (l 0).ns<=1000): ∀t,t<=(l 0).no->cst n l (e8z n l t)<=(a7d l n).on.length
 |0,_=>by rw[<-h2p h];exact Nat.le_refl _
 |t+1,ht=>by
  have ih:=h.less hs t (by omega)
  obtain⟨h1,h2⟩:=h.pPos (t:=t) (by omega)
  have h3:=h.tMin (t:=t) h1
  have h4:=d3w h hs ((h.sOrd (t:=t) (by omega)).mvd h1 h1) fun j hj=>h2k _ h1 hj
  omega
theorem a0x.lastMin (h:a0x n l)(hs:prod (l 0).sz (l 0).ns<=1000){t:Nat}(ht:t<(l 0).no){q:Nat}(hq:q<(l 0).no):cst n l (e8z n l (t+1))<=cst n l (mvd (l 0).no (e8z n l (t+1)) (g1s n l t) q):=by
 have h0:=h.tLt ht
 obtain⟨h1,h2⟩:=h.pPos ht
 have h3:=h.tMin (t:=t) hq
 have h4:=d3w h hs (((h.sOrd (t:=t) (by omega)).mvd h1 h0).mvd h0 hq) fun j hj=>h2l (e8z n l t) h1 h0 hq hj
 rw[h2e] at*
 omega
theorem a0x.lastAt (h:a0x n l){t:Nat}(ht:t<(l 0).no):e8z n l (t+1) (g1s n l t)=(f8p n l t:Int):=by
 obtain⟨h1,h2⟩:=h.pPos ht
 rw[h2e,h2t _ h1 (h.tLt ht),h2]
end
section
variable {n:Nat} {e0:Nat->List DV}
theorem h2m {ns no m k:Nat}{e1 e2 e3 e4:Nat->List DV}{r:Nat->Int}(h54:a0j Tryz.prog false 54 [.d (.sl 5 n e0)] (.tuple [.agg [.d (.sl 1 ns e1),.d (.sl 1 no e2),.d (.sl 5 m e3),.d (.sl 1 k e4)],int 0]))
 (h56:a0g Tryz.prog 56 [.agg [.d (.sl 1 ns e1),.d (.sl 1 no e2),.d (.sl 5 m e3),.d (.sl 1 k e4)]] [] (fun pg v h'=>pg=[]/\v= .msl 0 1 none ns false/\h'=[arrI ns r])):
 a0g Tryz.prog 57 [.agg [.fn 56 [] []],.d (.sl 5 n e0)] [] (fun pg v h'=>pg=[]/\v= .tuple [.msl 0 1 none ns false,int 0]/\h'=[arrI ns r]):=by
 refine a0g.own0t (a1b Tryz.mixed okP g3w rfl fun E Sg hb hS F hF=> ?_)
 have hb0:E.base=0:=hb
 have e:=a5x hS
 cbv
 refine a0e hS _ h54 ?_
 cbv
 simp only[e.ieq,e.bnot,BEq.rfl,Bool.not_true]
 cbv
 refine a1a hS (a0g.frame h56 [] rfl rfl trivial) ?_
 rintro pg v H' ⟨pg0,v0,h0,⟨rfl,rfl,rfl⟩,rfl,rfl,rfl⟩
 cbv
 exact⟨[],by simp,hF (a2f.same _) (a1r.tuple (.cons (a0b.refl _) (.cons (a1m rfl) .nil))) (by simp) (.inr rfl) ⟨rfl,2,rfl,rfl⟩⟩
theorem widths20r {ns:Nat}{r:Nat->Int}(h57:a0g Tryz.prog 57 [.agg [.fn 56 [] []],.d (.sl 5 n e0)] [] (fun pg v h'=>pg=[]/\v= .tuple [.msl 0 1 none ns false,int 0]/\h'=[arrI ns r])):
 a0g Tryz.prog 20 [.d (.sl 5 n e0)] [] (fun pg v h'=>pg=[]/\v= .tuple [.msl 0 1 none ns false,int 0]/\h'=[arrI ns r]):=by
 refine a0g.own0t (a1b Tryz.mixed okP h2v rfl fun E Sg hb hS F hF=> ?_)
 have hb0:E.base=0:=hb
 cbv
 refine a1a hS h57 fun pg v h' hk=> ?_
 obtain⟨rfl,rfl,rfl⟩:=hk
 cbv
 exact⟨[],by simp,hF (a2f.same _) (a1r.tuple (.cons (a0b.refl _) (.cons (a0b.refl _) .nil))) (by simp) (.inr rfl) ⟨rfl,0,rfl,rfl⟩⟩
end
section
variable {n:Nat} {l:Nat->DiR}
theorem a0x.widths20r (h:a0x n l):a0g Tryz.prog 20 [dsl n l] [] (fun pg v h'=>pg=[]/\v= .tuple [.msl 0 1 none (l 0).ns false,int 0]/\h'=[arrI (l 0).ns (cnt (a7d l n).on)]):=by
 have h54:=h.open54
 obtain⟨o,h56⟩:=d4w (ns:=(l 0).ns) (no:=(l 0).no) (l 0).sz (l 0).od n (by have:=h.pos;omega) (by have:=(h.fit 0 h.pos.1).ns;omega) l h.good h.cells (fun i=>[.sl 2 ((prod (l i).sz (l i).ns).toNat) fun j=>((l i).cell j).row]) _ (fun j _=>rfl)
 have h56':=a0g.own0 (h56.mono fun pg v h' ⟨a,b,c⟩=>⟨a,1,b,by rw[c];rfl⟩)
 refine Run.widths20r (h2m ?_ h56')
 obtain⟨m,rfl⟩: ∃m,n=m+1:=⟨n-1,by have:=h.pos;omega⟩
 exact h54
theorem a0x.moveX (h:a0x n l)(hs:prod (l 0).sz (l 0).ns<=1000){od:Nat->Int}(ho:a1u (l 0).no (l 0).no od){p q:Nat}(hp:p<(l 0).no)(hq:q<(l 0).no)(v:Int)(hv:v=od p):
 a0j Tryz.prog false 37 [dsl n (Run.chg l (l 0).no od),int v,int q] (.tuple [dsl n (Run.chg l (l 0).no (mvd (l 0).no od p q)),int 0]):=
 a0j.resLike (a1r.tuple (.cons (h.chgLike2 (h.frO ho) (h.frO (ho.mvd hp hq))) (.cons (a0b.refl _) .nil))) ((h2s (h.chg hs (h.frO ho)) v q).2 p q hp hv rfl hq)
end
theorem h2h (n:Nat)(l:Nat->DiR)(hw: ∀i,i<n->(l i).wf):a0j Tryz.prog true 10 [dsl n l] (bool true):=by
 have haw:=d0x
 by_cases ht:d7d n l/\a6p n l 0
 rotate_left
 ·have h34:=d4k n l hw false (by simp only[ht,Bool.false_eq_true])
  refine a0s (a0d Tryz.mixed okP h2u _ rfl fun E Sg hb hS=> ?_)
  cbv
  refine a0e hS _ h34 ?_
  cbv
  refine a0e hS _ haw ?_
  cbv
  exact a0b.refl _
 have h34:=d4k n l hw true (by simp only[ht,and_self])
 have hn4:=ht.1.1
 have hF:=a0x.mk' (n:=n) (l:=l) (by omega) (fun i hi=>(ht.1.2 i hi).1.fit (hw i hi)) (fun i hi=>(hw i hi).2.2) ht.2
 have hp:=hF.pos.1
 have hs:prod (l 0).sz (l 0).ns<=1000:=by
  have:=(ht.1.2 0 hp).2 (c1q ht.2|>.2 0 hp).1
  omega
 have hnoe:=hF.ons
 have hno12:=hF.no 0 hp
 have hrk:=h0l hF
 have hsp:=fun t ht=>(h0f (n:=(l 0).no) (w:=cnt (a7d l n).on) (fun k _=>(d7l _ _).1) t ht).1
 have ho:=fun t ht=>hF.sOrd (t:=t) ht
 have hXk: ∀t,t<=(l 0).no->a0x n (chg l (l 0).no (e8z n l t)):=fun t ht=>hF.chg hs (hF.frO (ho t ht))
 have h20:=hF.widths20r
 have h18:=(hF.costs _ fun _ _=>rfl).1
 have h25:=hF.sift hs
 have h19:=e2w n (by omega) l hF.fit
 have h19s:=e2w n (by omega) _ (hXk _ (Nat.le_refl _)).fit
 have h18s:a0j Tryz.prog true 18 [dsl n (chg l (l 0).no (e8z n l (l 0).no))] (.tuple [int (cst n l (e8z n l (l 0).no)),int 0]):=((hXk _ (Nat.le_refl _)).costs _ fun _ _=>rfl).1
 have h27:=(hXk _ (Nat.le_refl _)).same
 have hless:=hF.less hs _ (Nat.le_refl _)
 have hmv: ∀t,t<(l 0).no->a0j Tryz.prog false 37 [dsl n (chg l (l 0).no (e8z n l t)),int (f8p n l t:Int),int (g1s n l t)] (.tuple [dsl n (chg l (l 0).no (e8z n l (t+1))),int 0]):=fun t ht=>
  hF.moveX hs (ho t (by omega)) (hF.pPos ht).1 (hF.tLt ht) _ (hF.pPos ht).2.symm
 have hlast: ∀t q,t+1=(l 0).no->q<(l 0).no-> ∃(D:Nat->DiR) (c:Nat),a0j Tryz.prog false 37 [dsl n (chg l (l 0).no (e8z n l (l 0).no)),int (f8p n l t:Int),int q] (.tuple [dsl n D,int 0])/\a0j Tryz.prog true 18 [dsl n D] (.tuple [int c,int 0])/\cst n l (e8z n l (l 0).no)<=c:=fun t q ht hq=>by
  have h0:=hF.tLt (t:=t) (by omega)
  have h1:=hF.lastMin hs (t:=t) (by omega) hq
  have h2:=hF.lastAt (t:=t) (by omega)
  rw[ht] at h1 h2
  refine⟨_,_,hF.moveX hs (ho _ (Nat.le_refl _)) h0 hq _ h2.symm,((hF.chg hs (hF.frO ((ho _ (Nat.le_refl _)).mvd h0 hq))).costs _ fun _ _=>rfl).1,h1⟩
 have hX0:a0b (dsl n l) (dsl n (chg l (l 0).no (e8z n l 0))):=hF.ownLike
 rw[<-hnoe] at h20
 obtain⟨no,hno⟩: ∃no,(l 0).no=no:=⟨_,rfl⟩
 rw[hno] at h20 h25 hsp hrk hmv hlast h18s h19s h27 hless hno12 hX0
 obtain⟨X,hX⟩: ∃X:Nat->Nat->DiR,∀t,chg l no (e8z n l t)=X t:=⟨fun t=>chg l no (e8z n l t),fun _=>rfl⟩
 obtain⟨T,hT⟩: ∃T:Nat->Nat,∀t,g1s n l t=T t:=⟨_,fun _=>rfl⟩
 obtain⟨R,hR⟩: ∃R:Nat->Nat,∀t,f8p n l t=R t:=⟨_,fun _=>rfl⟩
 obtain⟨c1,hc1⟩: ∃c1,(a7d l n).on.length=c1:=⟨_,rfl⟩
 obtain⟨c2,hc2⟩: ∃c2,cst n l (e8z n l no)=c2:=⟨_,rfl⟩
 simp only[hX,hT,hR,hc1,hc2] at h25 hrk hmv hlast h18 h18s h19s h27 hless hX0
 obtain⟨W,hW⟩: ∃W,cnt (a7d l n).on=W:=⟨_,rfl⟩
 rw[hW] at hsp hrk h20
 obtain⟨w,hw'⟩: ∃w,wS no W=w:=⟨_,rfl⟩
 obtain⟨B,hB⟩: ∃B:Nat->Nat->Int,∀t k,bst (w t) k=B t k:=⟨fun t k=>bst (w t) k,fun _ _=>rfl⟩
 have hw0:w 0=W:=by rw[<-hw'];rfl
 have hBn: ∀t,t<no->R t<no/\B t no=(R t:Int):=fun t ht=>by
  have:=hsp (t+1) (by omega) t (by omega)
  rw[hw',hB,hrk t ht] at this
  exact this
 have hw1: ∀t,t<no->w (t+1)=a0r (w t) (R t) (-1):=fun t ht=>by
  rw[<-hw',wS,hw',hB,(hBn t ht).2,Int.toNat_natCast]
 have hB0: ∀t,B t 0= -1:=fun t=>by rw[<-hB];rfl
 have hB1: ∀t k,B t (k+1)=if 0<=w t k/\(B t k<0\/w t (B t k).toNat<w t k) then (k:Int) else B t k:=fun t k=>by rw[<-hB,bst,hB]
 have hBb: ∀t k,k<=no-> ¬B t k<0->(0<=B t k/\B t k<no)/\(B t k).toNat<no:=fun t k hk h=>by
  have:=h0e (w t) k
  rw[hB] at this
  rcases this with h1|h1<;>omega
 obtain⟨V,hV0,hV1⟩: ∃V:Nat->Int,V 0= -1/\ ∀t,V (t+1)=R t:=⟨fun t=>if t=0 then-1 else R (t-1),rfl,fun t=>by simp⟩
 have hns:(l 0).ns=no:=by rw[<-hnoe];exact hno
 clear hsp hB hw' hX hT hR hc1 hc2 hW hrk
 refine a0s (a0d Tryz.mixed okP h2u _ rfl fun E Sg hb hS=> ?_)
 have e:=a5x hS
 have hn0:nat Sg (IX.l (Int.ofNat 0))=0:=rfl
 cbv
 refine a0e hS _ h34 ?_
 cbv
 simp only[hn0,hns,e.ofNat]
 refine a0a hS (a1d hS hp) ?_
 refine a0e hS _ h19 ?_
 cbv
 refine a0e hS _ h25 ?_
 cbv
 refine a0e hS _ h19 ?_
 cbv
 refine a0e hS _ h18 ?_
 cbv
 refine a0e hS _ h19s ?_
 cbv
 refine a0e hS _ h18s ?_
 cbv
 refine a0e hS _ h19 ?_
 cbv
 refine a1a hS h20 fun pg v h' hk=> ?_
 obtain⟨rfl,rfl,rfl⟩:=hk
 cbv
 simp only[e.ieq,e.bnot,BEq.rfl,Bool.not_true]
 cbv
 simp only[e.ieq,e.bnot,BEq.rfl,Bool.not_true]
 cbv
 simp only[e.ieq,e.bnot,BEq.rfl,Bool.not_true]
 cbv
 simp only[e.ieq,e.bnot,BEq.rfl,Bool.not_true]
 cbv
 have hd:Sg.ilt (Int.ofNat c1) (Int.ofNat c2)=false:=by rw[e.ilt];exact decide_eq_false (Int.not_lt.2 (Int.ofNat_le.2 hless))
 simp only[hd]
 cbv
 have hl:Sg.ieq (Sg.ofNat no) (Int.ofNat no)=true:=by rw[e.ofNat,e.ieq];exact beq_self_eq_true _
 simp only[hl,e.bnot,Bool.not_true]
 cbv
 simp only[hl,e.bnot,Bool.not_true]
 cbv
 refine a0e hS _ h19 ?_
 cbv
 refine a0y Tryz.mixed okP hS (fun t=>t<=no) (fun t=>no-t)
  (fun t=>⟨a2l [(0,dsl n l),(3,int no),(4,dsl n (X no)),(5,isl no fun t=>(T t:Int)),(9,int c2),(11,.msl 0 1 none no false),(13,dsl n (X t)),(14,int (V t)),(15,int t)] 177,[arrI no (w t)],[]⟩) 0 (by omega) ?_ ?_
 ·simp only[hV0,hw0]
  exact a0m rfl ⟨a0b.refl _,a0b.refl _,a0b.refl _,a0b.refl _,a0b.refl _,a0b.refl _,hX0,a1m rfl,a1m rfl,trivial⟩ (.cons (.refl _) (.nil _)) (by simp;omega) (.inr rfl) rfl
 ·intro t ht N hN
  cbv
  split
  ·rename_i h
   have htl:t<no:=Int.ofNat_lt.1 (b8j hS h)
   obtain⟨hR1,hR2⟩:=hBn t htl
   have hmt:=hmv t htl
   have hwt:=hw1 t htl
   have hvt:=hV1 t
   cbv
   refine a0y Tryz.mixed okP hS (fun k=>k<=no) (fun k=>no-k)
    (fun k=>⟨a2l [(0,dsl n l),(3,int no),(4,dsl n (X no)),(5,isl no fun t=>(T t:Int)),(9,int c2),(11,.msl 0 1 none no false),(13,dsl n (X t)),(14,int (V t)),(15,int t),(16,int (B t k)),(17,int k)] 177,[arrI no (w t)],[]⟩) 0 (by omega) ?_ ?_
   ·simp only[hB0]
    exact a0m rfl ⟨a0b.refl _,a0b.refl _,a0b.refl _,a0b.refl _,a0b.refl _,a0b.refl _,a0b.refl _,a0b.refl _,a0b.refl _,a1m rfl,a1m rfl,trivial⟩ (.cons (.refl _) (.nil _)) (by simp;omega) (.inr rfl) rfl
   ·intro k hk N2 hN2
    have hk1:=hB1 t k
    cbv
    split
    ·rename_i h
     have hkl:k<no:=Int.ofNat_lt.1 (b8j hS h)
     have hyes:0<=w t k/\(B t k<0\/w t (B t k).toNat<w t k)->B t (k+1)=(k:Int):=fun h=>by rw[hk1,if_pos h]
     have hnot: ¬(0<=w t k/\(B t k<0\/w t (B t k).toNat<w t k))->B t (k+1)=B t k:=fun h=>by rw[hk1,if_neg h]
     have hend: ∀z:Int,B t (k+1)=z-> ∀st',Le E.base st' ⟨a2l [(0,dsl n l),(3,int no),(4,dsl n (X no)),(5,isl no fun t=>(T t:Int)),(9,int c2),(11,.msl 0 1 none no false),(13,dsl n (X t)),(14,int (V t)),(15,int t),(16,int z),(17,int ((k+1:Nat):Int))] 177,[arrI no (w t)],[]⟩->N2 st':=fun z hz st' hl=>hN2 (k+1) _ hkl (by omega) (by rw[hz];exact hl)
     clear hN2
     cbv
     refine a0a hS (a1d hS hkl) ?_
     simp only[nat,e.toNat,Int.ofNat_eq_natCast,Int.toNat_natCast]
     refine a0a hS (c4n hS hkl) ?_
     split
     ·rename_i h1
      have h1:=f6u hS h1
      cbv
      split
      ·rename_i h2
       have hy:=hyes ⟨h1,.inl (b8j hS h2)⟩
       cbv
       refine a0a hS (a4t hS (by omega)) ?_
       exact hend _ hy _ (a0m rfl ⟨a0b.refl _,a0b.refl _,a0b.refl _,a0b.refl _,a0b.refl _,a0b.refl _,a0b.refl _,a0b.refl _,a0b.refl _,a0b.refl _,a5c hS,trivial⟩ (.cons (.refl _) (.nil _)) (by simp;omega) (.inr rfl) rfl)
      ·rename_i h2
       have h2: ¬B t k<0:=fun h=>Int.not_lt.2 (b7c hS h2) h
       obtain⟨b12,b3⟩:=hBb t k hk h2
       cbv
       refine a0a hS (a1d hS hkl) (a0a hS (e4w hS b12) ?_)
       simp only[nat,e.toNat,Int.ofNat_eq_natCast,Int.toNat_natCast]
       refine a0a hS (c4n hS hkl) (a0a hS (c4n hS b3) ?_)
       split
       ·rename_i h3
        have hy:=hyes ⟨h1,.inr (b8j hS h3)⟩
        cbv
        refine a0a hS (a4t hS (by omega)) ?_
        exact hend _ hy _ (a0m rfl ⟨a0b.refl _,a0b.refl _,a0b.refl _,a0b.refl _,a0b.refl _,a0b.refl _,a0b.refl _,a0b.refl _,a0b.refl _,a0b.refl _,a5c hS,trivial⟩ (.cons (.refl _) (.nil _)) (by simp;omega) (.inr rfl) rfl)
       ·rename_i h3
        have hn:=hnot fun h=>h.2.elim h2 fun h4=>Int.not_lt.2 (b7c hS h3) h4
        cbv
        refine a0a hS (a4t hS (by omega)) ?_
        exact hend _ hn _ (a0m rfl ⟨a0b.refl _,a0b.refl _,a0b.refl _,a0b.refl _,a0b.refl _,a0b.refl _,a0b.refl _,a0b.refl _,a0b.refl _,a0b.refl _,a5c hS,trivial⟩ (.cons (.refl _) (.nil _)) (by simp;omega) (.inr rfl) rfl)
     ·rename_i h1
      have hn:=hnot fun h=>Int.not_lt.2 h.1 (f5e hS h1)
      cbv
      refine a0a hS (a4t hS (by omega)) ?_
      exact hend _ hn _ (a0m rfl ⟨a0b.refl _,a0b.refl _,a0b.refl _,a0b.refl _,a0b.refl _,a0b.refl _,a0b.refl _,a0b.refl _,a0b.refl _,a0b.refl _,a5c hS,trivial⟩ (.cons (.refl _) (.nil _)) (by simp;omega) (.inr rfl) rfl)
    ·rename_i h
     have hkn:k=no:=by have:=Int.ofNat_le.1 (b7c hS h);omega
     subst hkn
     have hR0:Sg.ilt ((R t:Nat):Int) (Int.ofNat 0)=false:=by rw[e.ilt];exact decide_eq_false (Int.not_lt.2 (Int.natCast_nonneg _))
     cbv
     simp only[hR2,hR0]
     cbv
     refine a0a hS (a1d hS htl) ?_
     simp only[nat,e.toNat,Int.ofNat_eq_natCast,Int.toNat_natCast]
     refine a0e hS _ hmt ?_
     cbv
     simp only[e.ieq,e.bnot,BEq.rfl,Bool.not_true]
     cbv
     refine a0a hS (a1d hS hR1) ?_
     simp only[nat,e.toNat,Int.ofNat_eq_natCast,Int.toNat_natCast]
     refine a0a hS (c4n hS hR1) (a0a hS (a4t hS (by omega)) ?_)
     refine hN (t+1) _ htl (by omega) ?_
     simp only[hvt]
     refine a0m rfl ⟨a0b.refl _,a0b.refl _,a0b.refl _,a0b.refl _,a0b.refl _,a0b.refl _,a0b.refl _,a0b.refl _,a5c hS,trivial⟩ (.cons (b5v hS (fun j _ hne=> ?_) fun _=> ?_) (.nil _)) (by simp;omega) (.inr rfl) rfl
     ·rw[hwt]
      simp only[a0r,if_neg hne]
      exact .refl _
     ·rw[hwt]
      simp only[a0r,if_pos]
      exact .one (.int rfl)
  ·rename_i h
   have htn:t=no:=by have:=Int.ofNat_le.1 (b7c hS h);omega
   subst htn
   cbv
   refine a0y Tryz.mixed okP hS (fun p=>p<=t) (fun p=>t-p)
    (fun p=>⟨a2l [(0,dsl n l),(3,int t),(4,dsl n (X t)),(9,int c2),(13,dsl n (X t)),(14,int (V t)),(20,int p)] 177,[arrI t (w t)],[]⟩) 0 (by omega) ?_ ?_
   ·exact a0m rfl ⟨a0b.refl _,a0b.refl _,a0b.refl _,a0b.refl _,a0b.refl _,a0b.refl _,a1m rfl,trivial⟩ (.cons (.refl _) (.nil _)) (by simp;omega) (.inr rfl) rfl
   ·intro q hq N2 hN2
    cbv
    split
    ·rename_i h
     have hql:q<t:=Int.ofNat_lt.1 (b8j hS h)
     obtain⟨D,c,hm1,hm2,hm3⟩:=hlast (t-1) q (by omega) hql
     have hvt:=hV1 (t-1)
     rw[show t-1+1=t by omega] at hvt
     rw[<-hvt] at hm1
     have hd2:Sg.ilt (Int.ofNat c) (Int.ofNat c2)=false:=by rw[e.ilt];exact decide_eq_false (Int.not_lt.2 (Int.ofNat_le.2 hm3))
     cbv
     refine a0e hS _ h19s ?_
     cbv
     refine a0e hS _ hm1 ?_
     cbv
     refine a0e hS _ hm2 ?_
     cbv
     simp only[e.ieq,e.bnot,BEq.rfl,Bool.not_true]
     cbv
     simp only[e.ieq,e.bnot,BEq.rfl,Bool.not_true]
     cbv
     simp only[hd2]
     cbv
     refine a0a hS (a4t hS (by omega)) ?_
     exact hN2 (q+1) _ hql (by omega) (a0m rfl ⟨a0b.refl _,a0b.refl _,a0b.refl _,a0b.refl _,a0b.refl _,a0b.refl _,a5c hS,trivial⟩ (.cons (.refl _) (.nil _)) (by simp;omega) (.inr rfl) rfl)
    ·cbv
     refine a0e hS _ h27 ?_
     cbv
     refine a0e hS _ haw ?_
     cbv
     exact a0b.refl _
end Go.Proofs.Tryz.Run
