/- The program's Sift of a family; costs of families that are alike. Choosing the greatest again and again ranks; sifting never makes the cost greater. The widths as a list of its own; the reference's Rank. The reference's Sift of a family. OrderSifts answers true: the walk. Conditions: none. -/
import Derived.Test.YtpcokdalcafgdaaGreatZYj
import Derived.Test.YtpcokdalcafgdaaGreatZOi
import Derived.Test.YtpcokdalcafgdaaGreatZLr
import Derived.Test.YtpcokdalcafgdaaGreatZUk
set_option linter.unusedSimpArgs false
set_option linter.unusedVariables false
set_option maxHeartbeats 0
set_option maxRecDepth 100000
namespace Go.Proofs.Tryz.Run
open Go Go.Vf Go.Proofs
open Go.Proofs.YtpcokdalcafgdaaGreat
theorem b6x.surj {n:Nat}{u:Nat->Nat}(h:b6x n u){v:Nat}(hv:v<n): ∃p,p<n/\u p=v:=by
 have ho:a1u n n fun i=>(u i:Int):=⟨rfl,fun i hi=>⟨⟨Int.natCast_nonneg _,by have:=h.1 i hi;show (u i:Int)<=_;omega⟩,fun k hk e=>by
  have:=h.2 k i (by omega) hi (Int.ofNat.inj e)
  omega⟩⟩
 obtain⟨p,hp,e⟩:=ho.at (v:=(v:Int)) ⟨by omega,by omega⟩
 exact⟨p,hp,by omega⟩
theorem b5b.uniq {n:Nat}{W:Nat->Int}{u u':Nat->Nat}(h:b5b n W u)(h':b5b n W u'): ∀t,t<n->u t=u' t:=by
 intro t
 induction t using Nat.strongRecOn with
 |ind t ih=>
  intro ht
  obtain⟨s,hs,e⟩:=h'.perm.surj (h.perm.1 t ht)
  obtain⟨s',hs',e'⟩:=h.perm.surj (h'.perm.1 t ht)
  have h1:t<=s:=Nat.le_of_not_lt fun hc=>by
   have:=h.perm.2 s t hs ht (by rw[ih s hc hs,e])
   omega
  have h2:t<=s':=Nat.le_of_not_lt fun hc=>by
   have:=h'.perm.2 s' t hs' ht (by rw[<-ih s' hc hs',e'])
   omega
  rcases Nat.eq_or_lt_of_le h1 with q|q
  ·subst q;exact e.symm
  rcases Nat.eq_or_lt_of_le h2 with q2|q2
  ·subst q2;exact e'
  have a:=h'.ord t s q hs
  have b:=h.ord t s' q2 hs'
  rw[e] at a
  rw[e'] at b
  unfold lef at a b
  omega
noncomputable def rkU (n:Nat)(W:Nat->Int):Nat->Nat:=by
 classical exact if h: ∃u,b5b n W u then h.choose else fun _=>0
theorem f2c {n:Nat}{W:Nat->Int}{u:Nat->Nat}(h:b5b n W u): ∀t,t<n->u t=rkU n W t:=fun t ht=>by
 unfold rkU
 have hx: ∃u,b5b n W u:=⟨u,h⟩
 rw[dif_pos hx]
 exact h.uniq hx.choose_spec t ht
theorem e4l {n:Nat}{W:Nat->Int}: ∀t,t<n->rkU n W t<n:=fun t ht=>by
 unfold rkU
 split
 ·rename_i hx;exact hx.choose_spec.perm.1 t ht
 ·show 0<n;omega
section
variable {n:Nat} {l:Nat->DiR}
noncomputable def f8p (n:Nat)(l:Nat->DiR):Nat->Nat:=rkU (l 0).no (cnt (a7d l n).on)
noncomputable def e8z (n:Nat)(l:Nat->DiR)(t:Nat):Nat->Int:=a6q (cst n l) (l 0).no (f8p n l) (l 0).od t
noncomputable def g1s (n:Nat)(l:Nat->DiR)(t:Nat):Nat:=trl (cst n l) (l 0).no (f8p n l) (l 0).od t
theorem a0x.sOrd (h:a0x n l){t:Nat}(ht:t<=(l 0).no):a1u (l 0).no (l 0).no (e8z n l t):=b9r h.ordO (fun t ht=>e4l t ht) t ht
theorem a0x.sift (h:a0x n l)(hs:prod (l 0).sz (l 0).ns<=1000):
 a0j Tryz.prog false 25 [dsl n l] (.tuple [dsl n (Run.chg l (l 0).no (e8z n l (l 0).no)),isl (l 0).no (fun t=>(g1s n l t:Int)),int 0]):=by
 have h54:=h.openF
 have h56:=h.widOwn (cnt (a7d l n).on) fun j _=>rfl
 have h55:=fun od (ho:a1u (l 0).no (l 0).no od)=>h.costF hs ho
 have h64:=fun od od' (ho:a1u (l 0).no (l 0).no od) (ho':a1u (l 0).no (l 0).no od')=>h.inF hs ho ho'
 obtain⟨m,rfl⟩: ∃m,n=m+1:=⟨n-1,by have:=h.pos;omega⟩
 exact e7q (h.no 0 h.pos.1) h.ons.symm (cnt (a7d l (m+1)).on) (cst (m+1) l) (fun od ho=>f0h h hs ho) h.ordO (fun od i=>(Run.chg l (l 0).no od i).row) (ec:=fun i=>[.sl 2 (b3m l i) (c2g l i)])
  h54 h56 h55 h64 (fun od p q ho hp hq=>h.moveF ho hp hq) (f8p (m+1) l) (fun t ht=>e4l t ht) fun u hu t ht=>f2c hu t ht
end
theorem h0s {n:Nat}{e0:Nat->List DV}{v:AV}{r:Int}(hv: ∃a b c d:DV,v= .agg [.d a,.d b,.d c,.d d])(h54:a0j Tryz.prog false 54 [.d (.sl 5 n e0)] (.tuple [v,int r]))(hr:r≠0):
 a0j Tryz.prog false 25 [.d (.sl 5 n e0)] (.tuple [.d .nil,.d .nil,int r]):=by
 obtain⟨a,b,c,d,rfl⟩:=hv
 refine a0d Tryz.mixed okP g2a _ rfl fun E Sg hb hS=> ?_
 cbv
 refine a0e hS _ h54 ?_
 cbv
 split
 ·cbv
  exact a1r.tuple (.cons (a0b.refl _) (.cons (a0b.refl _) (.cons (a0b.refl _) .nil)))
 ·rename_i h
  exact absurd (g2s hS h) hr
def bst (w:Nat->Int):Nat->Int
 |0=> -1
 |k+1=>if 0<=w k/\(bst w k<0\/w (bst w k).toNat<w k) then k else bst w k
theorem h0e (w:Nat->Int): ∀n,(bst w n= -1/\ ∀k,k<n->w k<0)\/((0<=bst w n/\bst w n<n)/\0<=w (bst w n).toNat/\ ∀k,k<n->0<=w k->lef w (bst w n).toNat k)
 |0=> .inl ⟨rfl,fun k hk=>by omega⟩
 |n+1=>by
  have ih:=h0e w n
  rw[bst]
  split
  ·rename_i h
   refine .inr ⟨by omega,by rw[Int.toNat_natCast];exact h.1,fun k hk hw=> ?_⟩
   rw[Int.toNat_natCast]
   by_cases e:k=n
   ·subst e;exact .inr ⟨rfl,Nat.le_refl _⟩
   ·rcases ih with⟨h1,h2⟩|⟨h1,h2,h3⟩
    ·have:=h2 k (by omega);omega
    ·have h4:=h3 k (by omega) hw
     unfold lef at*
     omega
  ·rename_i h
   rcases ih with⟨h1,h2⟩|⟨h1,h2,h3⟩
   ·refine .inl ⟨h1,fun k hk=> ?_⟩
    by_cases e:k=n
    ·subst e;omega
    ·exact h2 k (by omega)
   ·refine .inr ⟨by omega,h2,fun k hk hw=> ?_⟩
    by_cases e:k=n
    ·subst e;unfold lef;omega
    ·exact h3 k (by omega) hw
def wS (n:Nat)(w:Nat->Int):Nat->Nat->Int
 |0=>w
 |t+1=>a0r (wS n w t) (bst (wS n w t) n).toNat (-1)
def sel (n:Nat)(w:Nat->Int)(t:Nat):Nat:=(bst (wS n w t) n).toNat
theorem f2m {n t:Nat}{u:Nat->Nat}(ht:t<n): ∃k,k<n/\ ∀j,j<t->u j≠k:=by
 apply Classical.byContradiction
 intro hc
 have h1: ∀k,∃j,k<n->j<t/\u j=k:=fun k=>by
  by_cases hk:k<n
  ·apply Classical.byContradiction
   intro h2
   exact hc ⟨k,hk,fun j hj e=>h2 ⟨j,fun _=>⟨hj,e⟩⟩⟩
  ·exact⟨0,fun h=>absurd h hk⟩
 obtain⟨f,hf⟩:=Classical.axiomOfChoice h1
 have hp:b6x n f:=⟨fun i hi=>by have:=(hf i hi).1;omega,fun i j hi hj e=>by
  rw[<-(hf i hi).2,<-(hf j hj).2,e]⟩
 obtain⟨p,hp1,hp2⟩:=hp.surj (v:=n-1) (by omega)
 have:=(hf p hp1).1
 omega
theorem h0f {n:Nat}{w:Nat->Int}(hw: ∀k,k<n->0<=w k): ∀t,t<=n->(∀j,j<t->sel n w j<n/\bst (wS n w j) n=(sel n w j:Int))/\(∀k,k<n->(∃j,j<t/\sel n w j=k)/\wS n w t k= -1\/(∀j,j<t->sel n w j≠k)/\wS n w t k=w k)
 |0,_=>⟨fun j hj=>by omega,fun k hk=> .inr ⟨fun j hj=>by omega,rfl⟩⟩
 |t+1,ht=>by
  obtain⟨h1,h2⟩:=h0f hw t (by omega)
  obtain⟨k0,hk0,hk1⟩:=f2m (u:=sel n w) (t:=t) (n:=n) (by omega)
  have hst:sel n w t<n/\bst (wS n w t) n=(sel n w t:Int):=by
   unfold sel
   rcases h0e (wS n w t) n with⟨_,a⟩|⟨a,_⟩
   ·exfalso
    have h3:=a k0 hk0
    rcases h2 k0 hk0 with⟨⟨j,hj,e⟩,_⟩|⟨_,e⟩
    ·exact hk1 j hj e
    ·have:=hw k0 hk0;omega
   ·omega
  refine⟨fun j hj=> ?_,fun k hk=> ?_⟩
  ·by_cases e:j=t
   ·subst e;exact hst
   ·exact h1 j (by omega)
  ·rw[wS]
   unfold a0r
   rw[show (bst (wS n w t) n).toNat=sel n w t from rfl]
   by_cases e:k=sel n w t
   ·rw[if_pos e];exact .inl ⟨⟨t,by omega,e.symm⟩,rfl⟩
   ·rw[if_neg e]
    rcases h2 k hk with⟨⟨j,hj,e2⟩,e3⟩|⟨h3,e3⟩
    ·exact .inl ⟨⟨j,by omega,e2⟩,e3⟩
    ·refine .inr ⟨fun j hj e4=> ?_,e3⟩
     by_cases e5:j=t
     ·subst e5;exact e e4.symm
     ·exact h3 j (by omega) e4
theorem h0g {n:Nat}{w:Nat->Int}(hw: ∀k,k<n->0<=w k){t:Nat}(ht:t<n):(∀j,j<t->sel n w j≠sel n w t)/\ ∀k,k<n->(∀j,j<t->sel n w j≠k)->lef w (sel n w t) k:=by
 obtain⟨h1,h2⟩:=h0f hw t (by omega)
 obtain⟨h3,h4⟩:=(h0f hw (t+1) (by omega)).1 t (by omega)
 have h5:=h0e (wS n w t) n
 rw[h4,Int.toNat_natCast] at h5
 rcases h5 with⟨a,_⟩|⟨_,a,b⟩
 ·omega
 have hs:(∀j,j<t->sel n w j≠sel n w t)/\wS n w t (sel n w t)=w (sel n w t):=by
  rcases h2 _ h3 with⟨_,e⟩|c
  ·omega
  ·exact c
 refine⟨hs.1,fun k hk hn=> ?_⟩
 have e:wS n w t k=w k:=by
  rcases h2 k hk with⟨⟨j,hj,e⟩,_⟩|c
  ·exact absurd e (hn j hj)
  ·exact c.2
 have:=b k hk (by have:=hw k hk;omega)
 unfold lef at*
 rw[hs.2,e] at this
 exact this
theorem h0j {n:Nat}{w:Nat->Int}(hw: ∀k,k<n->0<=w k):b5b n w (sel n w):=by
 have hl: ∀t,t<n->sel n w t<n:=fun t ht=>((h0f hw (t+1) (by omega)).1 t (by omega)).1
 refine⟨⟨hl,fun i j hi hj e=> ?_⟩,fun p q hpq hq=> ?_⟩
 ·rcases Nat.lt_trichotomy i j with h|h|h
  ·exact absurd e ((h0g hw hj).1 i h)
  ·exact h
  ·exact absurd e.symm ((h0g hw hi).1 j h)
 ·refine (h0g hw (t:=p) (by omega)).2 _ (hl q hq) fun j hj=> ?_
  exact (h0g hw hq).1 j (by omega)
section
variable {n:Nat} {l:Nat->DiR}
theorem h0l (h:a0x n l): ∀t,t<(l 0).no->sel (l 0).no (cnt (a7d l n).on) t=f8p n l t:=
 f2c (h0j fun k _=>(d7l _ _).1)
end
section
variable {n:Nat} {e0:Nat->List DV}
end
theorem h0w {n:Nat}{e0:Nat->List DV}{no:Nat}(hno:no<=12)(W:Nat->Int)(hW: ∀k,k<no->0<=W k)(h24:a0g Tryz.prog 24 [.d (.sl 5 n e0)] [] (fun pg v h'=>pg=[]/\v= .msl 0 1 none no false/\h'=[arrI no W])):
 a0j Tryz.prog false 66 [.d (.sl 5 n e0)] (isl no fun t=>(sel no W t:Int)):=by
 have hsp:=fun t ht=>(h0f hW t ht).1
 obtain⟨w,hw⟩: ∃w,wS no W=w:=⟨_,rfl⟩
 obtain⟨B,hB⟩: ∃B:Nat->Nat->Int,∀t k,bst (w t) k=B t k:=⟨fun t k=>bst (w t) k,fun _ _=>rfl⟩
 obtain⟨R,hR⟩: ∃R:Nat->Nat,∀t,sel no W t=R t:=⟨_,fun _=>rfl⟩
 have hw0:w 0=W:=by rw[<-hw];rfl
 have hBn: ∀t,t<no->R t<no/\B t no=(R t:Int):=fun t ht=>by
  have:=hsp (t+1) (by omega) t (by omega)
  rw[hw,hB,hR] at this
  exact this
 have hw1: ∀t,t<no->w (t+1)=a0r (w t) (R t) (-1):=fun t ht=>by
  rw[<-hw,wS,hw,hB,(hBn t ht).2,Int.toNat_natCast]
 have hB0: ∀t,B t 0= -1:=fun t=>by rw[<-hB];rfl
 have hB1: ∀t k,B t (k+1)=if 0<=w t k/\(B t k<0\/w t (B t k).toNat<w t k) then (k:Int) else B t k:=fun t k=>by rw[<-hB,bst,hB]
 have hBb: ∀t k,k<=no-> ¬B t k<0->(0<=B t k/\B t k<no)/\(B t k).toNat<no:=fun t k hk h=>by
  have:=h0e (w t) k
  rw[hB] at this
  rcases this with h1|h1<;>omega
 simp only[hR]
 clear hsp hB hw hR hW
 refine a0d Tryz.mixed okP h1e _ rfl fun E Sg hb hS=> ?_
 have e:=a5x hS
 cbv
 refine a1a hS h24 fun pg v h' hk=> ?_
 obtain⟨rfl,rfl,rfl⟩:=hk
 cbv
 refine b2v Tryz.mixed okP hS (fun t=>t<=no) (fun t=>no-t)
  (fun t=>⟨a2l [(3,.msl 1 1 none t false),(4,.msl 0 1 none no false),(5,int t)] 51,[arrI no (w t),arrI t fun j=>(R j:Int)],[1]⟩) 0 (by omega) ?_ ?_
 ·rw[hw0]
  exact (a6f.gt 3 1 (fun _=>[]) rfl).trans (a6f.le (a0m rfl ⟨a0b.refl _,a0b.refl _,a1m rfl,trivial⟩ (.cons (.refl _) (.cons (a0f.arrr rfl fun j hj=>by omega) (.nil _))) (by simp;omega) (.inr rfl) rfl))
 ·intro t ht N hN
  cbv
  split
  ·rename_i h
   have htl:t<no:=c3a hS h
   obtain⟨hR1,hR2⟩:=hBn t htl
   cbv
   refine a0y Tryz.mixed okP hS (fun k=>k<=no) (fun k=>no-k)
    (fun k=>⟨a2l [(3,.msl 1 1 none t false),(4,.msl 0 1 none no false),(5,int t),(6,int (B t k)),(7,int k)] 51,[arrI no (w t),arrI t fun j=>(R j:Int)],[1]⟩) 0 (by omega) ?_ ?_
   ·exact a0m rfl ⟨a0b.refl _,a0b.refl _,a0b.refl _,a1m (hB0 t).symm,a1m rfl,trivial⟩ (.cons (.refl _) (.cons (.refl _) (.nil _))) (by simp;omega) (.inr rfl) rfl
   ·intro k hk N2 hN2
    have hk1:=hB1 t k
    cbv
    split
    ·rename_i h
     have hkl:k<no:=c3a hS h
     have hyes:0<=w t k/\(B t k<0\/w t (B t k).toNat<w t k)->B t (k+1)=(k:Int):=fun h=>by rw[hk1,if_pos h]
     have hnot: ¬(0<=w t k/\(B t k<0\/w t (B t k).toNat<w t k))->B t (k+1)=B t k:=fun h=>by rw[hk1,if_neg h]
     cbv
     refine a0a hS (a1d hS hkl) ?_
     simp only[nat,e.toNat,Int.ofNat_eq_natCast,Int.toNat_natCast]
     refine a0a hS (c4n hS hkl) ?_
     split
     ·rename_i h1
      have h1:=f6u hS h1
      cbv
      split
      ·rename_i h2
       have hy:=hyes ⟨h1,.inl (b8j hS h2)⟩
       cbv
       refine a0a hS (a4t hS (by omega)) ?_
       exact hN2 (k+1) _ hkl (by omega) (a0m rfl ⟨a0b.refl _,a0b.refl _,a0b.refl _,a1f hy.symm,a5c hS,trivial⟩ (.cons (.refl _) (.cons (.refl _) (.nil _))) (by simp;omega) (.inr rfl) rfl)
      ·rename_i h2
       have h2: ¬B t k<0:=fun h=>Int.not_lt.2 (b7c hS h2) h
       obtain⟨b12,b3⟩:=hBb t k hk h2
       cbv
       refine a0a hS (a1d hS hkl) (a0a hS (e4w hS b12) ?_)
       simp only[nat,e.toNat,Int.ofNat_eq_natCast,Int.toNat_natCast]
       refine a0a hS (c4n hS hkl) (a0a hS (c4n hS b3) ?_)
       split
       ·rename_i h3
        have hy:=hyes ⟨h1,.inr (b8j hS h3)⟩
        cbv
        refine a0a hS (a4t hS (by omega)) ?_
        exact hN2 (k+1) _ hkl (by omega) (a0m rfl ⟨a0b.refl _,a0b.refl _,a0b.refl _,a1f hy.symm,a5c hS,trivial⟩ (.cons (.refl _) (.cons (.refl _) (.nil _))) (by simp;omega) (.inr rfl) rfl)
       ·rename_i h3
        have hn:=hnot fun h=>h.2.elim h2 fun h4=>Int.not_lt.2 (b7c hS h3) h4
        cbv
        refine a0a hS (a4t hS (by omega)) ?_
        exact hN2 (k+1) _ hkl (by omega) (a0m rfl ⟨a0b.refl _,a0b.refl _,a0b.refl _,a1f hn.symm,a5c hS,trivial⟩ (.cons (.refl _) (.cons (.refl _) (.nil _))) (by simp;omega) (.inr rfl) rfl)
     ·rename_i h1
      have hn:=hnot fun h=>Int.not_lt.2 h.1 (f5e hS h1)
      cbv
      refine a0a hS (a4t hS (by omega)) ?_
      exact hN2 (k+1) _ hkl (by omega) (a0m rfl ⟨a0b.refl _,a0b.refl _,a0b.refl _,a1f hn.symm,a5c hS,trivial⟩ (.cons (.refl _) (.cons (.refl _) (.nil _))) (by simp;omega) (.inr rfl) rfl)
    ·rename_i h
     have hkn:k=no:=by have:=d4h hS h;omega
     subst hkn
     cbv
     simp only[hR2,nat,e.toNat,Int.toNat_natCast]
     refine a0a hS trivial (a0a hS (b6u hS (by omega)) (a0a hS (a1d hS hR1) (a0a hS (c4n hS hR1) (a0a hS (a4t hS (by omega)) ?_))))
     refine hN (t+1) _ htl (by omega) (a6f.le (a0m rfl ⟨a6e hS,a0b.refl _,a5c hS,trivial⟩ (.cons (b5v hS (fun j _ hne=> ?_) fun _=> ?_) (.cons (a7j hS (fun j hj=> .refl _) (.refl _)) (.nil _))) (by simp;omega) (.inl ⟨rfl,rfl⟩) rfl))
     ·rw[hw1 t htl]
      simp only[a0r,if_neg hne]
      exact .refl _
     ·rw[hw1 t htl]
      simp only[a0r,if_pos]
      exact .one (.int rfl)
  ·rename_i h
   have htn:t=no:=by have:=d4h hS h;omega
   subst htn
   cbv
   refine a0a hS (b0h hS (Nat.le_refl _)) ?_
   exact a0b.refl _
theorem h0u {n no:Nat}(hn:0<n)(hno:no<=12)(c:(Nat->Int)->Nat)(hc: ∀od,a1u no no od->c od<=48000)(F:(Nat->Int)->Nat->DiR){o0:Nat->Int}(ho0:a1u no no o0)(hF: ∀od,(F od 0).no=no/\(F od 0).od=od)(r:Nat->Nat)(hrn: ∀t,t<no->r t<no)
 (h66:a0j Tryz.prog false 66 [dsl n (F o0)] (isl no fun t=>(r t:Int)))
 (h42: ∀od od',a1u no no od->a1u no no od'->a0j Tryz.prog false 42 [dsl n (F od),isl no od'] (dsl n (F od')))
 (h22: ∀od,a1u no no od->a0j Tryz.prog true 22 [dsl n (F od)] (int (c od)))
 (h44: ∀od p q,a1u no no od->p<no->q<no->a0j Tryz.prog false 44 [isl no od,int (od p),int q] (isl no (mvd no od p q))):
 a0j Tryz.prog false 26 [dsl n (F o0)] (.tuple [dsl n (F (a6q c no r o0 no)),isl no (fun t=>(trl c no r o0 t:Int))]):=by
 have hOk:=fun t ht=>b9r (c:=c) (r:=r) ho0 hrn t ht
 have hPk: ∀t,t<no->pos (a6q c no r o0 t) (r t:Int) no 0<no/\a6q c no r o0 t (pos (a6q c no r o0 t) (r t:Int) no 0)=(r t:Int):=fun t ht=>by
  have:=hrn t ht
  obtain⟨p,h1,h2,h3⟩:=e9a (hOk t (by omega)) (v:=(r t:Int)) ⟨by omega,by omega⟩
  rw[h3];exact⟨h1,h2⟩
 obtain⟨O,hO⟩: ∃O:Nat->Nat->Int,∀t,a6q c no r o0 t=O t:=⟨a6q c no r o0,fun _=>rfl⟩
 obtain⟨M,hM⟩: ∃M:Nat->Nat->Nat->Int,∀t q,mvd no (a6q c no r o0 t) (pos (a6q c no r o0 t) (r t:Int) no 0) q=M t q:=⟨fun t q=>mvd no (a6q c no r o0 t) (pos (a6q c no r o0 t) (r t:Int) no 0) q,fun _ _=>rfl⟩
 obtain⟨A,hA⟩: ∃A:Nat->Nat->Nat,∀t q,b0i (fun q=>c (M t q)) q=A t q:=⟨fun t q=>b0i (fun q=>c (M t q)) q,fun _ _=>rfl⟩
 have hO0:O 0=o0:=(hO 0).symm
 have hO1: ∀t,O (t+1)=M t (A t no):=fun t=>by
  rw[<-hO,a6q]
  simp only[hM,hA]
 have htr: ∀t,trl c no r o0 t=A t no:=fun t=>by
  unfold trl
  simp only[hM,hA]
 have hOk': ∀t,t<=no->a1u no no (O t):=fun t ht=>by rw[<-hO];exact hOk t ht
 have hMk: ∀t q,t<no->q<no->a1u no no (M t q):=fun t q ht hq=>by
  rw[<-hM]
  exact (hOk t (by omega)).mvd (hPk t ht).1 hq
 have h44': ∀t q,t<no->q<no->a0j Tryz.prog false 44 [isl no (O t),int (r t:Int),int q] (isl no (M t q)):=fun t q ht hq=>by
  have:=h44 _ _ q (hOk t (by omega)) (hPk t ht).1 hq
  rw[(hPk t ht).2,hM,hO] at this
  exact this
 obtain⟨B,hB⟩: ∃B:Nat->Nat->Nat->Int,∀t q,(if q=0 then O t else M t (A t q))=B t q:=⟨fun t q=>if q=0 then O t else M t (A t q),fun _ _=>rfl⟩
 obtain⟨Z,hZ⟩: ∃Z:Nat->Nat->Int,∀t q,(if q=0 then-1 else (A t q:Int))=Z t q:=⟨fun t q=>if q=0 then-1 else (A t q:Int),fun _ _=>rfl⟩
 have hBk: ∀t q,t<no->q<=no->a1u no no (B t q):=fun t q ht hq=>by
  rw[<-hB]
  split
  ·exact hOk' t (by omega)
  ·refine hMk t _ ht ?_
   rw[<-hA]
   have:=c4p (g:=fun q=>c (M t q)) (m:=q) (by omega)
   omega
 obtain⟨Fo,hFo⟩: ∃Fo:Nat->Nat->DiR,∀t,F (O t)=Fo t:=⟨fun t=>F (O t),fun _=>rfl⟩
 obtain⟨Fm,hFm⟩: ∃Fm:Nat->Nat->Nat->DiR,∀t q,F (M t q)=Fm t q:=⟨fun t q=>F (M t q),fun _ _=>rfl⟩
 obtain⟨Fb,hFb⟩: ∃Fb:Nat->Nat->Nat->DiR,∀t q,F (B t q)=Fb t q:=⟨fun t q=>F (B t q),fun _ _=>rfl⟩
 obtain⟨G,hG⟩: ∃G:Nat->Nat->Nat,∀t q,c (M t q)=G t q:=⟨fun t q=>c (M t q),fun _ _=>rfl⟩
 obtain⟨H,hH⟩: ∃H:Nat->Nat->Nat,∀t q,c (B t q)=H t q:=⟨fun t q=>c (B t q),fun _ _=>rfl⟩
 have h42': ∀t q,t<no->q<no->a0j Tryz.prog false 42 [dsl n (Fo t),isl no (M t q)] (dsl n (Fm t q)):=fun t q ht hq=>by
  have:=h42 _ _ (hOk' t (by omega)) (hMk t q ht hq)
  rw[hFo,hFm] at this
  exact this
 have h22m: ∀t q,t<no->q<no->a0j Tryz.prog true 22 [dsl n (Fm t q)] (int (G t q)):=fun t q ht hq=>by
  have:=h22 _ (hMk t q ht hq)
  rw[hFm,hG] at this
  exact this
 have h22b: ∀t q,t<no->q<=no->a0j Tryz.prog true 22 [dsl n (Fb t q)] (int (H t q)):=fun t q ht hq=>by
  have:=h22 _ (hBk t q ht hq)
  rw[hFb,hH] at this
  exact this
 have hA1: ∀t q,A t (q+1)=if q=0 then 0 else if G t q<G t (A t q) then q else A t q:=fun t q=>by
  rw[<-hA,b0i,hA]
  simp only[hG]
 have hB0: ∀t,Fb t 0=Fo t:=fun t=>by rw[<-hFb,<-hFo,<-hB,if_pos rfl]
 have hZ0: ∀t,Z t 0= -1:=fun t=>by rw[<-hZ,if_pos rfl]
 have hZp: ∀t q,q≠0->Z t q=A t q/\H t q=G t (A t q):=fun t q h=>by rw[<-hZ,<-hH,<-hB,if_neg h,if_neg h,hG];exact⟨rfl,rfl⟩
 have hyes: ∀t q,Z t q<0\/G t q<H t q->Fb t (q+1)=Fm t q/\Z t (q+1)=q:=fun t q h=>by
  have h2:A t (q+1)=q:=by
   rw[hA1]
   by_cases h0:q=0
   ·rw[if_pos h0,h0]
   ·obtain⟨a,b⟩:=hZp t q h0
    rw[if_neg h0,if_pos (by omega)]
  rw[<-hFb,<-hB,<-hZ,if_neg (by omega),if_neg (by omega),h2,hFm]
  exact⟨rfl,rfl⟩
 have hnot: ∀t q,¬(Z t q<0\/G t q<H t q)->Fb t (q+1)=Fb t q/\Z t (q+1)=Z t q:=fun t q h=>by
  have hq:q≠0:=fun e=>h (.inl (by rw[e,hZ0];omega))
  obtain⟨a,b⟩:=hZp t q hq
  have h2:A t (q+1)=A t q:=by rw[hA1,if_neg hq,if_neg (by omega)]
  refine⟨?_,?_⟩
  ·rw[<-hFb,<-hFb,<-hB,<-hB,if_neg (by omega),if_neg hq,h2]
  ·rw[<-hZ,<-hZ,if_neg (by omega),if_neg hq,h2]
 have hBn: ∀t,0<no->Fb t no=Fo (t+1)/\Z t no=A t no:=fun t h=>⟨by rw[<-hFb,<-hFo,<-hB,if_neg (by omega),hO1],(hZp t no (by omega)).1⟩
 have hGb: ∀t q,t<no->q<no->G t q<=48000:=fun t q ht hq=>by rw[<-hG];exact hc _ (hMk t q ht hq)
 have hf0: ∀t,(Fo t 0).no=no/\(Fo t 0).od=O t:=fun t=>by rw[<-hFo];exact hF _
 rw[hO no,hFo]
 simp only[htr]
 rw[<-hO0,hFo] at h66⊢
 clear hA hA1 hO hM hOk hPk hMk h42 h22 h44 htr hG hB hZ hc hO1 hZp hH hFb hFm hFo hBk hOk' hF
 refine a0d Tryz.mixed okP h1m _ rfl fun E Sg hb hS=> ?_
 have e:=a5x hS
 have hn0:nat Sg (IX.l (Int.ofNat 0))=0:=rfl
 cbv
 refine a0e hS _ h66 ?_
 cbv
 refine b2v Tryz.mixed okP hS (fun t=>t<=no) (fun t=>no-t)
  (fun t=>⟨a2l [(0,dsl n (Fo t)),(4,.msl 0 1 none t false),(5,isl no fun t=>(r t:Int)),(6,int t)] 56,[arrI t fun j=>(A j no:Int)],[0]⟩) 0 (by omega) ?_ ?_
 ·exact (a6f.gt 4 1 (fun _=>[]) rfl).trans (a6f.le (a0m rfl ⟨a0b.refl _,a0b.refl _,a0b.refl _,a1m rfl,trivial⟩ (.cons (a0f.arrr rfl fun j hj=>by omega) (.nil _)) (by simp;omega) (.inr rfl) rfl))
 ·intro t ht N hN
  cbv
  split
  ·rename_i h
   have htl:t<no:=c3a hS h
   obtain⟨f1,f2⟩:=hf0 t
   cbv
   refine a0y Tryz.mixed okP hS (fun q=>q<=no) (fun q=>no-q)
    (fun q=>⟨a2l [(0,dsl n (Fo t)),(4,.msl 0 1 none t false),(5,isl no fun t=>(r t:Int)),(6,int t),(7,dsl n (Fb t q)),(8,int (Z t q)),(9,int q)] 56,[arrI t fun j=>(A j no:Int)],[0]⟩) 0 (by omega) ?_ ?_
   ·exact a0m rfl ⟨a0b.refl _,a0b.refl _,a0b.refl _,a0b.refl _,by rw[hB0];exact a0b.refl _,a1m (hZ0 t).symm,a1m rfl,trivial⟩ (.cons (.refl _) (.nil _)) (by simp;omega) (.inr rfl) rfl
   ·intro q hq N2 hN2
    have hy:=hyes t q
    have hx:=hnot t q
    cbv
    split
    ·rename_i h
     have hql:q<no:=c3a hS h
     have q44:=h44' t q htl hql
     have q42:=h42' t q htl hql
     have q22:=h22m t q htl hql
     have q22b:=h22b t q htl hq
     have q44':a0j Tryz.prog false 44 [isl (Fo t 0).no (Fo t 0).od,int (r t:Int),int q] (isl no (M t q)):=by rw[f1,f2];exact q44
     cbv
     simp only[hn0,nat,e.toNat,Int.ofNat_eq_natCast,Int.toNat_natCast]
     refine a0a hS (a1d hS hn) (a0a hS (a1d hS htl) ?_)
     refine a0e hS _ q44' ?_
     cbv
     refine a0e hS _ q42 ?_
     cbv
     split
     ·rename_i h2
      obtain⟨y1,y2⟩:=hy (.inl (b8j hS h2))
      cbv
      refine a0a hS (a4t hS (by omega)) ?_
      refine hN2 (q+1) _ hql (by omega) ?_
      simp only[y1,y2]
      exact a0m rfl ⟨a0b.refl _,a0b.refl _,a0b.refl _,a0b.refl _,a0b.refl _,a0b.refl _,a5c hS,trivial⟩ (.cons (.refl _) (.nil _)) (by simp;omega) (.inr rfl) rfl
     ·rename_i h2
      cbv
      refine a0e hS _ q22 ?_
      cbv
      refine a0e hS _ q22b ?_
      cbv
      split
      ·rename_i h3
       obtain⟨y1,y2⟩:=hy (.inr (Int.ofNat_lt.1 (b8j hS h3)))
       cbv
       refine a0a hS (a4t hS (by omega)) ?_
       refine hN2 (q+1) _ hql (by omega) ?_
       simp only[y1,y2]
       exact a0m rfl ⟨a0b.refl _,a0b.refl _,a0b.refl _,a0b.refl _,a0b.refl _,a0b.refl _,a5c hS,trivial⟩ (.cons (.refl _) (.nil _)) (by simp;omega) (.inr rfl) rfl
      ·rename_i h3
       obtain⟨y1,y2⟩:=hx fun h=>h.elim (fun h4=>Int.not_lt.2 (b7c hS h2) h4) fun h4=>Int.not_lt.2 (b7c hS h3) (Int.ofNat_lt.2 h4)
       cbv
       refine a0a hS (a4t hS (by omega)) ?_
       refine hN2 (q+1) _ hql (by omega) ?_
       simp only[y1,y2]
       exact a0m rfl ⟨a0b.refl _,a0b.refl _,a0b.refl _,a0b.refl _,a0b.refl _,a0b.refl _,a5c hS,trivial⟩ (.cons (.refl _) (.nil _)) (by simp;omega) (.inr rfl) rfl
    ·rename_i h
     have hqn:q=no:=by have:=d4h hS h;omega
     subst hqn
     obtain⟨b1,b2⟩:=hBn t (by omega)
     cbv
     refine a0a hS trivial (a0a hS (b6u hS (by omega)) (a0a hS (a4t hS (by omega)) ?_))
     refine hN (t+1) _ htl (by omega) ?_
     simp only[b1,b2]
     exact a6f.le (a0m rfl ⟨a0b.refl _,a6e hS,a0b.refl _,a5c hS,trivial⟩ (.cons (a7j hS (fun j hj=> .refl _) (.refl _)) (.nil _)) (by simp;omega) (.inl ⟨rfl,rfl⟩) rfl)
  ·rename_i h
   have htn:t=no:=by have:=d4h hS h;omega
   subst htn
   cbv
   refine a0a hS (b0h hS (Nat.le_refl _)) ?_
   exact a1r.tuple (.cons (a0b.refl _) (.cons (a0b.refl _) .nil))
section
variable {n:Nat} {l:Nat->DiR}
theorem a0x.widths24r (h:a0x n l):a0g Tryz.prog 24 [dsl n l] [] (fun pg v h'=>pg=[]/\v= .msl 0 1 none (l 0).ns false/\h'=[arrI (l 0).ns (cnt (a7d l n).on)]):=by
 obtain⟨Q,cv,cn,ck,hQ⟩:=h0r (a7d l n).on
 have h59:=h.nodes hQ
 have hl:Q=(a7d l n).on.length:=by rw[<-hQ,ndL,a0k]
 have hlen:=h.len
 exact Run.widths24r h.pos.1 (fun i=>(l i).ns) (fun i=>(l i).sz) (fun i=>(l i).no) (fun i=>(l i).od) (fun i=>(l i).ne) (fun i j=>((l i).en j).fault) (fun i j=>((l i).en j).n) (fun i=>(l i).nn) (fun i=>(l i).var) (fun i=>(l i).nk) (fun i=>(l i).kid) (fun i=>(l i).root)
  h59 (h.fit 0 h.pos.1).ns (by omega) (fun j hj=>by
   have:=h.vars ⟨cv j,L (cn j) (ck j)⟩ (by rw[<-hQ];exact a5t.2 ⟨j,hj,rfl⟩)
   exact this) _ (fun j hj=>by rw[hQ])
theorem a0x.rank (h:a0x n l):a0j Tryz.prog false 66 [dsl n l] (isl (l 0).no fun t=>(f8p n l t:Int)):=by
 have h1:=h0w (n:=n) (no:=(l 0).ns) (by have:=h.no 0 h.pos.1;rw[h.ons] at this;exact this) _ (fun k _=>(d7l _ _).1) h.widths24r
 rw[<-h.ons] at h1
 exact a0j.resLike (a0b.isl rfl fun j hj=>by rw[h0l h j hj]) h1
theorem a0x.sift26 (h:a0x n l)(hs:prod (l 0).sz (l 0).ns<=1000):
 a0j Tryz.prog false 26 [dsl n l] (.tuple [dsl n (Run.chg l (l 0).no (e8z n l (l 0).no)),isl (l 0).no (fun t=>(g1s n l t:Int))]):=by
 refine a0j.like (.cons h.ownLike .nil) ?_
 exact h0u h.pos.1 (h.no 0 h.pos.1) (cst n l) (fun od ho=>f0h h hs ho) (fun od=>Run.chg l (l 0).no od) h.ordO (fun od=>⟨rfl,rfl⟩) (f8p n l) (fun t ht=>e4l t ht) (a0j.like (.cons h.likeOwn .nil) h.rank)
  (fun od od' ho ho'=>a0j.resLike (h.chgLike2 (h.frO ho) (h.frO ho')) (h0q (h.chg hs (h.frO ho)) (h.frO ho'))) (fun od ho=>((h.chg hs (h.frO ho)).refs _ fun _ _=>rfl).1)
  fun od p q ho hp hq=>Run.moved44 (by have:=h.no 0 h.pos.1;omega) od _ hp (fun j hj=>⟨fun e=>ho.inj j p hj hp e,fun e=>by rw[e]⟩) hq _ fun j hj=>rfl
end
theorem h0i (n:Nat)(l:Nat->DiR)(hw: ∀i,i<n->(l i).wf):a0j Tryz.prog true 4 [dsl n l] (bool true):=by
 have haw:=d0x
 by_cases ht:d7d n l
 rotate_left
 ·have h16:=e4r n l hw false (by simp[ht])
  refine a0s (a0d Tryz.mixed okP ok4 _ rfl fun E Sg hb hS=> ?_)
  cbv
  refine a0e hS _ h16 ?_
  cbv
  refine a0e hS _ haw ?_
  cbv
  exact a0b.refl _
 have h16:=e4r n l hw true (by simp[ht])
 have hfit: ∀i,i<n->(l i).fit:=fun i hi=>(ht.2 i hi).1.fit (hw i hi)
 have hflt: ∀i,i<n-> ∀j,j<(l i).ne->0<=((l i).en j).fault:=fun i hi=>(hw i hi).2.2
 have hno12: ∀i,i<n->(l i).no<=12:=fun i hi=>by have:=(ht.2 i hi).1.1.2.1;omega
 have hn4:=ht.1
 have h19:=e2w n (by omega) l hfit
 obtain⟨r,hr⟩:=d6o n l
 have h21:=d2k n (by omega) l hfit r hr
 by_cases h0:r=0
 ·subst h0
  have hF:=a0x.mk' (by omega) hfit hflt hr
  have hp:=hF.pos.1
  have hs:prod (l 0).sz (l 0).ns<=1000:=by
   have:=(ht.2 0 hp).2 (c1q hr|>.2 0 hp).1
   omega
  have h25:=hF.sift hs
  have h26:=hF.sift26 hs
  have h27:=(hF.chg hs (hF.frO (hF.sOrd (t:=(l 0).no) (Nat.le_refl _)))).same
  obtain⟨A,hAe⟩: ∃A,chg l (l 0).no (e8z n l (l 0).no)=A:=⟨_,rfl⟩
  obtain⟨tr,htr⟩: ∃tr:Nat->Int,(fun t=>(g1s n l t:Int))=tr:=⟨_,rfl⟩
  rw[hAe] at h25 h26 h27
  rw[htr] at h25 h26
  have h23:=c4k (l 0).no (l 0).no tr tr (hfit 0 hp).no true (by simp)
  obtain⟨no,hno⟩: ∃no,(l 0).no=no:=⟨_,rfl⟩
  rw[hno] at h25 h26 h23
  clear hAe htr hF hs
  refine a0s (a0d Tryz.mixed okP ok4 _ rfl fun E Sg hb hS=> ?_)
  have e:=a5x hS
  cbv
  refine a0e hS _ h16 ?_
  cbv
  refine a0e hS _ h19 ?_
  cbv
  refine a0e hS _ h25 ?_
  cbv
  refine a0e hS _ h21 ?_
  cbv
  simp only[e.ieq,e.bnot,BEq.rfl,Bool.not_true]
  cbv
  refine a0e hS _ h26 ?_
  cbv
  simp only[e.ieq,e.bnot,BEq.rfl,Bool.not_true]
  cbv
  refine a0e hS _ h27 ?_
  cbv
  refine a0e hS _ h23 ?_
  cbv
  refine a0e hS _ haw ?_
  cbv
  exact a0b.refl _
 ·obtain⟨v,hv,_,h54⟩:=c8i (by omega) hfit hflt hno12 r hr
  have h25:=h0s hv h54 h0
  refine a0s (a0d Tryz.mixed okP ok4 _ rfl fun E Sg hb hS=> ?_)
  have e:=a5x hS
  cbv
  refine a0e hS _ h16 ?_
  cbv
  refine a0e hS _ h19 ?_
  cbv
  refine a0e hS _ h25 ?_
  cbv
  refine a0e hS _ h21 ?_
  cbv
  split
  rotate_left
  ·rename_i h;exact absurd (g2s hS h) h0
  cbv
  simp only[e.ieq,e.bnot,BEq.rfl,Bool.not_true]
  cbv
  refine a0a hS (a9w hS (by omega)) ?_
  refine a0e hS _ haw ?_
  cbv
  exact a0b.refl _
end Go.Proofs.Tryz.Run
