/- The program's Sift. Conditions: none. -/
import Derived.Test.YtpcokdalcafgdaaGreatSLq
import Derived.Test.YtpcokdalcafgdaaGreatSNa
import Derived.Test.YtpcokdalcafgdaaGreatSNc
import Derived.Test.YtpcokdalcafgdaaGreatSLh
import Derived.Test.YtpcokdalcafgdaaGreatSNb
import Derived.Test.YtpcokdalcafgdaaGreatSOh
import Derived.Test.YtpcokdalcafgdaaGreatSPm0
import Derived.Test.YtpcokdalcafgdaaGreatSQd
import Derived.Test.YtpcokdalcafgdaaGreatSQf
import Derived.Test.YtpcokdalcafgdaaGreatSSd
import Derived.Test.YtpcokdalcafgdaaGreatSUf
import Derived.Test.YtpcokdalcafgdaaGreatSUi
import Derived.Test.YtpcokdalcafgdaaGreatSXf
import Derived.Test.YtpcokdalcafgdaaGreatSXk
import Derived.Test.YtpcokdalcafgdaaGreatSXn
import Derived.Test.YtpcokdalcafgdaaGreatSXt
import Derived.Test.YtpcokdalcafgdaaGreatSXy
import Derived.Test.YtpcokdalcafgdaaGreatSYb
import Derived.Test.YtpcokdalcafgdaaGreatSYf
import Derived.Test.YtpcokdalcafgdaaGreatSYi
set_option linter.unusedSimpArgs false
set_option linter.unusedVariables false
set_option maxHeartbeats 0
set_option maxRecDepth 100000
namespace Go.Proofs.Tryz.Run
open Go Go.Vf Go.Proofs
open Go.Proofs.YtpcokdalcafgdaaGreat
def b0i (g:Nat->Nat):Nat->Nat
 |0=>0
 |m+1=>if m=0 then 0 else if g m<g (b0i g m) then m else b0i g m
def a6q (c:(Nat->Int)->Nat)(no:Nat)(r:Nat->Nat)(od:Nat->Int):Nat->(Nat->Int)
 |0=>od
 |t+1=>mvd no (a6q c no r od t) (pos (a6q c no r od t) (r t:Int) no 0) (b0i (fun q=>c (mvd no (a6q c no r od t) (pos (a6q c no r od t) (r t:Int) no 0) q)) no)
def trl (c:(Nat->Int)->Nat)(no:Nat)(r:Nat->Nat)(od:Nat->Int)(t:Nat):Nat:=
 b0i (fun q=>c (mvd no (a6q c no r od t) (pos (a6q c no r od t) (r t:Int) no 0) q)) no
theorem c4p {g:Nat->Nat}: ∀{m:Nat},0<m->b0i g m<m
 |0,h=>by omega
 |m+1,_=>by
  rw[b0i]
  split
  ·omega
  ·split
   ·omega
   ·have:=c4p (g:=g) (m:=m) (by omega);omega
theorem b9r {c:(Nat->Int)->Nat}{no:Nat}{r:Nat->Nat}{od:Nat->Int}(ho:a1u no no od)(hr: ∀t,t<no->r t<no): ∀t,t<=no->a1u no no (a6q c no r od t)
 |0,_=>ho
 |t+1,ht=>by
  have ih:=b9r (c:=c) ho hr t (by omega)
  have:=hr t (by omega)
  obtain⟨p,h1,h2,h3⟩:=e9a ih (v:=(r t:Int)) ⟨by omega,by omega⟩
  rw[a6q,h3]
  exact ih.mvd h1 (c4p (by omega))
section
variable {n:Nat} {l:Nat->DiR}
theorem a0x.widOwn (h:a0x n l)(r:Nat->Int)(hr: ∀j,j<(l 0).ns->r j=cnt (a7d l n).on j):a0j Tryz.prog false 56 [e8y n l (l 0).od] (isl (l 0).ns r):=
 a0j.like (.cons (a1r.agg (.cons (a0b.refl _) (.cons (a0b.refl _) (.cons h.likeOwn (.cons (a0b.refl _) .nil))))) .nil) (h.wid56 (b3m l) (c2g l) r hr)
end
structure b5b (n:Nat)(W:Nat->Int)(u:Nat->Nat):Prop where
 perm:b6x n u
 ord: ∀p q,p<q->q<n->lef W (u p) (u q)
theorem e7q {ns no:Nat}(hns:no<=12)(hsn:ns=no)(W:Nat->Int)(c:(Nat->Int)->Nat)(hc: ∀od,a1u no no od->c od<=48000){nd:Nat}{e0:Nat->List DV}{sz o0:Nat->Int}(ho0:a1u no no o0)(D:(Nat->Int)->Nat->List DV){nc:Nat}{ec:Nat->List DV}
 (h54:a0j Tryz.prog false 54 [.d (.sl 5 nd e0)] (.tuple [.agg [isl ns sz,isl no o0,.d (.sl 5 nd (D o0)),.d (.sl 1 nc ec)],int 0]))
 (h56:a0j Tryz.prog false 56 [.agg [isl ns sz,isl no o0,.d (.sl 5 nd (D o0)),.d (.sl 1 nc ec)]] (isl ns W))
 (h55: ∀od,a1u no no od->a0j Tryz.prog true 55 [.agg [isl ns sz,isl no od,.d (.sl 5 nd (D od)),.d (.sl 1 nc ec)]] (int (c od)))
 (h64: ∀od od',a1u no no od->a1u no no od'->a0j Tryz.prog false 64 [.agg [isl ns sz,isl no od,.d (.sl 5 nd (D od)),.d (.sl 1 nc ec)],isl no od'] (.agg [isl ns sz,isl no od',.d (.sl 5 nd (D od')),.d (.sl 1 nc ec)]))
 (h65: ∀od p q,a1u no no od->p<no->q<no->a0j Tryz.prog false 65 [.agg [isl ns sz,isl no od],int (od p),int q] (isl no (mvd no od p q)))
 (r:Nat->Nat) (hrn: ∀t,t<no->r t<no) (hr: ∀u,b5b no W u-> ∀t,t<no->u t=r t):
 a0j Tryz.prog false 25 [.d (.sl 5 nd e0)] (.tuple [.d (.sl 5 nd (D (a6q c no r o0 no))),isl no (fun t=>(trl c no r o0 t:Int)),int 0]):=by
 subst hsn
 have hrl: ∀t,t<ns->r t<ns:=hrn
 have hOk:=fun t ht=>b9r (c:=c) (r:=r) ho0 hrl t ht
 have hPk: ∀t,t<ns->pos (a6q c ns r o0 t) (r t:Int) ns 0<ns/\a6q c ns r o0 t (pos (a6q c ns r o0 t) (r t:Int) ns 0)=(r t:Int):=fun t ht=>by
  have:=hrl t ht
  obtain⟨p,h1,h2,h3⟩:=e9a (hOk t (by omega)) (v:=(r t:Int)) ⟨by omega,by omega⟩
  rw[h3];exact⟨h1,h2⟩
 obtain⟨O,hO⟩: ∃O:Nat->Nat->Int,∀t,a6q c ns r o0 t=O t:=⟨a6q c ns r o0,fun _=>rfl⟩
 obtain⟨M,hM⟩: ∃M:Nat->Nat->Nat->Int,∀t q,mvd ns (a6q c ns r o0 t) (pos (a6q c ns r o0 t) (r t:Int) ns 0) q=M t q:=⟨fun t q=>mvd ns (a6q c ns r o0 t) (pos (a6q c ns r o0 t) (r t:Int) ns 0) q,fun _ _=>rfl⟩
 obtain⟨A,hA⟩: ∃A:Nat->Nat->Nat,∀t q,b0i (fun q=>c (M t q)) q=A t q:=⟨fun t q=>b0i (fun q=>c (M t q)) q,fun _ _=>rfl⟩
 have hO0:O 0=o0:=(hO 0).symm
 have hO1: ∀t,O (t+1)=M t (A t ns):=fun t=>by
  rw[<-hO,a6q]
  simp only[hM,hA]
 have htr: ∀t,trl c ns r o0 t=A t ns:=fun t=>by
  unfold trl
  simp only[hM,hA]
 have hMk: ∀t q,t<ns->q<ns->a1u ns ns (M t q):=fun t q ht hq=>by
  rw[<-hM]
  exact (hOk t (by omega)).mvd (hPk t ht).1 hq
 have h65': ∀t q,t<ns->q<ns->a0j Tryz.prog false 65 [.agg [isl ns sz,isl ns (O t)],int (r t:Int),int q] (isl ns (M t q)):=fun t q ht hq=>by
  have:=h65 _ _ q (hOk t (by omega)) (hPk t ht).1 hq
  rw[(hPk t ht).2,hM,hO] at this
  exact this
 have h64': ∀t q,t<ns->q<ns->a0j Tryz.prog false 64 [.agg [isl ns sz,isl ns (O t),.d (.sl 5 nd (D (O t))),.d (.sl 1 nc ec)],isl ns (M t q)] (.agg [isl ns sz,isl ns (M t q),.d (.sl 5 nd (D (M t q))),.d (.sl 1 nc ec)]):=fun t q ht hq=>
  h64 _ _ (by rw[<-hO];exact hOk t (by omega)) (hMk t q ht hq)
 have h55':=fun t q ht hq=>h55 (M t q) (hMk t q ht hq)
 have h64e:=h64 (O ns) (O ns) (by rw[<-hO];exact hOk ns (Nat.le_refl _)) (by rw[<-hO];exact hOk ns (Nat.le_refl _))
 obtain⟨G,hG⟩: ∃G:Nat->Nat->Nat,∀t q,c (M t q)=G t q:=⟨fun t q=>c (M t q),fun _ _=>rfl⟩
 obtain⟨B,hB⟩: ∃B:Nat->Nat->Nat->Int,∀t q,(if q=0 then O t else M t (A t q))=B t q:=⟨fun t q=>if q=0 then O t else M t (A t q),fun _ _=>rfl⟩
 obtain⟨Z,hZ⟩: ∃Z:Nat->Nat->Int,∀t q,(if q=0 then-1 else (G t (A t q):Int))=Z t q:=⟨fun t q=>if q=0 then-1 else (G t (A t q):Int),fun _ _=>rfl⟩
 have hA1: ∀t q,A t (q+1)=if q=0 then 0 else if G t q<G t (A t q) then q else A t q:=fun t q=>by
  rw[<-hA,b0i,hA]
  simp only[hG]
 have hB0: ∀t,B t 0=O t:=fun t=>by rw[<-hB,if_pos rfl]
 have hZ0: ∀t,Z t 0= -1:=fun t=>by rw[<-hZ,if_pos rfl]
 have hA0: ∀t,A t 0=0:=fun t=>by rw[<-hA];rfl
 have hyes: ∀t q,Z t q<0\/(G t q:Int)<Z t q->B t (q+1)=M t q/\Z t (q+1)=G t q/\A t (q+1)=q:=fun t q h=>by
  have h2:A t (q+1)=q:=by
   rw[hA1]
   rw[<-hZ] at h
   (repeat' split)<;>(repeat' split at h)<;>omega
  rw[<-hB,<-hZ,if_neg (by omega),if_neg (by omega),h2]
  exact⟨rfl,rfl,rfl⟩
 have hnot: ∀t q,¬(Z t q<0\/(G t q:Int)<Z t q)->B t (q+1)=B t q/\Z t (q+1)=Z t q/\A t (q+1)=A t q:=fun t q h=>by
  have hq:q≠0:=fun e=>h (.inl (by rw[e,hZ0];omega))
  have h2:A t (q+1)=A t q:=by
   rw[hA1,if_neg hq,if_neg]
   rw[<-hZ,if_neg hq] at h
   omega
  have b1:=hB t (q+1)
  have b2:=hB t q
  have z1:=hZ t (q+1)
  have z2:=hZ t q
  rw[if_neg (by omega),h2] at b1 z1
  rw[if_neg hq] at b2 z2
  exact⟨b1.symm.trans b2,z1.symm.trans z2,h2⟩
 have hBn: ∀t,0<ns->B t ns=O (t+1):=fun t h=>by rw[<-hB,if_neg (by omega),hO1]
 have hGb: ∀t q,t<ns->q<ns->G t q<=48000:=fun t q ht hq=>by rw[<-hG];exact hc _ (hMk t q ht hq)
 simp only[hG] at h55'
 rw[hO ns]
 simp only[htr]
 rw[<-hO0] at h54 h56
 clear hA hA1 hO hM hOk hPk hMk h65 h64 h55 htr hG hB hZ hc hO1 hO0 ho0
 refine a0d Tryz.mixed okP g2a _ rfl fun E Sg hb hS=> ?_
 have e:=a5x hS
 cbv
 refine a0e hS _ h54 ?_
 cbv
 simp only[e.ieq,e.bnot,BEq.rfl,Bool.not_true]
 cbv
 refine a0e hS _ h56 ?_
 cbv
 refine b2v Tryz.mixed okP hS (fun i=>i<=ns) (fun i=>ns-i)
  (fun i=>⟨a2l [(3,.d .nil),(5,.ptr 0 0),(6,.msl 1 2 none i false),(26,isl ns W),(27,int ns),(28,int i)] 90,
    [.var [isl ns sz,isl ns (O 0),.d (.sl 5 nd (D (O 0))),.d (.sl 1 nc ec)],d2e i W fun i=>i],[1]⟩) 0 (by omega) ?_ ?_
 ·exact (a6f.gt 6 2 (fun _=>[]) rfl).trans (a6f.le (a0m rfl ⟨a0b.refl _,a0b.refl _,a0b.refl _,a0b.refl _,a1f (e.ofNat _),a1m rfl,trivial⟩
   (.cons (.refl _) (.cons (a0f.arrr rfl fun j hj=>by omega) (.nil _))) (by simp;omega) (.inr rfl) rfl))
 ·intro i hi N hN
  cbv
  split
  ·rename_i h
   have hlt:i<ns:=Int.ofNat_lt.1 (b8j hS h)
   cbv
   simp only[nat,e.toNat,Int.ofNat_eq_natCast,Int.toNat_natCast]
   refine a0a hS (a1d hS hlt) (a0a hS trivial (a0a hS (b6u hS (by omega)) (a0a hS (a4t hS (by omega)) ?_)))
   exact hN (i+1) _ hlt (by omega) (a6f.le (a0m rfl ⟨a0b.refl _,a0b.refl _,a6e hS,a0b.refl _,a0b.refl _,a5c hS,trivial⟩
    (.cons (.refl _) (.cons (a7j hS (fun j hj=> .refl _) (.refl _)) (.nil _))) (by simp;omega) (.inl ⟨rfl,rfl⟩) rfl))
  ·rename_i h
   have hin:i=ns:=by have:=Int.ofNat_le.1 (b7c hS h);omega
   subst hin
   cbv
   refine a1a hS (a0g.frame (f3p hns W) [1] rfl rfl ⟨a0f.refl _,trivial⟩) ?_
   rintro pg v H' ⟨pg0,v0,h0,⟨rfl,u,h1,h2,rfl⟩,rfl,rfl,rfl⟩
   have hu:=hr u ⟨h1,h2⟩
   have hul: ∀t,t<i->u t<i:=h1.1
   clear h1 h2
   cbv
   refine b2v Tryz.mixed okP hS (fun t=>t<=i) (fun t=>i-t)
    (fun t=>⟨a2l [(3,.msl 2 1 none t false),(5,.ptr 0 0),(42,.msl 1 2 none i false),(43,int i),(44,int t)] 90,
      [.var [isl i sz,isl i (O t),.d (.sl 5 nd (D (O t))),.d (.sl 1 nc ec)],d2e i W u,arrI t fun j=>(A j i:Int)],[1,2]⟩) 0 (by omega) ?_ ?_
   ·exact (a6f.gt 3 1 (fun _=>[]) rfl).trans (a6f.le (a0m rfl ⟨a0b.refl _,a0b.refl _,a0b.refl _,a1f (e.ofNat _),a1m rfl,trivial⟩
     (.cons (.refl _) (.cons (.refl _) (.cons (a0f.arrr rfl fun j hj=>by omega) (.nil _)))) (by simp;omega) (.inr rfl) rfl))
   ·intro t ht N2 hN2
    cbv
    split
    ·rename_i h
     have htl:t<i:=Int.ofNat_lt.1 (b8j hS h)
     have hut:=hu t htl
     cbv
     simp only[nat,e.toNat,Int.ofNat_eq_natCast,Int.toNat_natCast,hut]
     refine a0a hS (a1d hS htl) (a0a hS (c4n hS htl) ?_)
     refine a0y Tryz.mixed okP hS (fun q=>q<=i) (fun q=>i-q)
      (fun q=>⟨a2l [(3,.msl 2 1 none t false),(5,.ptr 0 0),(10,.ptr 3 0),(11,.ptr 4 0),(12,int (Z t q)),(13,int (A t q)),(42,.msl 1 2 none i false),(43,int i),(44,int t),(52,int i),(53,int q)] 90,
        [.var [isl i sz,isl i (O t),.d (.sl 5 nd (D (O t))),.d (.sl 1 nc ec)],d2e i W u,arrI t fun j=>(A j i:Int),.var [int (r t),.any],.var [isl i sz,isl i (B t q),.d (.sl 5 nd (D (B t q))),.d (.sl 1 nc ec)]],[1,2]⟩) 0 (by omega) ?_ ?_
     ·simp only[hB0,hZ0,hA0]
      exact a0m rfl ⟨a0b.refl _,a0b.refl _,a0b.refl _,a0b.refl _,a1m rfl,a1m rfl,a0b.refl _,a0b.refl _,a0b.refl _,a1f (e.ofNat _),a1m rfl,trivial⟩
       (.cons (.refl _) (.cons (.refl _) (.cons (.refl _) (.cons (.var (.cons (a0b.refl _) (.cons (.any _) .nil))) (.cons (.refl _) (.nil _)))))) (by simp;omega) (.inr rfl) rfl
     ·intro q hq N3 hN3
      cbv
      split
      ·rename_i h
       have hql:q<i:=Int.ofNat_lt.1 (b8j hS h)
       have hy:=hyes t q
       have hn:=hnot t q
       cbv
       refine a0e hS _ (h65' t q htl hql) ?_
       cbv
       refine a0e hS _ (h64' t q htl hql) ?_
       cbv
       refine a0e hS _ (h55' t q htl hql) ?_
       cbv
       split
       ·rename_i h
        obtain⟨y1,y2,y3⟩:=hy (.inl (b8j hS h))
        cbv
        refine a0a hS (a4t hS (by omega)) ?_
        refine hN3 (q+1) _ hql (by omega) ?_
        simp only[y1,y2,y3]
        exact a0m rfl ⟨a0b.refl _,a0b.refl _,a0b.refl _,a0b.refl _,a0b.refl _,a0b.refl _,a0b.refl _,a0b.refl _,a0b.refl _,a0b.refl _,a5c hS,trivial⟩ (.cons (.refl _) (.cons (.refl _) (.cons (.refl _) (.cons (.refl _) (.cons (.refl _) (.nil _)))))) (by simp;omega) (.inl ⟨rfl,rfl⟩) rfl
       ·rename_i h
        cbv
        split
        ·rename_i h2
         obtain⟨y1,y2,y3⟩:=hy (.inr (b8j hS h2))
         cbv
         refine a0a hS (a4t hS (by omega)) ?_
         refine hN3 (q+1) _ hql (by omega) ?_
         simp only[y1,y2,y3]
         exact a0m rfl ⟨a0b.refl _,a0b.refl _,a0b.refl _,a0b.refl _,a0b.refl _,a0b.refl _,a0b.refl _,a0b.refl _,a0b.refl _,a0b.refl _,a5c hS,trivial⟩ (.cons (.refl _) (.cons (.refl _) (.cons (.refl _) (.cons (.refl _) (.cons (.refl _) (.nil _)))))) (by simp;omega) (.inl ⟨rfl,rfl⟩) rfl
        ·rename_i h2
         obtain⟨y1,y2,y3⟩:=hn (fun h3=>by
          rcases h3 with h3|h3
          ·exact Int.not_lt.2 (b7c hS h) h3
          ·exact Int.not_lt.2 (b7c hS h2) h3)
         cbv
         refine a0a hS (a4t hS (by omega)) ?_
         refine hN3 (q+1) _ hql (by omega) ?_
         simp only[y1,y2,y3]
         exact a0m rfl ⟨a0b.refl _,a0b.refl _,a0b.refl _,a0b.refl _,a0b.refl _,a0b.refl _,a0b.refl _,a0b.refl _,a0b.refl _,a0b.refl _,a5c hS,trivial⟩ (.cons (.refl _) (.cons (.refl _) (.cons (.refl _) (.cons (.refl _) (.cons (.refl _) (.nil _)))))) (by simp;omega) (.inl ⟨rfl,rfl⟩) rfl
      ·rename_i h
       have hqi:q=i:=by have:=Int.ofNat_le.1 (b7c hS h);omega
       subst hqi
       have hbn:=hBn t (by omega)
       cbv
       refine a0a hS (a6d hS) (a0a hS trivial (a0a hS (b6u hS (by omega)) (a0a hS (a6d hS) (a0a hS (a4t hS (by omega)) ?_))))
       rw[hbn]
       exact hN2 (t+1) _ htl (by omega) (a6f.le (a0m rfl ⟨a6e hS,a0b.refl _,a0b.refl _,a0b.refl _,a5c hS,trivial⟩
        (.cons (.refl _) (.cons (.refl _) (.cons (a7j hS (fun j hj=> .refl _) (.refl _)) (.nil _)))) (by simp;omega) (.inl ⟨rfl,rfl⟩) rfl))
    ·rename_i h
     have hti:t=i:=by have:=Int.ofNat_le.1 (b7c hS h);omega
     subst hti
     cbv
     refine a0e hS _ h64e ?_
     cbv
     refine a0a hS (b0h hS (Nat.le_refl _)) ?_
     exact a1r.tuple (.cons (a0b.refl _) (.cons (a0b.refl _) (.cons (a1m rfl) .nil)))
end Go.Proofs.Tryz.Run
