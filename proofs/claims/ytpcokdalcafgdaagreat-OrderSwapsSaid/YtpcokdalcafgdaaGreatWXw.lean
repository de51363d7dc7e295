/- The program's Swap and Move of a family. The program's Swap and Move of a family, walked. OrderChanges answers true: the walk. Conditions: none. -/
import Derived.Test.YtpcokdalcafgdaaGreatWLq
import Derived.Test.YtpcokdalcafgdaaGreatWNa
import Derived.Test.YtpcokdalcafgdaaGreatWNc
import Derived.Test.YtpcokdalcafgdaaGreatWLh
import Derived.Test.YtpcokdalcafgdaaGreatWNb
import Derived.Test.YtpcokdalcafgdaaGreatWOh
import Derived.Test.YtpcokdalcafgdaaGreatWPm0
import Derived.Test.YtpcokdalcafgdaaGreatWQd
import Derived.Test.YtpcokdalcafgdaaGreatWQf
import Derived.Test.YtpcokdalcafgdaaGreatWQh
import Derived.Test.YtpcokdalcafgdaaGreatWQi
import Derived.Test.YtpcokdalcafgdaaGreatWSd
import Derived.Test.YtpcokdalcafgdaaGreatWSn
import Derived.Test.YtpcokdalcafgdaaGreatWSq
import Derived.Test.YtpcokdalcafgdaaGreatWSy
import Derived.Test.YtpcokdalcafgdaaGreatWUf
import Derived.Test.YtpcokdalcafgdaaGreatWUi
import Derived.Test.YtpcokdalcafgdaaGreatWXf
import Derived.Test.YtpcokdalcafgdaaGreatWXk
import Derived.Test.YtpcokdalcafgdaaGreatWXn
import Derived.Test.YtpcokdalcafgdaaGreatWXt
set_option linter.unusedSimpArgs false
set_option linter.unusedVariables false
set_option maxHeartbeats 0
set_option maxRecDepth 100000
namespace Go.Proofs.Tryz.Run
open Go Go.Vf Go.Proofs
open Go.Proofs.YtpcokdalcafgdaaGreat
def mvd (n:Nat)(g:Nat->Int)(p q:Nat):Nat->Int:=inF q (g p) (e7p p n g)
def e5a (p q j:Nat):Nat:=if j<q then (if j<p then j else j+1) else if j=q then p else (if j-1<p then j-1 else j)
theorem e6s {n p q:Nat}(hp:p<n)(hq:q<n):(∀j,j<n->e5a p q j<n)/\ ∀i j,i<n->j<n->e5a p q i=e5a p q j->i=j:=by
 refine⟨fun j hj=> ?_,fun i j hi hj=> ?_⟩
 ·unfold e5a;(repeat' split)<;>omega
 ·unfold e5a;(repeat' split)<;>omega
theorem c4z {n p q:Nat}(hp:p<n)(hq:q<n)(g:Nat->Int){j:Nat}(hj:j<n):mvd n g p q j=g (e5a p q j):=by
 unfold mvd inF e7p e5a
 (repeat' split)<;>first|omega|rfl|(congr 1<;>omega)
theorem a1u.inj {n m:Nat}{g:Nat->Int}(h:a1u n m g): ∀i j,i<m->j<m->g i=g j->i=j:=fun i j hi hj e=>by
 rcases Nat.lt_trichotomy i j with hl|hl|hl
 ·exact absurd e ((h.2 j hj).2 i hl)
 ·exact hl
 ·exact absurd e.symm ((h.2 i hi).2 j hl)
theorem a1u.mvd {n p q:Nat}{g:Nat->Int}(h:a1u n n g)(hp:p<n)(hq:q<n):a1u n n (mvd n g p q):=by
 obtain⟨s1,s2⟩:=e6s hp hq
 refine⟨rfl,fun i hi=>⟨?_,fun k hk=> ?_⟩⟩
 ·rw[c4z hp hq g hi];exact (h.2 _ (s1 i hi)).1
 ·rw[c4z hp hq g hi,c4z hp hq g (by omega)]
  intro e
  have:=s2 _ _ (by omega) hi (h.inj _ _ (s1 _ (by omega)) (s1 _ hi) e)
  omega
theorem a1u.at {n:Nat}{g:Nat->Int}(h:a1u n n g){v:Int}(hv:0<=v/\v<=(n:Int)-1): ∃p,p<n/\g p=v:=by
 have h1:=b8u (n:=n) (od:=fun i=>(g i).toNat) fun i hi=>⟨by have:=(h.2 i hi).1;omega,fun k hk=>by
  have a:=(h.2 i hi).1
  have b:=(h.2 k (by omega)).1
  have c:=(h.2 i hi).2 k hk
  omega⟩
 have h2:v.toNat∈L n fun i=>i:=by simp[L];omega
 obtain⟨p,hp,e⟩: ∃p,p<n/\(g p).toNat=v.toNat:=by simpa [L] using h1.mem_iff.2 h2
 exact⟨p,hp,by have:=(h.2 p hp).1;omega⟩
section
variable {n:Nat} {l:Nat->DiR}
theorem a0x.ord (h:a0x n l):a1u (l 0).ns (l 0).no (l 0).od:=by
 have:=(h.di 0 h.pos.1).fr
 unfold a2e at this
 split at this
 ·omega
 split at this
 ·omega
 split at this
 ·omega
 split at this
 ·assumption
 ·omega
theorem a0x.frOf (h:a0x n l)(m:Nat)(g:Nat->Int):a2e (l 0).ns m (l 0).sz g=0↔a1u (l 0).ns m g:=by
 have:=(h.di 0 h.pos.1).fr
 unfold a2e at this⊢
 split at this
 ·omega
 split at this
 ·omega
 split at this
 ·omega
 rename_i a b c
 rw[if_neg a,if_neg b,if_neg c]
 split
 ·rename_i h;exact⟨fun _=>h,fun _=>rfl⟩
 ·rename_i h;exact⟨fun e=>by omega,fun e=>absurd e h⟩
end
section
variable {n ns no q k x:Nat} {sz o1 u:Nat->Int} {e0 e3 e4 e5:Nat->List DV} {d1 d2 d4:DV}
theorem h5b {a:Int}(hno:no<=1000000)(h54:a0j Tryz.prog false 54 [.d (.sl 5 n e0)] (.tuple [.agg [isl ns sz,isl no o1,.d (.sl 5 q e3),.d (.sl 1 k e4)],int 0]))(ha: ¬(0<=a/\a<=(no:Int)-2)):
 a0j Tryz.prog false 36 [.d (.sl 5 n e0),int a] (.tuple [.d .nil,int 3]):=by
 have h78:=h3u 0 ((no:Int)-2) a false (by simpa using ha)
 have hb9: -9223372036854775808<=(no:Int)-2/\(no:Int)-2<=9223372036854775807:=by omega
 refine a0d Tryz.mixed okP g9l _ rfl fun E Sg hb hS=> ?_
 have e:=a5x hS
 cbv
 refine a0e hS _ h54 ?_
 cbv
 split
 ·rename_i h;exact absurd rfl (f2x hS h)
 cbv
 refine a0a hS (by subst hS;exact a0h hb9.1 hb9.2) ?_
 refine a0e hS (bool false) (by subst hS;exact h78) ?_
 cbv
 exact a1r.tuple (.cons (a0b.refl _) (.cons (a1m rfl) .nil))
theorem h5e {p:Nat}{w:Int}(hw:w=(p:Int)+1)(hno:no<=1000000)(h54:a0j Tryz.prog false 54 [.d (.sl 5 n e0)] (.tuple [.agg [isl ns sz,isl no o1,.d (.sl 5 q e3),.d (.sl 1 k e4)],int 0]))(ha:p+2<=no)
 (h65:a0j Tryz.prog false 65 [.agg [isl ns sz,isl no o1],int (o1 p),int w] (isl no u))
 (h64:a0j Tryz.prog false 64 [.agg [isl ns sz,isl no o1,.d (.sl 5 q e3),.d (.sl 1 k e4)],isl no u] (.agg [.d d1,.d d2,.d (.sl 5 x e5),.d d4])):
 a0j Tryz.prog false 36 [.d (.sl 5 n e0),int p] (.tuple [.d (.sl 5 x e5),int 0]):=by
 have h78:=h3u 0 ((no:Int)-2) p true (by simp;omega)
 have hb9: -9223372036854775808<=(no:Int)-2/\(no:Int)-2<=9223372036854775807:=by omega
 refine a0d Tryz.mixed okP g9l _ rfl fun E Sg hb hS=> ?_
 have e:=a5x hS
 cbv
 refine a0e hS _ h54 ?_
 cbv
 split
 ·rename_i h;exact absurd rfl (f2x hS h)
 cbv
 refine a0a hS (by subst hS;exact a0h hb9.1 hb9.2) ?_
 refine a0e hS (bool true) (by subst hS;exact h78) ?_
 cbv
 refine a0a hS (a4t hS (by omega)) (a0a hS (a1d hS (by omega)) ?_)
 simp only[show Sg.iadd (Int.ofNat p) (Int.ofNat 1)=w from by rw[e.iadd];exact hw.symm]
 simp only[nat,e.toNat,Int.ofNat_eq_natCast,Int.toNat_natCast]
 refine a0e hS _ h65 ?_
 cbv
 refine a0a hS (a6d hS) ?_
 refine a0e hS _ h64 ?_
 cbv
 exact a1r.tuple (.cons (a0b.refl _) (.cons (a1m rfl) .nil))
end
section
variable {n:Nat} {l:Nat->DiR}
def mvF (l:Nat->DiR)(p q:Nat):Nat->DiR:=chg l (l 0).no (mvd (l 0).no (l 0).od p q)
theorem a0x.ons (h:a0x n l):(l 0).no=(l 0).ns:=h.ord.1
theorem a0x.frMv (h:a0x n l){p q:Nat}(hp:p<(l 0).no)(hq:q<(l 0).no):a2e (l 0).ns (l 0).no (l 0).sz (mvd (l 0).no (l 0).od p q)=0:=by
 rw[h.frOf]
 have:=h.ord
 rw[<-h.ons] at this⊢
 exact this.mvd hp hq
theorem a0x.uniq (h:a0x n l){p:Nat}(hp:p<(l 0).no): ∀j,j<(l 0).no->((l 0).od j=(l 0).od p↔j=p):=fun j hj=>
 ⟨h.ord.inj j p hj hp,fun e=>by rw[e]⟩
theorem a0x.moved65 (h:a0x n l){p q:Nat}(hp:p<(l 0).no)(hq:q<(l 0).no):a0j Tryz.prog false 65 [.agg [isl (l 0).ns (l 0).sz,isl (l 0).no (l 0).od],int ((l 0).od p),int q] (isl (l 0).no (mvd (l 0).no (l 0).od p q)):=
 Run.moved65 (by have:=h.no 0 h.pos.1;omega) (l 0).sz (l 0).od _ hp (h.uniq hp) hq _ fun j hj=>rfl
theorem h4w (h:a0x n l)(a:Int):(¬(0<=a/\a<=((l 0).no:Int)-2)->a0j Tryz.prog false 36 [dsl n l,int a] (.tuple [.d .nil,int 3]))/\
 (∀p:Nat,a=(p:Int)->p+2<=(l 0).no->a0j Tryz.prog false 36 [dsl n l,int a] (.tuple [dsl n (mvF l p (p+1)),int 0])):=by
 have h54:=h.open54
 have hno:=h.no 0 h.pos.1
 refine⟨fun ha=> ?_,fun p hp hpn=> ?_⟩
 ·obtain⟨w,rfl⟩: ∃w,n=w+1:=⟨n-1,by have:=h.pos;omega⟩
  exact h5b (by omega) h54 ha
 ·have h65:=h.moved65 (p:=p) (q:=p+1) (by omega) (by omega)
  have h64:=h.in64 (h.frMv (p:=p) (q:=p+1) (by omega) (by omega))
  obtain⟨w,rfl⟩: ∃w,n=w+1:=⟨n-1,by have:=h.pos;omega⟩
  rw[hp]
  exact h5e (Int.natCast_succ p) (by omega) h54 (by omega) h65 h64
end
theorem c4f {P:NdR->Prop}{g:Nat->Law.Mk->Law.Mk×Int}(hg: ∀k s,(∀b,b∈s.on->P b)-> ∀b,b∈(g k s).1.on->P b)(s:Law.Mk)(hs: ∀b,b∈s.on->P b): ∀k,∀b,b∈(a1t g k s).1.on->P b
 |0=>hs
 |k+1=>hg k _ (c4f hg s hs k)
theorem d2s {P:NdR->Prop}{C:Nat->VaR}{sz od str:Nat->Nat}: ∀(m r num:Nat) (s:Law.Mk),(∀i,r<=i->i<r+m-> ∀u,P ⟨(od i:Int),L (sz (od i)) u⟩)->(∀b,b∈s.on->P b)-> ∀b,b∈(ofW C sz od str m r num s).1.on->P b
 |0,r,num,s,_,hs=>hs
 |m+1,r,num,s,h,hs=>by
  have h1:=c4f (P:=P) (g:=fun k s=>ofW C sz od str m (r+1) (num+k*str (od r)) s) (fun k s hs=>d2s m (r+1) _ s (fun i h1 h2=>h i (by omega) (by omega)) hs) s hs (sz (od r))
  rw[ofW]
  unfold Law.mkNode
  split
  ·exact h1
  ·exact b4w h1 (h r (by omega) (by omega) _)
theorem OfR.full.kids {o:OfR}(h:o.full): ∀i,i<o.out.nn->o.out.nk i<=12:=by
 obtain⟨h1,h2,h3,h4,h5⟩:=a1k h.fr
 have ha:=d2s (P:=fun b=>b.kids.length<=12) (C:=o.C) (sz:=o.sN) (od:=o.oN) (str:=o.str) o.no 0 0 s0 (fun i _ hi u=>by
  rw[a0k]
  have:=(h.od i (by omega)).1
  have:=(h2 (o.oN i) (by omega)).2
  unfold OfR.sN;omega) (by simp[s0])
 intro i hi
 have hi:i<o.make.1.on.length:=hi
 show (o.make.1.on.getD i ⟨0,[]⟩).kids.length<=12
 refine ha _ ?_
 show o.make.1.on.getD i ⟨0,[]⟩∈o.make.1.on
 rw[List.getD,List.getElem?_eq_getElem hi]
 exact List.getElem_mem hi
section
variable {n:Nat} {l:Nat->DiR}
end
end Go.Proofs.Tryz.Run
