/- The program's Swap and Move of a family. The program's Swap and Move of a family, walked. OrderChanges answers true: the walk. OrderChanges answers true: the walk. Conditions: none. -/
import Derived.Test.YtpcokdalcafgdaaGreatSLq
import Derived.Test.YtpcokdalcafgdaaGreatSNa
import Derived.Test.YtpcokdalcafgdaaGreatSNc
import Derived.Test.YtpcokdalcafgdaaGreatSLh
import Derived.Test.YtpcokdalcafgdaaGreatSNb
import Derived.Test.YtpcokdalcafgdaaGreatSOh
import Derived.Test.YtpcokdalcafgdaaGreatSPm0
import Derived.Test.YtpcokdalcafgdaaGreatSQd
import Derived.Test.YtpcokdalcafgdaaGreatSQf
import Derived.Test.YtpcokdalcafgdaaGreatSQh
import Derived.Test.YtpcokdalcafgdaaGreatSSd
import Derived.Test.YtpcokdalcafgdaaGreatSSn
import Derived.Test.YtpcokdalcafgdaaGreatSSq
import Derived.Test.YtpcokdalcafgdaaGreatSUi
import Derived.Test.YtpcokdalcafgdaaGreatSXf
import Derived.Test.YtpcokdalcafgdaaGreatSXk
import Derived.Test.YtpcokdalcafgdaaGreatSXn
import Derived.Test.YtpcokdalcafgdaaGreatSXt
set_option linter.unusedSimpArgs false
set_option linter.unusedVariables false
namespace Go.Proofs.Tryz.Run
open Go Go.Vf Go.Proofs
open Go.Proofs.YtpcokdalcafgdaaGreat
def mvd (n:Nat)(g:Nat->Int)(p q:Nat):Nat->Int:=inF q (g p) (e7p p n g)
def e5a (p q j:Nat):Nat:=if j<q then (if j<p then j else j+1) else if j=q then p else (if j-1<p then j-1 else j)
theorem e6s {n p q:Nat}(hp:p<n)(hq:q<n):(∀j,j<n->e5a p q j<n)/\ ∀i j,i<n->j<n->e5a p q i=e5a p q j->i=j:=by
 refine⟨fun j hj=> ?_,fun i j hi hj=> ?_⟩
 ·unfold e5a;(repeat' split)<;>omega
 ·unfold e5a;(repeat' split)<;>omega
theorem c4z {n p q:Nat}(hp:p<n)(hq:q<n)(g:Nat->Int){j:Nat}(hj:j<n):mvd n g p q j=g (e5a p q j):=by
 unfold mvd inF e7p e5a
 (repeat' split)<;>first|omega|rfl|(congr 1<;>omega)
theorem a1u.inj {n m:Nat}{g:Nat->Int}(h:a1u n m g): ∀i j,i<m->j<m->g i=g j->i=j:=fun i j hi hj e=>by
 rcases Nat.lt_trichotomy i j with hl|hl|hl
 ·exact absurd e ((h.2 j hj).2 i hl)
 ·exact hl
 ·exact absurd e.symm ((h.2 i hi).2 j hl)
theorem a1u.mvd {n p q:Nat}{g:Nat->Int}(h:a1u n n g)(hp:p<n)(hq:q<n):a1u n n (mvd n g p q):=by
 obtain⟨s1,s2⟩:=e6s hp hq
 refine⟨rfl,fun i hi=>⟨?_,fun k hk=> ?_⟩⟩
 ·rw[c4z hp hq g hi];exact (h.2 _ (s1 i hi)).1
 ·rw[c4z hp hq g hi,c4z hp hq g (by omega)]
  intro e
  have:=s2 _ _ (by omega) hi (h.inj _ _ (s1 _ (by omega)) (s1 _ hi) e)
  omega
theorem a1u.at {n:Nat}{g:Nat->Int}(h:a1u n n g){v:Int}(hv:0<=v/\v<=(n:Int)-1): ∃p,p<n/\g p=v:=by
 have h1:=b8u (n:=n) (od:=fun i=>(g i).toNat) fun i hi=>⟨by have:=(h.2 i hi).1;omega,fun k hk=>by
  have a:=(h.2 i hi).1
  have b:=(h.2 k (by omega)).1
  have c:=(h.2 i hi).2 k hk
  omega⟩
 have h2:v.toNat∈L n fun i=>i:=by simp[L];omega
 obtain⟨p,hp,e⟩: ∃p,p<n/\(g p).toNat=v.toNat:=by simpa [L] using h1.mem_iff.2 h2
 exact⟨p,hp,by have:=(h.2 p hp).1;omega⟩
section
variable {n:Nat} {l:Nat->DiR}
theorem a0x.ord (h:a0x n l):a1u (l 0).ns (l 0).no (l 0).od:=by
 have:=(h.di 0 h.pos.1).fr
 unfold a2e at this
 split at this
 ·omega
 split at this
 ·omega
 split at this
 ·omega
 split at this
 ·assumption
 ·omega
theorem a0x.frOf (h:a0x n l)(m:Nat)(g:Nat->Int):a2e (l 0).ns m (l 0).sz g=0↔a1u (l 0).ns m g:=by
 have:=(h.di 0 h.pos.1).fr
 unfold a2e at this⊢
 split at this
 ·omega
 split at this
 ·omega
 split at this
 ·omega
 rename_i a b c
 rw[if_neg a,if_neg b,if_neg c]
 split
 ·rename_i h;exact⟨fun _=>h,fun _=>rfl⟩
 ·rename_i h;exact⟨fun e=>by omega,fun e=>absurd e h⟩
end
section
variable {n ns no q k x:Nat} {sz o1 u:Nat->Int} {e0 e3 e4 e5:Nat->List DV} {d1 d2 d4:DV}
end
section
variable {n:Nat} {l:Nat->DiR}
theorem a0x.ons (h:a0x n l):(l 0).no=(l 0).ns:=h.ord.1
end
theorem c4f {P:NdR->Prop}{g:Nat->Law.Mk->Law.Mk×Int}(hg: ∀k s,(∀b,b∈s.on->P b)-> ∀b,b∈(g k s).1.on->P b)(s:Law.Mk)(hs: ∀b,b∈s.on->P b): ∀k,∀b,b∈(a1t g k s).1.on->P b
 |0=>hs
 |k+1=>hg k _ (c4f hg s hs k)
theorem d2s {P:NdR->Prop}{C:Nat->VaR}{sz od str:Nat->Nat}: ∀(m r num:Nat) (s:Law.Mk),(∀i,r<=i->i<r+m-> ∀u,P ⟨(od i:Int),L (sz (od i)) u⟩)->(∀b,b∈s.on->P b)-> ∀b,b∈(ofW C sz od str m r num s).1.on->P b
 |0,r,num,s,_,hs=>hs
 |m+1,r,num,s,h,hs=>by
  have h1:=c4f (P:=P) (g:=fun k s=>ofW C sz od str m (r+1) (num+k*str (od r)) s) (fun k s hs=>d2s m (r+1) _ s (fun i h1 h2=>h i (by omega) (by omega)) hs) s hs (sz (od r))
  rw[ofW]
  unfold Law.mkNode
  split
  ·exact h1
  ·exact b4w h1 (h r (by omega) (by omega) _)
theorem OfR.full.kids {o:OfR}(h:o.full): ∀i,i<o.out.nn->o.out.nk i<=12:=by
 obtain⟨h1,h2,h3,h4,h5⟩:=a1k h.fr
 have ha:=d2s (P:=fun b=>b.kids.length<=12) (C:=o.C) (sz:=o.sN) (od:=o.oN) (str:=o.str) o.no 0 0 s0 (fun i _ hi u=>by
  rw[a0k]
  have:=(h.od i (by omega)).1
  have:=(h2 (o.oN i) (by omega)).2
  unfold OfR.sN;omega) (by simp[s0])
 intro i hi
 have hi:i<o.make.1.on.length:=hi
 show (o.make.1.on.getD i ⟨0,[]⟩).kids.length<=12
 refine ha _ ?_
 show o.make.1.on.getD i ⟨0,[]⟩∈o.make.1.on
 rw[List.getD,List.getElem?_eq_getElem hi]
 exact List.getElem_mem hi
section
variable {n:Nat} {l:Nat->DiR}
end
theorem e2m {n:Nat}(hn:n<=1000000)(g:Nat->Int)(res:AV)(hres:res=isl n g):a0j Tryz.prog false 41 [isl n g] res:=by
 refine a0d Tryz.mixed okP g5d _ rfl fun E Sg hb hS=> ?_
 cases n with
 |zero=>
  cbv
  subst hres
  exact a0b.nil0
 |succ n=>
  cbv
  repeat' ((first|(with_reducible apply a0a hS))<;>cbv)
  all_goals try (subst hS;simp[std,nat,IX.val,big] at* <;>omega)
  subst hres
  exact a0b.refl _
theorem e5i {n:Nat}(hn:n<=1000000)(g:Nat->Int):a0j Tryz.prog false 41 [isl n g] (isl n g):=e2m hn g _ rfl
section
variable {n:Nat} {e0:Nat->List DV} {v:AV} {r:Int}
end
end Go.Proofs.Tryz.Run
