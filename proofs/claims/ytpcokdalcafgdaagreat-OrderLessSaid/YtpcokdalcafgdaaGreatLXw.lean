/- The program's Swap and Move of a family. The program's Swap and Move of a family, walked. OrderChanges answers true: the walk. Conditions: none. -/
import Derived.Test.YtpcokdalcafgdaaGreatLLr
import Derived.Test.YtpcokdalcafgdaaGreatLNa
import Derived.Test.YtpcokdalcafgdaaGreatLNc
import Derived.Test.YtpcokdalcafgdaaGreatLLh
import Derived.Test.YtpcokdalcafgdaaGreatLNb
import Derived.Test.YtpcokdalcafgdaaGreatLOi
import Derived.Test.YtpcokdalcafgdaaGreatLPm0
import Derived.Test.YtpcokdalcafgdaaGreatLQd
import Derived.Test.YtpcokdalcafgdaaGreatLQf
import Derived.Test.YtpcokdalcafgdaaGreatLQh
import Derived.Test.YtpcokdalcafgdaaGreatLQi
import Derived.Test.YtpcokdalcafgdaaGreatLSd
import Derived.Test.YtpcokdalcafgdaaGreatLSn
import Derived.Test.YtpcokdalcafgdaaGreatLSq
import Derived.Test.YtpcokdalcafgdaaGreatLSy
import Derived.Test.YtpcokdalcafgdaaGreatLUf
import Derived.Test.YtpcokdalcafgdaaGreatLUi
import Derived.Test.YtpcokdalcafgdaaGreatLXf
import Derived.Test.YtpcokdalcafgdaaGreatLXk
import Derived.Test.YtpcokdalcafgdaaGreatLXn
import Derived.Test.YtpcokdalcafgdaaGreatLXt
set_option linter.unusedSimpArgs false
set_option linter.unusedVariables false
set_option maxHeartbeats 0
set_option maxRecDepth 100000
namespace Go.Proofs.Tryz.Run
open Go Go.Vf Go.Proofs
open Go.Proofs.YtpcokdalcafgdaaGreat
def mvd (n:Nat)(g:Nat->Int)(p q:Nat):Nat->Int:=inF q (g p) (e7p p n g)
def e5a (p q j:Nat):Nat:=if j<q then (if j<p then j else j+1) else if j=q then p else (if j-1<p then j-1 else j)
theorem e6s {n p q:Nat}(hp:p<n)(hq:q<n):(∀j,j<n->e5a p q j<n)/\ ∀i j,i<n->j<n->e5a p q i=e5a p q j->i=j:=by
 refine⟨fun j hj=> ?_,fun i j hi hj=> ?_⟩
 ·unfold e5a;(repeat' split)<;>omega
 ·unfold e5a;(repeat' split)<;>omega
theorem c4z {n p q:Nat}(hp:p<n)(hq:q<n)(g:Nat->Int){j:Nat}(hj:j<n):mvd n g p q j=g (e5a p q j):=by
 unfold mvd inF e7p e5a
 (repeat' split)<;>first|omega|rfl|(congr 1<;>omega)
theorem a1u.inj {n m:Nat}{g:Nat->Int}(h:a1u n m g): ∀i j,i<m->j<m->g i=g j->i=j:=fun i j hi hj e=>by
 rcases Nat.lt_trichotomy i j with hl|hl|hl
 ·exact absurd e ((h.2 j hj).2 i hl)
 ·exact hl
 ·exact absurd e.symm ((h.2 i hi).2 j hl)
theorem a1u.mvd {n p q:Nat}{g:Nat->Int}(h:a1u n n g)(hp:p<n)(hq:q<n):a1u n n (mvd n g p q):=by
 obtain⟨s1,s2⟩:=e6s hp hq
 refine⟨rfl,fun i hi=>⟨?_,fun k hk=> ?_⟩⟩
 ·rw[c4z hp hq g hi];exact (h.2 _ (s1 i hi)).1
 ·rw[c4z hp hq g hi,c4z hp hq g (by omega)]
  intro e
  have:=s2 _ _ (by omega) hi (h.inj _ _ (s1 _ (by omega)) (s1 _ hi) e)
  omega
theorem a1u.at {n:Nat}{g:Nat->Int}(h:a1u n n g){v:Int}(hv:0<=v/\v<=(n:Int)-1): ∃p,p<n/\g p=v:=by
 have h1:=b8u (n:=n) (od:=fun i=>(g i).toNat) fun i hi=>⟨by have:=(h.2 i hi).1;omega,fun k hk=>by
  have a:=(h.2 i hi).1
  have b:=(h.2 k (by omega)).1
  have c:=(h.2 i hi).2 k hk
  omega⟩
 have h2:v.toNat∈L n fun i=>i:=by simp[L];omega
 obtain⟨p,hp,e⟩: ∃p,p<n/\(g p).toNat=v.toNat:=by simpa [L] using h1.mem_iff.2 h2
 exact⟨p,hp,by have:=(h.2 p hp).1;omega⟩
section
variable {n:Nat} {l:Nat->DiR}
theorem a0x.ord (h:a0x n l):a1u (l 0).ns (l 0).no (l 0).od:=by
 have:=(h.di 0 h.pos.1).fr
 unfold a2e at this
 split at this
 ·omega
 split at this
 ·omega
 split at this
 ·omega
 split at this
 ·assumption
 ·omega
theorem a0x.frOf (h:a0x n l)(m:Nat)(g:Nat->Int):a2e (l 0).ns m (l 0).sz g=0↔a1u (l 0).ns m g:=by
 have:=(h.di 0 h.pos.1).fr
 unfold a2e at this⊢
 split at this
 ·omega
 split at this
 ·omega
 split at this
 ·omega
 rename_i a b c
 rw[if_neg a,if_neg b,if_neg c]
 split
 ·rename_i h;exact⟨fun _=>h,fun _=>rfl⟩
 ·rename_i h;exact⟨fun e=>by omega,fun e=>absurd e h⟩
end
section
variable {n ns no q k x:Nat} {sz o1 u:Nat->Int} {e0 e3 e4 e5:Nat->List DV} {d1 d2 d4:DV}
theorem h2o {a b:Int}(hno:no<=1000000)(h54:a0j Tryz.prog false 54 [.d (.sl 5 n e0)] (.tuple [.agg [isl ns sz,isl no o1,.d (.sl 5 q e3),.d (.sl 1 k e4)],int 0]))(ha: ¬((0<=a/\a<=(no:Int)-1)/\0<=b/\b<=(no:Int)-1)):
 a0j Tryz.prog false 37 [.d (.sl 5 n e0),int a,int b] (.tuple [.d .nil,int 3]):=by
 have h78:=h2f 0 ((no:Int)-1) a b false ⟨fun h=>(by cases h),fun h=>absurd h ha⟩
 have hb9: -9223372036854775808<=(no:Int)-1/\(no:Int)-1<=9223372036854775807:=by omega
 refine a0d Tryz.mixed okP g4b _ rfl fun E Sg hb hS=> ?_
 have e:=a5x hS
 cbv
 refine a0e hS _ h54 ?_
 cbv
 split
 ·rename_i h;exact absurd rfl (f2x hS h)
 cbv
 refine a0a hS (by subst hS;exact a0h hb9.1 hb9.2) ?_
 refine a0e hS (bool false) (by subst hS;exact h78) ?_
 cbv
 exact a1r.tuple (.cons (a0b.refl _) (.cons (a1m rfl) .nil))
theorem h2n {a b:Int}(hno:no<=1000000)(h54:a0j Tryz.prog false 54 [.d (.sl 5 n e0)] (.tuple [.agg [isl ns sz,isl no o1,.d (.sl 5 q e3),.d (.sl 1 k e4)],int 0]))(ha:(0<=a/\a<=(no:Int)-1)/\0<=b/\b<=(no:Int)-1)
 (h65:a0j Tryz.prog false 65 [.agg [isl ns sz,isl no o1],int a,int b] (isl no u))
 (h64:a0j Tryz.prog false 64 [.agg [isl ns sz,isl no o1,.d (.sl 5 q e3),.d (.sl 1 k e4)],isl no u] (.agg [.d d1,.d d2,.d (.sl 5 x e5),.d d4])):
 a0j Tryz.prog false 37 [.d (.sl 5 n e0),int a,int b] (.tuple [.d (.sl 5 x e5),int 0]):=by
 have h78:=h2f 0 ((no:Int)-1) a b true ⟨fun h=>ha,fun h=>rfl⟩
 have hb9: -9223372036854775808<=(no:Int)-1/\(no:Int)-1<=9223372036854775807:=by omega
 refine a0d Tryz.mixed okP g4b _ rfl fun E Sg hb hS=> ?_
 have e:=a5x hS
 cbv
 refine a0e hS _ h54 ?_
 cbv
 split
 ·rename_i h;exact absurd rfl (f2x hS h)
 cbv
 refine a0a hS (by subst hS;exact a0h hb9.1 hb9.2) ?_
 refine a0e hS (bool true) (by subst hS;exact h78) ?_
 cbv
 refine a0e hS _ h65 ?_
 cbv
 refine a0a hS (a6d hS) ?_
 refine a0e hS _ h64 ?_
 cbv
 exact a1r.tuple (.cons (a0b.refl _) (.cons (a1m rfl) .nil))
end
section
variable {n:Nat} {l:Nat->DiR}
def mvF (l:Nat->DiR)(p q:Nat):Nat->DiR:=chg l (l 0).no (mvd (l 0).no (l 0).od p q)
theorem a0x.ons (h:a0x n l):(l 0).no=(l 0).ns:=h.ord.1
theorem a0x.frMv (h:a0x n l){p q:Nat}(hp:p<(l 0).no)(hq:q<(l 0).no):a2e (l 0).ns (l 0).no (l 0).sz (mvd (l 0).no (l 0).od p q)=0:=by
 rw[h.frOf]
 have:=h.ord
 rw[<-h.ons] at this⊢
 exact this.mvd hp hq
theorem a0x.uniq (h:a0x n l){p:Nat}(hp:p<(l 0).no): ∀j,j<(l 0).no->((l 0).od j=(l 0).od p↔j=p):=fun j hj=>
 ⟨h.ord.inj j p hj hp,fun e=>by rw[e]⟩
theorem a0x.moved65 (h:a0x n l){p q:Nat}(hp:p<(l 0).no)(hq:q<(l 0).no):a0j Tryz.prog false 65 [.agg [isl (l 0).ns (l 0).sz,isl (l 0).no (l 0).od],int ((l 0).od p),int q] (isl (l 0).no (mvd (l 0).no (l 0).od p q)):=
 Run.moved65 (by have:=h.no 0 h.pos.1;omega) (l 0).sz (l 0).od _ hp (h.uniq hp) hq _ fun j hj=>rfl
theorem h2s (h:a0x n l)(a b:Int):(¬((0<=a/\a<=((l 0).no:Int)-1)/\0<=b/\b<=((l 0).no:Int)-1)->a0j Tryz.prog false 37 [dsl n l,int a,int b] (.tuple [.d .nil,int 3]))/\
 (∀p q:Nat,p<(l 0).no->a=(l 0).od p->b=(q:Int)->q<(l 0).no->a0j Tryz.prog false 37 [dsl n l,int a,int b] (.tuple [dsl n (mvF l p q),int 0])):=by
 have h54:=h.open54
 have hno:=h.no 0 h.pos.1
 refine⟨fun ha=> ?_,fun p q hp e1 e2 hq=> ?_⟩
 ·obtain⟨w,rfl⟩: ∃w,n=w+1:=⟨n-1,by have:=h.pos;omega⟩
  exact h2o (by omega) h54 ha
 ·have h65:=h.moved65 hp hq
  have h64:=h.in64 (h.frMv hp hq)
  have ho:=(h.ord.2 p hp).1
  rw[<-h.ons] at ho
  obtain⟨w,rfl⟩: ∃w,n=w+1:=⟨n-1,by have:=h.pos;omega⟩
  rw[e1,e2]
  exact h2n (by omega) h54 ⟨ho,by omega,by omega⟩ h65 h64
end
theorem c4f {P:NdR->Prop}{g:Nat->Law.Mk->Law.Mk×Int}(hg: ∀k s,(∀b,b∈s.on->P b)-> ∀b,b∈(g k s).1.on->P b)(s:Law.Mk)(hs: ∀b,b∈s.on->P b): ∀k,∀b,b∈(a1t g k s).1.on->P b
 |0=>hs
 |k+1=>hg k _ (c4f hg s hs k)
theorem d2s {P:NdR->Prop}{C:Nat->VaR}{sz od str:Nat->Nat}: ∀(m r num:Nat) (s:Law.Mk),(∀i,r<=i->i<r+m-> ∀u,P ⟨(od i:Int),L (sz (od i)) u⟩)->(∀b,b∈s.on->P b)-> ∀b,b∈(ofW C sz od str m r num s).1.on->P b
 |0,r,num,s,_,hs=>hs
 |m+1,r,num,s,h,hs=>by
  have h1:=c4f (P:=P) (g:=fun k s=>ofW C sz od str m (r+1) (num+k*str (od r)) s) (fun k s hs=>d2s m (r+1) _ s (fun i h1 h2=>h i (by omega) (by omega)) hs) s hs (sz (od r))
  rw[ofW]
  unfold Law.mkNode
  split
  ·exact h1
  ·exact b4w h1 (h r (by omega) (by omega) _)
theorem OfR.full.kids {o:OfR}(h:o.full): ∀i,i<o.out.nn->o.out.nk i<=12:=by
 obtain⟨h1,h2,h3,h4,h5⟩:=a1k h.fr
 have ha:=d2s (P:=fun b=>b.kids.length<=12) (C:=o.C) (sz:=o.sN) (od:=o.oN) (str:=o.str) o.no 0 0 s0 (fun i _ hi u=>by
  rw[a0k]
  have:=(h.od i (by omega)).1
  have:=(h2 (o.oN i) (by omega)).2
  unfold OfR.sN;omega) (by simp[s0])
 intro i hi
 have hi:i<o.make.1.on.length:=hi
 show (o.make.1.on.getD i ⟨0,[]⟩).kids.length<=12
 refine ha _ ?_
 show o.make.1.on.getD i ⟨0,[]⟩∈o.make.1.on
 rw[List.getD,List.getElem?_eq_getElem hi]
 exact List.getElem_mem hi
section
variable {n:Nat} {l:Nat->DiR}
end
end Go.Proofs.Tryz.Run
