/- The program's Swap and Move of a family. The program's Swap and Move of a family, walked. OrderChanges answers true: the walk. Conditions: none. -/
import Derived.Test.YtpcokdalcafgdaaGreatBLq
import Derived.Test.YtpcokdalcafgdaaGreatBNa
import Derived.Test.YtpcokdalcafgdaaGreatBNc
import Derived.Test.YtpcokdalcafgdaaGreatBLh
import Derived.Test.YtpcokdalcafgdaaGreatBNb
import Derived.Test.YtpcokdalcafgdaaGreatBOh
import Derived.Test.YtpcokdalcafgdaaGreatBPm0
import Derived.Test.YtpcokdalcafgdaaGreatBQd
import Derived.Test.YtpcokdalcafgdaaGreatBQf
import Derived.Test.YtpcokdalcafgdaaGreatBQh
import Derived.Test.YtpcokdalcafgdaaGreatBSn
import Derived.Test.YtpcokdalcafgdaaGreatBSq
import Derived.Test.YtpcokdalcafgdaaGreatBUi
import Derived.Test.YtpcokdalcafgdaaGreatBXf
import Derived.Test.YtpcokdalcafgdaaGreatBXk
import Derived.Test.YtpcokdalcafgdaaGreatBXn
import Derived.Test.YtpcokdalcafgdaaGreatBXt
set_option linter.unusedSimpArgs false
set_option linter.unusedVariables false
namespace Go.Proofs.Tryz.Run
open Go Go.Vf Go.Proofs
open Go.Proofs.YtpcokdalcafgdaaGreat
theorem a1u.at {n:Nat}{g:Nat->Int}(h:a1u n n g){v:Int}(hv:0<=v/\v<=(n:Int)-1): ∃p,p<n/\g p=v:=by
 have h1:=b8u (n:=n) (od:=fun i=>(g i).toNat) fun i hi=>⟨by have:=(h.2 i hi).1;omega,fun k hk=>by
  have a:=(h.2 i hi).1
  have b:=(h.2 k (by omega)).1
  have c:=(h.2 i hi).2 k hk
  omega⟩
 have h2:v.toNat∈L n fun i=>i:=by simp[L];omega
 obtain⟨p,hp,e⟩: ∃p,p<n/\(g p).toNat=v.toNat:=by simpa [L] using h1.mem_iff.2 h2
 exact⟨p,hp,by have:=(h.2 p hp).1;omega⟩
section
variable {n:Nat} {l:Nat->DiR}
theorem a0x.ord (h:a0x n l):a1u (l 0).ns (l 0).no (l 0).od:=by
 have:=(h.di 0 h.pos.1).fr
 unfold a2e at this
 split at this
 ·omega
 split at this
 ·omega
 split at this
 ·omega
 split at this
 ·assumption
 ·omega
theorem a0x.frOf (h:a0x n l)(m:Nat)(g:Nat->Int):a2e (l 0).ns m (l 0).sz g=0↔a1u (l 0).ns m g:=by
 have:=(h.di 0 h.pos.1).fr
 unfold a2e at this⊢
 split at this
 ·omega
 split at this
 ·omega
 split at this
 ·omega
 rename_i a b c
 rw[if_neg a,if_neg b,if_neg c]
 split
 ·rename_i h;exact⟨fun _=>h,fun _=>rfl⟩
 ·rename_i h;exact⟨fun e=>by omega,fun e=>absurd e h⟩
end
section
variable {n ns no q k x:Nat} {sz o1 u:Nat->Int} {e0 e3 e4 e5:Nat->List DV} {d1 d2 d4:DV}
end
section
variable {n:Nat} {l:Nat->DiR}
theorem a0x.ons (h:a0x n l):(l 0).no=(l 0).ns:=h.ord.1
end
theorem c4f {P:NdR->Prop}{g:Nat->Law.Mk->Law.Mk×Int}(hg: ∀k s,(∀b,b∈s.on->P b)-> ∀b,b∈(g k s).1.on->P b)(s:Law.Mk)(hs: ∀b,b∈s.on->P b): ∀k,∀b,b∈(a1t g k s).1.on->P b
 |0=>hs
 |k+1=>hg k _ (c4f hg s hs k)
theorem d2s {P:NdR->Prop}{C:Nat->VaR}{sz od str:Nat->Nat}: ∀(m r num:Nat) (s:Law.Mk),(∀i,r<=i->i<r+m-> ∀u,P ⟨(od i:Int),L (sz (od i)) u⟩)->(∀b,b∈s.on->P b)-> ∀b,b∈(ofW C sz od str m r num s).1.on->P b
 |0,r,num,s,_,hs=>hs
 |m+1,r,num,s,h,hs=>by
  have h1:=c4f (P:=P) (g:=fun k s=>ofW C sz od str m (r+1) (num+k*str (od r)) s) (fun k s hs=>d2s m (r+1) _ s (fun i h1 h2=>h i (by omega) (by omega)) hs) s hs (sz (od r))
  rw[ofW]
  unfold Law.mkNode
  split
  ·exact h1
  ·exact b4w h1 (h r (by omega) (by omega) _)
theorem OfR.full.kids {o:OfR}(h:o.full): ∀i,i<o.out.nn->o.out.nk i<=12:=by
 obtain⟨h1,h2,h3,h4,h5⟩:=a1k h.fr
 have ha:=d2s (P:=fun b=>b.kids.length<=12) (C:=o.C) (sz:=o.sN) (od:=o.oN) (str:=o.str) o.no 0 0 s0 (fun i _ hi u=>by
  rw[a0k]
  have:=(h.od i (by omega)).1
  have:=(h2 (o.oN i) (by omega)).2
  unfold OfR.sN;omega) (by simp[s0])
 intro i hi
 have hi:i<o.make.1.on.length:=hi
 show (o.make.1.on.getD i ⟨0,[]⟩).kids.length<=12
 refine ha _ ?_
 show o.make.1.on.getD i ⟨0,[]⟩∈o.make.1.on
 rw[List.getD,List.getElem?_eq_getElem hi]
 exact List.getElem_mem hi
section
variable {n:Nat} {l:Nat->DiR}
end
end Go.Proofs.Tryz.Run
