/- The plain law of OrderSums: the numbers of a family. OrderSums: ready, a copy that grows. OrderSums answers true: the walk. Conditions: none. -/
import Derived.Test.YtpcokdalcafgdaaGreatWLq
import Derived.Test.YtpcokdalcafgdaaGreatWNa
import Derived.Test.YtpcokdalcafgdaaGreatWNc
import Derived.Test.YtpcokdalcafgdaaGreatWLh
import Derived.Test.YtpcokdalcafgdaaGreatWNb
import Derived.Test.YtpcokdalcafgdaaGreatWOh
import Derived.Test.YtpcokdalcafgdaaGreatWPm0
import Derived.Test.YtpcokdalcafgdaaGreatWQd
import Derived.Test.YtpcokdalcafgdaaGreatWQf
import Derived.Test.YtpcokdalcafgdaaGreatWQh
import Derived.Test.YtpcokdalcafgdaaGreatWQi
import Derived.Test.YtpcokdalcafgdaaGreatWSd
import Derived.Test.YtpcokdalcafgdaaGreatWUf
import Derived.Test.YtpcokdalcafgdaaGreatWUi
import Derived.Test.YtpcokdalcafgdaaGreatWUm
set_option linter.unusedSimpArgs false
set_option linter.unusedVariables false
namespace Go.Proofs.Tryz.Run
open Go Go.Vf Go.Proofs
open Go.Proofs.YtpcokdalcafgdaaGreat
theorem h5d {α:Type}[DecidableEq α]{l m:List α}(h:l<+:m){x:α}(hx:x∈l):Law.at1 m x=Law.at1 l x:=by
 obtain⟨t,rfl⟩:=h
 induction l with
 |nil=>simp at hx
 |cons y l ih=>
  simp only[List.cons_append,Law.at1]
  by_cases e:y=x
  ·rw[if_pos e,if_pos e]
  ·rw[if_neg e,if_neg e,ih (by simp at hx;exact hx.resolve_left fun k=>e k.symm)]
theorem d5e {n:Nat}{l:Nat->DiR}{c:Int}(hc:a6p n l c)(h:a6p n l 0):c=0:=by
 obtain⟨hp,hd⟩:=c1q h
 rcases hc with⟨h1,_⟩|⟨_,hc⟩
 ·omega
 ·rcases hc with⟨i,a,b,c,d⟩|⟨a,hc⟩
  ·exact absurd (hd i a).1 c
  ·rcases hc with⟨_,b⟩|⟨b,_⟩
   ·exact b
   ·exact absurd (fun i _ hi=>(hd i hi).2) b
theorem d4k (n:Nat)(l:Nat->DiR)(hw: ∀i,i<n->(l i).wf)(r:Bool)(hr:r=true↔d7d n l/\a6p n l 0):a0j Tryz.prog true 34 [dsl n l] (bool r):=by
 obtain⟨c,hc⟩:=d6o n l
 by_cases ht:d7d n l
 ·have h16:=e4r n l hw true (by simp[ht])
  have h21:=d2k n (by have:=ht.1;omega) l (fun i hi=>(ht.2 i hi).1.fit (hw i hi)) c hc
  have hcr:(c==0)=r:=by
   by_cases h0:c=0
   ·subst h0;rw[hr.2 ⟨ht,hc⟩];rfl
   ·rw[beq_false_of_ne h0]
    cases r
    ·rfl
    ·exact absurd (d5e hc (hr.1 rfl).2) h0
  clear hc hr ht hw
  refine a0s (a0d Tryz.mixed okP f8z _ rfl fun E Sg hb hS=> ?_)
  have e:=a5x hS
  cbv
  refine a0e hS _ h16 ?_
  cbv
  refine a0e hS _ h21 ?_
  cbv
  exact a0v (by rw[<-hcr];exact e.ieq _ _)
 ·have h16:=e4r n l hw false (by simp[ht])
  have hrf:r=false:=by
   cases r
   ·rfl
   ·exact absurd (hr.1 rfl).1 ht
  subst hrf
  clear hc hr ht hw
  refine a0s (a0d Tryz.mixed okP f8z _ rfl fun E Sg hb hS=> ?_)
  cbv
  refine a0e hS _ h16 ?_
  cbv
  exact a0b.refl _
end Go.Proofs.Tryz.Run
