/- The plain law of OrderSums: the numbers of a family. OrderSums: ready, a copy that grows. OrderSums answers true: the walk. Conditions: none. -/
import Derived.Test.YtpcokdalcafgdaaGreatZUi
import Derived.Test.YtpcokdalcafgdaaGreatZOh
import Derived.Test.YtpcokdalcafgdaaGreatZUk
set_option linter.unusedSimpArgs false
set_option linter.unusedVariables false
namespace Go.Proofs.Tryz.Run
open Go Go.Vf Go.Proofs
open Go.Proofs.YtpcokdalcafgdaaGreat
end Go.Proofs.Tryz.Run
set_option linter.unusedSimpArgs false
set_option linter.unusedVariables false
namespace Go.Proofs.Tryz.Run
open Go Go.Vf Go.Proofs
open Go.Proofs.YtpcokdalcafgdaaGreat
theorem famErr_eq {n:Nat}{l:Nat→DiR}{c:Int}(hc:famErr n l c)(h:famErr n l 0):c=0:=by
 obtain⟨hp,hd⟩:=fam_ok h
 rcases hc with⟨h1,_⟩|⟨_,hc⟩
 ·omega
 ·rcases hc with⟨i,a,b,c,d⟩|⟨a,hc⟩
  ·exact absurd (hd i a).1 c
  ·rcases hc with⟨_,b⟩|⟨b,_⟩
   ·exact b
   ·exact absurd (fun i _ hi=>(hd i hi).2) b
theorem ready34 (n:Nat)(l:Nat→DiR)(hw: ∀i,i<n→(l i).wf)(r:Bool)(hr:r=true↔thins n l∧famErr n l 0):PureF Tryz.prog true 34 [dsl n l] (bool r):=by
 obtain⟨c,hc⟩:=famErr_ex n l
 by_cases ht:thins n l
 ·have h16:=thin16 n l hw true (by simp[ht])
  have h21:=check21 n (by have:=ht.1;omega) l (fun i hi=>(ht.2 i hi).1.fit (hw i hi)) c hc
  have hcr:(c==0)=r:=by
   by_cases h0:c=0
   ·subst h0;rw[hr.2 ⟨ht,hc⟩];rfl
   ·rw[beq_false_of_ne h0]
    cases r
    ·rfl
    ·exact absurd (famErr_eq hc (hr.1 rfl).2) h0
  clear hc hr ht hw
  refine pure_bool (pureF_of_fn Tryz.mixed okP ok34 _ rfl fun E Sg hb hS=> ?_)
  have e:=stdE hS
  cbv
  refine callb_i hS _ h16 ?_
  cbv
  refine callb_i hS _ h21 ?_
  cbv
  exact lk_bool (by rw[←hcr];exact e.ieq _ _)
 ·have h16:=thin16 n l hw false (by simp[ht])
  have hrf:r=false:=by
   cases r
   ·rfl
   ·exact absurd (hr.1 rfl).1 ht
  subst hrf
  clear hc hr ht hw
  refine pure_bool (pureF_of_fn Tryz.mixed okP ok34 _ rfl fun E Sg hb hS=> ?_)
  cbv
  refine callb_i hS _ h16 ?_
  cbv
  exact Like.refl _
end Go.Proofs.Tryz.Run
set_option linter.unusedSimpArgs false
set_option linter.unusedVariables false
namespace Go.Proofs.Tryz.Run
open Go Go.Vf Go.Proofs
open Go.Proofs.YtpcokdalcafgdaaGreat
end Go.Proofs.Tryz.Run
