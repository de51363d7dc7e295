/- OrderCosts answers true. Conditions: none. -/
import Derived.Test.YtpcokdalcafgdaaGreatZUi
import Derived.Test.YtpcokdalcafgdaaGreatZNe
set_option linter.unusedSimpArgs false
set_option linter.unusedVariables false
namespace Go.Proofs.Tryz.Run
open Go Go.Vf Go.Proofs
open Go.Proofs.YtpcokdalcafgdaaGreat
theorem famErr_ex (n:Nat)(l:Nat→DiR): ∃r,famErr n l r:=by
 rcases Nat.eq_zero_or_pos n with h|h
 ·exact⟨7,.inl ⟨h,rfl⟩⟩
 ·obtain⟨r,hr⟩:=famOk_ex n (fun i=>diErr (l i)) (fun i=>sameFr (l 0) (l i))
  exact⟨r,.inr ⟨h,hr⟩⟩
set_option maxHeartbeats 8000000 in
theorem orderCosts3 (n:Nat)(l:Nat→DiR)(hw: ∀i,i<n→(l i).wf):PureF Tryz.prog true 3 [dsl n l] (bool true):=by
 have haw:=awake_true
 by_cases ht:thins n l
 rotate_left
 ·have h16:=thin16 n l hw false (by simp[ht])
  refine pure_bool (pureF_of_fn Tryz.mixed okP ok3 _ rfl fun E Sg hb hS=> ?_)
  cbv
  refine callb_i hS _ h16 ?_
  cbv
  refine callb_i hS _ haw ?_
  cbv
  exact Like.refl _
 have h16:=thin16 n l hw true (by simp[ht])
 have hfit: ∀i,i<n→(l i).fit:=fun i hi=>(ht.2 i hi).1.fit (hw i hi)
 have hflt: ∀i,i<n→ ∀j,j<(l i).ne→0≤((l i).en j).fault:=fun i hi=>(hw i hi).2.2
 have hno: ∀i,i<n→(l i).no≤12:=fun i hi=>by have:=(ht.2 i hi).1.1.2.1;omega
 have hn4:=ht.1
 have h19:=copy19 n (by omega) l hfit
 obtain⟨r,hr⟩:=famErr_ex n l
 have h21:=check21 n (by omega) l hfit r hr
 by_cases h0:r=0
 ·subst h0
  have hF:=FamOk.mk' (by omega) hfit hflt hr
  obtain⟨w,hwv⟩: ∃w:Nat→Int,∀j,j<(l 0).ns→w j=cnt (famW l n).on j:=⟨_,fun j _=>rfl⟩
  obtain⟨q1,q2⟩:=hF.costs w hwv
  obtain⟨q3,q4⟩:=hF.refs w hwv
  have q5:=same23 (l 0).ns (l 0).ns w w (hfit 0 hF.pos.1).ns true (by simp)
  clear hwv hr hw ht hfit hflt hno hF
  obtain⟨Q,hQ⟩: ∃Q:Nat,(famW l n).on.length=Q:=⟨_,rfl⟩
  rw[hQ] at q1 q3
  obtain⟨m,hm⟩: ∃m:Nat,(l 0).ns=m:=⟨_,rfl⟩
  rw[hm] at q2 q4 q5
  refine pure_bool (pureF_of_fn Tryz.mixed okP ok3 _ rfl fun E Sg hb hS=> ?_)
  have e:=stdE hS
  cbv
  refine callb_i hS _ h16 ?_
  cbv
  refine callb_i hS _ h19 ?_
  cbv
  refine callb_i hS _ q1 ?_
  cbv
  refine callb_i hS _ h19 ?_
  cbv
  refine callb_i hS _ q2 ?_
  cbv
  refine callb_i hS _ h21 ?_
  cbv
  simp only[e.ieq,e.bnot]
  cbv
  simp only[e.ieq]
  cbv
  refine callb_i hS _ q3 ?_
  cbv
  simp only[e.ieq,BEq.rfl]
  cbv
  simp only[e.ieq]
  cbv
  refine callb_i hS _ q4 ?_
  cbv
  refine callb_i hS _ q5 ?_
  cbv
  refine callb_i hS _ haw ?_
  cbv
  exact Like.refl _
 ·obtain⟨q1,q2⟩:=cost18_err (by omega) hfit hflt hno r hr h0
  clear hr hw ht hfit hflt hno
  refine pure_bool (pureF_of_fn Tryz.mixed okP ok3 _ rfl fun E Sg hb hS=> ?_)
  have e:=stdE hS
  cbv
  refine callb_i hS _ h16 ?_
  cbv
  refine callb_i hS _ h19 ?_
  cbv
  refine callb_i hS _ q1 ?_
  cbv
  refine callb_i hS _ h19 ?_
  cbv
  refine callb_i hS _ q2 ?_
  cbv
  refine callb_i hS _ h21 ?_
  cbv
  have hb0:(r==Int.ofNat 0)=false:=beq_false_of_ne h0
  simp only[e.ieq,e.bnot,hb0]
  cbv
  simp only[e.ieq,BEq.rfl]
  cbv
  simp only[e.ieq,BEq.rfl]
  cbv
  simp only[e.ieq]
  cbv
  refine callb_i hS _ haw ?_
  cbv
  exact Like.refl _
end Go.Proofs.Tryz.Run
