/- OrderLess: for every family the statement answers true, and the family's parts read as they did. Conditions: none. -/
import Derived.Test.YtpcokdalcafgdaaGreatLLr
import Derived.Test.YtpcokdalcafgdaaGreatLNa
import Derived.Test.YtpcokdalcafgdaaGreatLNc
import Derived.Test.YtpcokdalcafgdaaGreatLLh
import Derived.Test.YtpcokdalcafgdaaGreatLNb
import Derived.Test.YtpcokdalcafgdaaGreatLOi
import Derived.Test.YtpcokdalcafgdaaGreatLPm0
import Derived.Test.YtpcokdalcafgdaaGreatLQf
import Derived.Test.YtpcokdalcafgdaaGreatLUi
import Derived.Test.YtpcokdalcafgdaaGreatLUk
import Derived.Test.YtpcokdalcafgdaaGreatLXf
import Derived.Test.YtpcokdalcafgdaaGreatLXk
import Derived.Test.YtpcokdalcafgdaaGreatLXw
import Derived.Test.YtpcokdalcafgdaaGreatLYb
import Derived.Test.YtpcokdalcafgdaaGreatLYf
import Derived.Test.YtpcokdalcafgdaaGreatLYs
import Derived.Carry
import Derived.OpenShut
set_option linter.unusedSimpArgs false
set_option linter.unusedVariables false
set_option maxRecDepth 100000
namespace Go.Proofs.YtpcokdalcafgdaaGreat
open Go.ChangeShapes Go.WideShapes Go.ChangeAt Go.RowKit Go.Vf Go.Proofs.Tryz.Run
theorem h2g (os:Os)(started:os.Started)(H:Type)(enc:TypeId×Value->H):
 ReturnsInHanded {} Tryz.checked os 10 .any (Rows.orderLessSpec.pre6 enc Tryz.prog Tryz.f10 Rows.orderLessRow.domain false) (Rows.orderLessSpec.post enc Tryz.prog Tryz.f10 false true false false):=by
 refine returnsInHanded_of_change (C:=Tryz.checked) Tryz.own started (by kernel_rfl) Tryz.func10
  (ChangeSpec.witness6 (enc:=enc) (C:=Tryz.checked) false ⟨#[],#[.slice none 0 0],[]⟩ 8 (by kernel_rfl) (by kernel_rfl) (by kernel_rfl) (by kernel_rfl)) ?_
 intro W base args ds gs before hval0 hW hcnd _
 have hW':=hW
 obtain⟨p,q,hA0,hV,rfl,hfz,hnd⟩:=hW
 have hA:DataW.TrodAll enc Tryz.prog W 0 (fun _=>true) true Tryz.f10.params.toList args.toList ds p:=hA0
 have hlt: ∀x∈p,x.block<W.heap.size:=fun x hx=>DataW.TrodAll.lt hA0 x hx
 rw[show Tryz.f10.params.toList=[22] from by kernel_rfl] at hA
 obtain⟨v,d,rfl,rfl,hd⟩:=trodAll_one hA
 obtain⟨hg,hq⟩:=trodVars_none hV
 subst hg hq
 have hv0:=hval0 0 22 v (by kernel_rfl) (by simp)
 obtain⟨n,l,hl,hw⟩:=d1l (okWide_slice (P:=Tryz.checked.prog) (e:=44) (by kernel_rfl) hv0) hd
 refine (h0k (h2h n l hw) W v hl).mono fun e W' ⟨he,hb⟩=> ?_
 subst he
 refine⟨_,rfl,[d],[],_,[],p,[],hW',?_,?_,?_,hb.frame _,fun h=>by cases h⟩
 ·rw[show Tryz.f10.resultTypes= #[4] from by kernel_rfl]
  exact trodAll_mk1 (shut_bool (by kernel_rfl) true)
 ·rw[show Tryz.f10.params.toList=[22] from by kernel_rfl]
  exact trodAll_mk1 (Below.trod Tryz.laidOut (by kernel_rfl) (of_decide_eq_true (by kernel_rfl)) hd hb hlt)
 ·exact rfl
theorem order_less:Rows.OrderLessSaid:=
 OpenClaim.holds_of_wide 10 Tryz.f10 rfl rfl rfl rfl rfl rfl rfl ⟨rfl,rfl,rfl,rfl,rfl⟩ rfl rfl rfl rfl rfl (by kernel_rfl) Tryz.func10 (by kernel_rfl)
  (of_decide_eq_true (by kernel_rfl)) (by unfold Func.isWrapper;first|(rw[if_pos (by decide+kernel)];kernel_rfl)|(rw[if_neg (by decide+kernel)];exact⟨rfl,rfl⟩))
  (fun os started H enc _=>h2g os started H enc)
end Go.Proofs.YtpcokdalcafgdaaGreat
