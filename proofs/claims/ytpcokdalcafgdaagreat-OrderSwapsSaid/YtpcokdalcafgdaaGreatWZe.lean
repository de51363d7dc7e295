/- OrderSwaps: for every family and number the statement answers true, and the arguments read as they did. Conditions: none. -/
import Derived.Test.YtpcokdalcafgdaaGreatWLq
import Derived.Test.YtpcokdalcafgdaaGreatWNa
import Derived.Test.YtpcokdalcafgdaaGreatWNc
import Derived.Test.YtpcokdalcafgdaaGreatWLh
import Derived.Test.YtpcokdalcafgdaaGreatWNb
import Derived.Test.YtpcokdalcafgdaaGreatWOh
import Derived.Test.YtpcokdalcafgdaaGreatWPm0
import Derived.Test.YtpcokdalcafgdaaGreatWQd
import Derived.Test.YtpcokdalcafgdaaGreatWQf
import Derived.Test.YtpcokdalcafgdaaGreatWQi
import Derived.Test.YtpcokdalcafgdaaGreatWUi
import Derived.Test.YtpcokdalcafgdaaGreatWUm
import Derived.Test.YtpcokdalcafgdaaGreatWXf
import Derived.Test.YtpcokdalcafgdaaGreatWXk
import Derived.Test.YtpcokdalcafgdaaGreatWXw
import Derived.Test.YtpcokdalcafgdaaGreatWYb
import Derived.Test.YtpcokdalcafgdaaGreatWYf
import Derived.Test.YtpcokdalcafgdaaGreatWZd
import Derived.Carry
import Derived.OpenShut
set_option linter.unusedSimpArgs false
set_option linter.unusedVariables false
set_option maxRecDepth 100000
namespace Go.Proofs.YtpcokdalcafgdaaGreat
open Go.ChangeShapes Go.WideShapes Go.ChangeAt Go.RowKit Go.Vf Go.Proofs.Tryz.Run
theorem h3z (n:Nat)(l:Nat->DiR)(hw: ∀i,i<n->(l i).wf)(z:Int)(hz:0<=z/\z<=255)(W:World)(v u:Value)(hv:VR W (d2f W) a3h (dsl n l) v)(hu:VR W (d2f W) a3h (u8 z) u):
 Calls Tryz.prog 8 #[v,u] W fun e w'=>e= .returned (.bool true)/\Below W.heap.size W w':=by
 refine ((h3y n l hw z hz).2 W (d2f W) #[v,u] (fun _ h=>h) ⟨rfl,fun i a b ha hb=> ?_⟩).mono fun e w' hR=> ?_
 ·match i,ha,hb with
  |0,ha,hb=>simp at ha hb;subst ha;subst hb;exact hv
  |1,ha,hb=>simp at ha hb;subst ha;subst hb;exact hu
  |i+2,ha,hb=>simp at ha
 ·obtain⟨v,S',h1,h2,_,h3⟩:=hR
  cases h2 with
  |d h2=>cases h2;exact⟨h1,h3.os,h3.tape,h3.output,h3.size,h3.frame⟩
theorem h5f:Tryz.prog.underlying 5=some (.int .u8):=by kernel_rfl
theorem h3x (os:Os)(started:os.Started)(H:Type)(enc:TypeId×Value->H):
 ReturnsInHanded {} Tryz.checked os 8 .any (Rows.orderSwapsSpec.pre6 enc Tryz.prog Tryz.f8 Rows.orderSwapsRow.domain false) (Rows.orderSwapsSpec.post enc Tryz.prog Tryz.f8 false true false false):=by
 refine returnsInHanded_of_change (C:=Tryz.checked) Tryz.own started (by kernel_rfl) Tryz.func8
  (ChangeSpec.witness6 (enc:=enc) (C:=Tryz.checked) false ⟨#[],#[.slice none 0 0,.int .u8 0],[]⟩ 8 (by kernel_rfl) (by kernel_rfl) (by kernel_rfl) (by kernel_rfl)) ?_
 intro W base args ds gs before hval0 hW hcnd _
 have hW':=hW
 obtain⟨p,q,hA0,hV,rfl,hfz,hnd⟩:=hW
 have hA:DataW.TrodAll enc Tryz.prog W 0 (fun _=>true) true Tryz.f8.params.toList args.toList ds p:=hA0
 have hlt: ∀x∈p,x.block<W.heap.size:=fun x hx=>DataW.TrodAll.lt hA0 x hx
 rw[show Tryz.f8.params.toList=[22,5] from by kernel_rfl] at hA
 obtain⟨v,v',d,d',p1,p2,rfl,rfl,rfl,hd,hd'⟩:=trodAll_two hA
 obtain⟨hg,hq⟩:=trodVars_none hV
 subst hg hq
 have hv0:=hval0 0 22 v (by kernel_rfl) (by simp)
 have hv1:=hval0 1 5 v' (by kernel_rfl) (by simp)
 obtain⟨n,l,hl,hw⟩:=d1l (okWide_slice (P:=Tryz.checked.prog) (e:=44) (by kernel_rfl) hv0) hd
 obtain⟨z,hz,hu⟩:=e2j h5f (okWide_int (P:=Tryz.checked.prog) (by kernel_rfl) hv1) hd'
 refine (h3z n l hw z hz W v v' hl hu).mono fun e W' ⟨he,hb⟩=> ?_
 subst he
 refine⟨_,rfl,[d,d'],[],_,[],p1++p2,[],hW',?_,?_,?_,hb.frame _,fun h=>by cases h⟩
 ·rw[show Tryz.f8.resultTypes= #[4] from by kernel_rfl]
  exact trodAll_mk1 (shut_bool (by kernel_rfl) true)
 ·rw[show Tryz.f8.params.toList=[22,5] from by kernel_rfl]
  exact trodAll_mk2 (Below.trod Tryz.laidOut (by kernel_rfl) (of_decide_eq_true (by kernel_rfl)) hd hb fun x hx=>hlt x (by simp[hx]))
   (Below.trod Tryz.laidOut (by kernel_rfl) (of_decide_eq_true (by kernel_rfl)) hd' hb fun x hx=>hlt x (by simp[hx]))
 ·exact rfl
theorem order_swaps:Rows.OrderSwapsSaid:=
 OpenClaim.holds_of_wide 8 Tryz.f8 rfl rfl rfl rfl rfl rfl rfl ⟨rfl,rfl,rfl,rfl,rfl⟩ rfl rfl rfl rfl rfl (by kernel_rfl) Tryz.func8 (by kernel_rfl)
  (of_decide_eq_true (by kernel_rfl)) (by unfold Func.isWrapper;first|(rw[if_pos (by decide+kernel)];kernel_rfl)|(rw[if_neg (by decide+kernel)];exact⟨rfl,rfl⟩))
  (fun os started H enc _=>h3x os started H enc)
end Go.Proofs.YtpcokdalcafgdaaGreat
