/- OrderMoves: for every family and two positions the statement answers true, and the arguments read as they did. Conditions: none. -/
import Derived.Test.YtpcokdalcafgdaaGreatZUk
import Derived.Test.YtpcokdalcafgdaaGreatZYf
import Derived.Carry
import Derived.OpenShut
set_option linter.unusedSimpArgs false
set_option linter.unusedVariables false
namespace Go.Proofs.YtpcokdalcafgdaaGreat
open Go.ChangeShapes Go.WideShapes Go.ChangeAt Go.RowKit Go.Vf Go.Proofs.Tryz.Run
section
variable {H:Type} {enc:TypeId×Value→H} {w:World} {spare:Nat→Bool} {held:Bool}
theorem num_read {t:TypeId}{k:IntKind}(ht:Tryz.prog.underlying t=some (.int k)){v:Value}(hs: ∃n,v= .int k n){d:DataW H}{ps:List MemPlace}(h:DataW.Trod enc Tryz.prog w 0 spare held t v d ps):
 ∃z:Int,(k.min≤z∧z≤k.max)∧VR w (allS w) noRho (.d (.int k (.v z))) v:=by
 obtain⟨fuel,h⟩:=h
 obtain⟨z,h1,h2⟩:=int_read ht h
 obtain⟨n,rfl⟩:=hs
 simp[Value.cells] at h2
 subst h2
 exact⟨_,h1,.d (.int _ _)⟩
end
theorem moves_calls (n:Nat)(l:Nat→DiR)(hw: ∀i,i<n→(l i).wf)(f t:Int)(hf:0≤f∧f≤255)(ht:0≤t∧t≤255)(W:World)(v u x:Value)(hv:VR W (allS W) noRho (dsl n l) v)(hu:VR W (allS W) noRho (u8 f) u)(hx:VR W (allS W) noRho (u8 t) x):
 Calls Tryz.prog 9 #[v,u,x] W fun e w'=>e= .returned (.bool true)∧Below W.heap.size W w':=by
 refine ((orderMoves9 n l hw f t hf ht).2 W (allS W) #[v,u,x] (fun _ h=>h) ⟨rfl,fun i a b ha hb=> ?_⟩).mono fun e w' hR=> ?_
 ·match i,ha,hb with
  |0,ha,hb=>simp at ha hb;subst ha;subst hb;exact hv
  |1,ha,hb=>simp at ha hb;subst ha;subst hb;exact hu
  |2,ha,hb=>simp at ha hb;subst ha;subst hb;exact hx
  |i+3,ha,hb=>simp at ha
 ·obtain⟨v,S',h1,h2,_,h3⟩:=hR
  cases h2 with
  |d h2=>cases h2;exact⟨h1,h3.os,h3.tape,h3.output,h3.size,h3.frame⟩
set_option maxRecDepth 100000 in
theorem moves_lifted (os:Os)(started:os.Started)(H:Type)(enc:TypeId×Value→H):
 ReturnsInHanded {} Tryz.checked os 9 .any (Rows.orderMovesSpec.pre6 enc Tryz.prog Tryz.f9 Rows.orderMovesRow.domain false) (Rows.orderMovesSpec.post enc Tryz.prog Tryz.f9 false true false false):=by
 refine returnsInHanded_of_change (C:=Tryz.checked) Tryz.own started (by kernel_rfl) Tryz.func9
  (ChangeSpec.witness6 (enc:=enc) (C:=Tryz.checked) false ⟨#[],#[.slice none 0 0,.int .u8 0,.int .u8 0],[]⟩ 8 (by kernel_rfl) (by kernel_rfl) (by kernel_rfl) (by kernel_rfl)) ?_
 intro W base args ds gs before hval0 hW hcnd _
 have hW':=hW
 obtain⟨p,q,hA0,hV,rfl,hfz,hnd⟩:=hW
 have hA:DataW.TrodAll enc Tryz.prog W 0 (fun _=>true) true Tryz.f9.params.toList args.toList ds p:=hA0
 have hlt: ∀x∈p,x.block<W.heap.size:=fun x hx=>DataW.TrodAll.lt hA0 x hx
 rw[show Tryz.f9.params.toList=[22,5,5] from by kernel_rfl] at hA
 obtain⟨v,v',v'',d,d',d'',p1,p2,p3,rfl,rfl,rfl,hd,hd',hd''⟩:=trodAll_three hA
 obtain⟨hg,hq⟩:=trodVars_none hV
 subst hg hq
 rw[List.append_assoc p1 p2 p3] at hW'
 have hv0:=hval0 0 22 v (by kernel_rfl) (by simp)
 have hv1:=hval0 1 5 v' (by kernel_rfl) (by simp)
 have hv2:=hval0 2 5 v'' (by kernel_rfl) (by simp)
 obtain⟨n,l,hl,hw⟩:=diags_read (okWide_slice (P:=Tryz.checked.prog) (e:=44) (by kernel_rfl) hv0) hd
 obtain⟨f,hf,hu⟩:=num_read u5 (okWide_int (P:=Tryz.checked.prog) (by kernel_rfl) hv1) hd'
 obtain⟨t,ht,hx⟩:=num_read u5 (okWide_int (P:=Tryz.checked.prog) (by kernel_rfl) hv2) hd''
 refine (moves_calls n l hw f t hf ht W v v' v'' hl hu hx).mono fun e W' ⟨he,hb⟩=> ?_
 subst he
 refine⟨_,rfl,[d,d',d''],[],_,[],p1++(p2++p3),[],hW',?_,?_,?_,hb.frame _,fun h=>by cases h⟩
 ·rw[show Tryz.f9.resultTypes= #[4] from by kernel_rfl]
  exact trodAll_mk1 (shut_bool (by kernel_rfl) true)
 ·rw[show Tryz.f9.params.toList=[22,5,5] from by kernel_rfl]
  exact trodAll_mk3 (Below.trod Tryz.laidOut (by kernel_rfl) (of_decide_eq_true (by kernel_rfl)) hd hb fun x hx=>hlt x (by simp[hx]))
   (Below.trod Tryz.laidOut (by kernel_rfl) (of_decide_eq_true (by kernel_rfl)) hd' hb fun x hx=>hlt x (by simp[hx]))
   (Below.trod Tryz.laidOut (by kernel_rfl) (of_decide_eq_true (by kernel_rfl)) hd'' hb fun x hx=>hlt x (by simp[hx]))
 ·exact rfl
theorem order_moves:Rows.OrderMovesSaid:=
 OpenClaim.holds_of_wide 9 Tryz.f9 rfl rfl rfl rfl rfl rfl rfl ⟨rfl,rfl,rfl,rfl,rfl⟩ rfl rfl rfl rfl rfl (by kernel_rfl) Tryz.func9 (by kernel_rfl)
  (of_decide_eq_true (by kernel_rfl)) (by unfold Func.isWrapper;first|(rw[if_pos (by decide+kernel)];kernel_rfl)|(rw[if_neg (by decide+kernel)];exact⟨rfl,rfl⟩))
  (fun os started H enc _=>moves_lifted os started H enc)
end Go.Proofs.YtpcokdalcafgdaaGreat
