/- LookForms: for every plan the statement answers true, and the argument reads as it did. Conditions: none. -/
import Derived.Test.YtbglklaocjifhaaGreatFLr
import Derived.Test.YtbglklaocjifhaaGreatFNa
import Derived.Test.YtbglklaocjifhaaGreatFNb
import Derived.Test.YtbglklaocjifhaaGreatFNc
import Derived.Test.YtbglklaocjifhaaGreatFQd
import Derived.Test.YtbglklaocjifhaaGreatFQf
import Derived.Test.YtbglklaocjifhaaGreatFHe
import Derived.Test.YtbglklaocjifhaaGreatFHl
import Derived.Test.YtbglklaocjifhaaGreatFHm
import Derived.Test.YtbglklaocjifhaaGreatFHp
import Derived.Test.YtbglklaocjifhaaGreatRows
import Derived.Carry
import Derived.SizedLaws
set_option linter.unusedSimpArgs false
set_option linter.unusedVariables false
set_option maxRecDepth 100000
namespace Go.Proofs.YtbglklaocjifhaaGreat
open Go.ChangeShapes Go.WideShapes Go.ChangeAt Go.RowKit Go.Vf Go.Proofs.Tryz.Run
theorem d7u {w:World}{p:PlR}{v:Value}(h:Row w p.row v.cells.toList):VR w (d6a w) a2j p.av v:=by
 rw[PlR.rowE] at h
 rw[PlR.avE]
 obtain⟨hl,hr⟩:=h
 obtain⟨c0,c1,c2,hc⟩:=e3d hl.symm
 rw[hc] at hr
 have r0:=hr 0 _ c0 rfl rfl
 have r1:=hr 1 _ c1 rfl rfl
 have r2:=hr 2 _ c2 rfl rfl
 have: ∃cs,v= .agg cs/\cs.toList=[c0,c1,c2]:=by
  cases v with
  |agg cs=>exact⟨cs,rfl,by simpa [Value.cells] using hc⟩
  |_=>simp[Value.cells] at hc
 obtain⟨cs,rfl,hcs⟩:=this
 have hcs':cs= #[c0,c1,c2]:=by apply Array.ext';simpa using hcs
 subst hcs'
 refine .agg _ _ rfl fun i x u hx hu=> ?_
 match i,hx,hu with
 |0,hx,hu=>simp at hx hu;subst hx;subst hu;exact .d r0
 |1,hx,hu=>simp at hx hu;subst hx;subst hu;exact .d r1
 |2,hx,hu=>simp at hx hu;subst hx;subst hu;exact .d r2
theorem d0o {f:FuncId}{a:AV}(h:a0j Tryz.prog true f [a] (bool true))(W:World)(v:Value)(hv:VR W (d6a W) a2j a v):
 Calls Tryz.prog f #[v] W fun e w'=>e= .returned (.bool true)/\Below W.heap.size W w':=by
 refine (h.2 W (d6a W) #[v] (fun _ h=>h) ⟨rfl,fun i x u hx hu=> ?_⟩).mono fun e w' hR=> ?_
 ·cases i with
  |zero=>simp at hx hu;subst hx;subst hu;exact hv
  |succ i=>simp at hx
 ·obtain⟨v,S',h1,h2,_,h3⟩:=hR
  cases h2 with
  |d h2=>cases h2;exact⟨h1,h3.os,h3.tape,h3.output,h3.size,h3.frame⟩
theorem b8l (os:Os)(started:os.Started)(H:Type)(enc:TypeId×Value->H):
 ReturnsInHanded {} Tryz.checked os 6 .any (Rows.lookFormsSpec.pre6 enc Tryz.prog Tryz.f6 Rows.lookFormsRow.domain false) (Rows.lookFormsSpec.post enc Tryz.prog Tryz.f6 false true false false):=by
 refine returnsInHanded_of_change_sized (C:=Tryz.checked) Tryz.own started (by kernel_rfl) Tryz.func6
  (ChangeSpec.witness6 (enc:=enc) (C:=Tryz.checked) false ⟨#[],#[.agg #[.int .i64 0,.slice none 0 0,.slice none 0 0]],[]⟩ 8 (by kernel_rfl) (by kernel_rfl) (by kernel_rfl) (by kernel_rfl)) ?_
 intro W base args ds gs before hval0 hW hcnd hsz _
 have hW':=hW
 obtain⟨p,q,hA0,hV,rfl,hfz,hnd⟩:=hW
 have hA:DataW.TrodAll enc Tryz.prog W 0 (fun _=>true) true Tryz.f6.params.toList args.toList ds p:=hA0
 have hlt: ∀x∈p,x.block<W.heap.size:=fun x hx=>DataW.TrodAll.lt hA0 x hx
 have hpar:Tryz.f6.params.toList=[34]:=by kernel_rfl
 rw[hpar] at hA
 obtain⟨v,d,rfl,rfl,hd⟩:=trodAll_one hA
 obtain⟨hg,hq⟩:=trodVars_none hV
 subst hg hq
 have hws: ∀k,k∈d.weights Tryz.prog 34->k<=140737488355328:=fun k hk=>by
  have h1:=List.all_eq_true.1 hsz k (by
   rw[hpar]
   show k∈DataW.weightsEach Tryz.prog (34::_) (d::_)
   simp only[DataW.weightsEach,List.mem_append]
   exact .inl hk)
  have h2:k<=reachBytes:=of_decide_eq_true h1
  exact Nat.le_trans h2 (by decide)
 obtain⟨fuel,hd'⟩:=hd
 obtain⟨pl,hok,hrow⟩:=c9x fuel _ _ hd' hws
 have hd:DataW.Trod enc Tryz.prog W 0 (fun _=>true) true 34 v d p:=⟨fuel,hd'⟩
 refine (d0o (c4h pl hok) W v (d7u hrow)).mono fun e W' ⟨he,hb⟩=> ?_
 subst he
 refine⟨_,rfl,[d],[],_,[],p,[],hW',?_,?_,?_,hb.frame _,fun h=>by cases h⟩
 ·rw[show Tryz.f6.resultTypes= #[4] from by kernel_rfl]
  exact trodAll_mk1 (shut_bool (by kernel_rfl) true)
 ·rw[hpar]
  exact trodAll_mk1 (Below.trod Tryz.laidOut (by kernel_rfl) (of_decide_eq_true (by kernel_rfl)) hd hb hlt)
 ·exact rfl
theorem look_forms:Rows.LookFormsSaid:=
 OpenClaim.holds_of_wide 6 Tryz.f6 rfl rfl rfl rfl rfl rfl rfl ⟨rfl,rfl,rfl,rfl,rfl⟩ rfl rfl rfl rfl rfl (by kernel_rfl) Tryz.func6 d7a
  (of_decide_eq_true (by kernel_rfl)) (by unfold Func.isWrapper;first|(rw[if_pos (by decide+kernel)];kernel_rfl)|(rw[if_neg (by decide+kernel)];exact⟨rfl,rfl⟩))
  (fun os started H enc _=>b8l os started H enc)
end Go.Proofs.YtbglklaocjifhaaGreat
