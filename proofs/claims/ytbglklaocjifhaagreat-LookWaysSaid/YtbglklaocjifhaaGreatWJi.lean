/- LookWays: for every case, plan and place the statement answers true, and the arguments read as they did. Conditions: none. -/
import Derived.Test.YtbglklaocjifhaaGreatWLr
import Derived.Test.YtbglklaocjifhaaGreatWNb
import Derived.Test.YtbglklaocjifhaaGreatWNe
import Derived.Test.YtbglklaocjifhaaGreatWQd
import Derived.Test.YtbglklaocjifhaaGreatWQf
import Derived.Test.YtbglklaocjifhaaGreatWQi
import Derived.Test.YtbglklaocjifhaaGreatWHe
import Derived.Test.YtbglklaocjifhaaGreatWHr
import Derived.Test.YtbglklaocjifhaaGreatWJh
import Derived.Test.YtbglklaocjifhaaGreatWHm
import Derived.Test.YtbglklaocjifhaaGreatWIc
import Derived.Test.YtbglklaocjifhaaGreatRows
import Derived.Carry
import Derived.SizedLaws
set_option linter.unusedSimpArgs false
set_option linter.unusedVariables false
set_option maxRecDepth 100000
namespace Go.Proofs.YtbglklaocjifhaaGreat
open Go.ChangeShapes Go.WideShapes Go.ChangeAt Go.RowKit Go.Vf Go.Proofs.Tryz.Run
namespace Wy
theorem d7u {w:World}{p:PlR}{v:Value}(h:Row w p.row v.cells.toList):VR w (d6a w) a2j p.av v:=by
 rw[PlR.rowE] at h
 rw[PlR.avE]
 exact Cs.vr_agg (xs:=[_,_,_]) h (by simp)
theorem j5c {f:FuncId}{a b c:AV}(h:a0j Tryz.prog true f [a,b,c] (bool true))(W:World)(u v x:Value)(hu:VR W (d6a W) a2j a u)(hv:VR W (d6a W) a2j b v)(hx:VR W (d6a W) a2j c x):
 Calls Tryz.prog f #[u,v,x] W fun e w'=>e= .returned (.bool true)/\Below W.heap.size W w':=by
 refine (h.2 W (d6a W) #[u,v,x] (fun _ h=>h) ⟨rfl,fun i y z hy hz=> ?_⟩).mono fun e w' hR=> ?_
 ·match i,hy,hz with
  |0,hy,hz=>simp at hy hz;subst hy;subst hz;exact hu
  |1,hy,hz=>simp at hy hz;subst hy;subst hz;exact hv
  |2,hy,hz=>simp at hy hz;subst hy;subst hz;exact hx
  |i+3,hy,hz=>simp at hy
 ·obtain⟨v,S',h1,h2,_,h3⟩:=hR
  cases h2 with
  |d h2=>cases h2;exact⟨h1,h3.os,h3.tape,h3.output,h3.size,h3.frame⟩
theorem j6r:Tryz.f7.params= #[29,34,22]:=by kernel_rfl
theorem j6q:Tryz.f7.resultTypes= #[4]:=by kernel_rfl
theorem ways_lifted (os:Os)(started:os.Started)(H:Type)(enc:TypeId×Value->H):
 ReturnsInHanded {} Tryz.checked os 7 .any (Rows.lookWaysSpec.pre6 enc Tryz.prog Tryz.f7 Rows.lookWaysRow.domain false) (Rows.lookWaysSpec.post enc Tryz.prog Tryz.f7 false true false false):=by
 refine returnsInHanded_of_change_sized (C:=Tryz.checked) Tryz.own started (by kernel_rfl) Tryz.func7
  (ChangeSpec.witness6 (enc:=enc) (C:=Tryz.checked) false ⟨#[],#[.agg #[.slice none 0 0,.slice none 0 0,.slice none 0 0,.slice none 0 0,.slice none 0 0,.slice none 0 0,.slice none 0 0,.int .i64 0,.slice none 0 0,.slice none 0 0,.slice none 0 0,.slice none 0 0,.int .i64 0],.agg #[.int .i64 0,.slice none 0 0,.slice none 0 0],.slice none 0 0],[]⟩ 8 (by kernel_rfl) (by kernel_rfl) (by kernel_rfl) (by kernel_rfl)) ?_
 intro W base args ds gs before hval0 hW hcnd hsz _
 have hW':=hW
 obtain⟨p,q,hA0,hV,rfl,hfz,hnd⟩:=hW
 have hA:DataW.TrodAll enc Tryz.prog W 0 (fun _=>true) true Tryz.f7.params.toList args.toList ds p:=hA0
 have hlt: ∀x∈p,x.block<W.heap.size:=fun x hx=>DataW.TrodAll.lt hA0 x hx
 have hpar:Tryz.f7.params.toList=[29,34,22]:=by kernel_rfl
 rw[hpar] at hA
 obtain⟨v1,v2,v3,d1,d2,d3,p1,p2,p3,rfl,rfl,rfl,hd1,hd2,hd3⟩:=trodAll_three hA
 obtain⟨hg,hq⟩:=trodVars_none hV
 subst hg hq
 have hws: ∀k,k∈d2.weights Tryz.prog 34->k<=140737488355328:=fun k hk=>by
  have h1:=List.all_eq_true.1 hsz k (by
   rw[hpar]
   show k∈DataW.weightsEach Tryz.prog (29::34::_) (d1::d2::_)
   simp only[DataW.weightsEach,List.mem_append]
   exact .inr (.inl hk))
  have h2:k<=reachBytes:=of_decide_eq_true h1
  exact Nat.le_trans h2 (by decide)
 obtain⟨c,hw,hc⟩:=Cs.case_read hd1
 obtain⟨fuel,hd2'⟩:=hd2
 obtain⟨pl,hok,hrow⟩:=c9x fuel _ _ hd2' hws
 have hd2:DataW.Trod enc Tryz.prog W 0 (fun _=>true) true 34 v2 d2 p2:=⟨fuel,hd2'⟩
 obtain⟨fuel3,hd3'⟩:=hd3
 obtain⟨v,n,g,hv,hg,_⟩:=Cs.ints_read hd3'
 have hd3:DataW.Trod enc Tryz.prog W 0 (fun _=>true) true 22 v3 d3 p3:=⟨fuel3,hd3'⟩
 have hv3:VR W (d6a W) a2j (isl n g) v3:=by
  have hs:=okWide_slice (P:=Tryz.checked.prog) (e:=3) (by kernel_rfl) (hval0 2 22 v3 (by kernel_rfl) (by simp))
  obtain⟨_,_,_,rfl⟩:=hs
  simp[Value.cells] at hv
  subst hv
  exact .d hg
 refine (j5c (j5i c hw pl hok n g) W v1 v2 v3 hc (d7u hrow) hv3).mono fun e W' ⟨he,hb⟩=> ?_
 subst he
 refine⟨_,rfl,[d1,d2,d3],[],_,[],p1++p2++p3,[],hW',?_,?_,?_,hb.frame _,fun h=>by cases h⟩
 ·rw[show Tryz.f7.resultTypes= #[4] from by kernel_rfl]
  exact trodAll_mk1 (shut_bool (by kernel_rfl) true)
 ·rw[hpar]
  have t1:=Below.trod Tryz.laidOut (by kernel_rfl) (of_decide_eq_true (by kernel_rfl)) hd1 hb fun x hx=>hlt x (by simp[hx])
  have t2:=Below.trod Tryz.laidOut (by kernel_rfl) (of_decide_eq_true (by kernel_rfl)) hd2 hb fun x hx=>hlt x (by simp[hx])
  have t3:=Below.trod Tryz.laidOut (by kernel_rfl) (of_decide_eq_true (by kernel_rfl)) hd3 hb fun x hx=>hlt x (by simp[hx])
  have:=trodAll_mk3 t1 t2 t3
  rwa [<-List.append_assoc] at this
 ·exact rfl
theorem vt7:Rows.lookWaysSpec.plain.varTypes Tryz.prog=[]:=by kernel_rfl
theorem j6s:Tryz.prog.readableRec 22=true:=by
 unfold Program.readableRec
 rw[i9n]
 kernel_rfl
theorem j6t:Tryz.prog.loopsFrom 22=false:=by
 unfold Program.loopsFrom
 rw[i9n]
 simp only[List.any_cons,List.any_nil,i7r,pt3,i9n,bk3]
 decide
theorem j7b:Tryz.prog.mapsRec 22=false:=by
 unfold Program.mapsRec
 rw[i9n]
 kernel_rfl
theorem j6u:Tryz.prog.ifacesRec 22=false:=by
 unfold Program.ifacesRec
 rw[i9n]
 kernel_rfl
theorem j6v:Tryz.prog.wideKeysFrom 22=false:=by
 unfold Program.wideKeysFrom
 rw[i9n]
 kernel_rfl
theorem j7a:Tryz.prog.veiledRec 22=false:=by
 unfold Program.veiledRec
 rw[i9n]
 kernel_rfl
theorem h0a:Tryz.prog.wideKeysFrom 34=false:=by
 unfold Program.wideKeysFrom
 rw[e0f]
 kernel_rfl
theorem g3h:Tryz.prog.veiledRec 34=false:=by
 unfold Program.veiledRec
 rw[e0f]
 kernel_rfl
theorem pd7:Tryz.f7.params.all (Tryz.prog.readableRec ·)=true:=by rw[j6r];simp[i7k,f6t,j6s]
theorem rr7:Tryz.f7.resultTypes.all (fun t=>Tryz.prog.readableRec t&&decide (t<Tryz.prog.types.size))=true:=by
 rw[j6q]
 simp only[List.all_toArray,List.all_cons,List.all_nil,rd4,Bool.true_and,Bool.and_true]
 kernel_rfl
theorem joined7:joinedFacts Tryz.prog 7 Tryz.f7 Rows.lookWaysSpec Rows.lookWaysRow=true:=by
 unfold joinedFacts
 rw[pd7,rr7]
 simp only[vt7,j6r,j6q,List.append_nil,List.cons_append,List.nil_append,List.any_cons,List.any_nil,i7k,f6t,j6s,rd4,i9f,g5w,j6t,lp4,i8m,h1r,j7b,i8j,g5a,j6u,if4,i9y,h0a,j6v,wkb,i8w,g3h,j7a,vlb,Bool.or_false,Bool.or_true,Bool.false_or,Bool.true_or,Bool.and_eq_true]
 repeat' apply And.intro
 all_goals first|kernel_rfl|trivial|rfl|exact of_decide_eq_true (by kernel_rfl)
end Wy
theorem look_ways:Rows.LookWaysSaid:=
 OpenClaim.holds_of_wide 7 Tryz.f7 rfl rfl rfl rfl rfl rfl rfl ⟨rfl,rfl,rfl,rfl,rfl⟩ rfl rfl rfl rfl rfl (by kernel_rfl) Tryz.func7 Wy.joined7
  (of_decide_eq_true (by kernel_rfl)) (by unfold Func.isWrapper;first|(rw[if_pos (by decide+kernel)];kernel_rfl)|(rw[if_neg (by decide+kernel)];exact⟨rfl,rfl⟩))
  (fun os started H enc _=>Wy.ways_lifted os started H enc)
end Go.Proofs.YtbglklaocjifhaaGreat
