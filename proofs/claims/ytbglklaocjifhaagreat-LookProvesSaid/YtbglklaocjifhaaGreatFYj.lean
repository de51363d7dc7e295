/- LookProves: for every case and plan the statement answers true, and the arguments read as they did. Conditions: none. -/
import Derived.Test.YtbglklaocjifhaaGreatFIc
import Derived.Test.YtbglklaocjifhaaGreatFYi
import Derived.Test.YtbglklaocjifhaaGreatRows
import Derived.Carry
import Derived.SizedLaws
open Go.Proofs.Tryz renaming prog->AA,f8->AC,checked->AD,func8->AH
open Go.Proofs.YtbglklaocjifhaaGreat.Rows renaming lookProvesSpec->AB,lookProvesRow->AF
open Bool renaming true->AE,false->AG
set_option linter.unusedSimpArgs false
set_option linter.unusedVariables false
set_option maxRecDepth 100000
namespace Go.Proofs.YtbglklaocjifhaaGreat
open Go.ChangeShapes Go.WideShapes Go.ChangeAt Go.RowKit Go.Vf Go.Proofs.Tryz.Run
namespace Pv
theorem d7u {w:World}{p:PlR}{v:Value}(h:Row w p.row v.cells.toList):VR w (d6a w) a2j p.av v:=by rw[PlR.rowE] at h;rw[PlR.avE];exact Cs.vr_agg (xs:=[_,_,_]) h (by simp)
theorem k8p {f:FuncId}{a b:AV}(h:a0j AA AE f [a,b] (bool AE))(W:World)(u v:Value)(hu:VR W (d6a W) a2j a u)(hv:VR W (d6a W) a2j b v):
 Calls AA f #[u,v] W fun e w'=>e= .returned (.bool AE)/\Below W.heap.size W w':=by
 refine (h.2 W (d6a W) #[u,v] (fun _ h=>h) ⟨rfl,fun i y z hy hz=> ?_⟩).mono fun e w' hR=> ?_
 ·match i,hy,hz with
  |0,hy,hz=>simp at hy hz;subst hy;subst hz;exact hu
  |1,hy,hz=>simp at hy hz;subst hy;subst hz;exact hv
  |i+2,hy,hz=>simp at hy
 ·obtain⟨v,S',h1,h2,_,h3⟩:=hR;cases h2 with
  |d h2=>cases h2;exact⟨h1,h3.os,h3.tape.1,h3.output,h3.size,h3.frame⟩
theorem k8v:AC.params= #[29,34]:=by kernel_rfl
theorem k8u:AC.resultTypes= #[4]:=by kernel_rfl
theorem proves_lifted (os:Os)(started:os.Started)(H:Type)(enc:TypeId×Value->H):
 ReturnsInHanded {} AD os 8 .any (AB.pre6 enc AA AC AF.domain AG) (AB.post enc AA AC AG AE AG AG):=by
 refine returnsInHanded_of_change_sized (C:=AD) Tryz.own started (by kernel_rfl) AH
  (ChangeSpec.witness6 (enc:=enc) (C:=AD) AG ⟨#[],#[.agg #[.slice none 0 0,.slice none 0 0,.slice none 0 0,.slice none 0 0,.slice none 0 0,.slice none 0 0,.slice none 0 0,.int .i64 0,.slice none 0 0,.slice none 0 0,.slice none 0 0,.slice none 0 0,.int .i64 0],.agg #[.int .i64 0,.slice none 0 0,.slice none 0 0]],[]⟩ 8 (by kernel_rfl) (by kernel_rfl) (by kernel_rfl) (by kernel_rfl)) ?_
 intro W base args ds gs before hval0 hW hcnd hsz _;have hW':=hW;obtain⟨p,q,hA0,hV,rfl,hfz,hnd⟩:=hW;have hA:DataW.TrodAll enc AA W 0 (fun _=>AE) AE AC.params.toList args.toList ds p:=hA0;have hlt: ∀x∈p,x.block<W.heap.size:=fun x hx=>DataW.TrodAll.lt hA0 x hx;have hpar:AC.params.toList=[29,34]:=by kernel_rfl
 rw[hpar] at hA;obtain⟨v1,v2,d1,d2,p1,p2,rfl,rfl,rfl,hd1,hd2⟩:=trodAll_two hA;obtain⟨hg,hq⟩:=trodVars_none hV;subst hg hq;have hws: ∀k,k∈d2.weights AA 34->k<=140737488355328:=fun k hk=>by
  have h1:=List.all_eq_true.1 hsz k (by
   rw[hpar];show k∈DataW.weightsEach AA (29::34::_) (d1::d2::_);simp only[DataW.weightsEach,List.mem_append];exact .inr (.inl hk))
  have h2:k<=reachBytes:=of_decide_eq_true h1;exact Nat.le_trans h2 (by decide)
 obtain⟨c,hw,hc⟩:=Cs.case_read hd1;obtain⟨fuel,hd2'⟩:=hd2;obtain⟨pl,hok,hrow⟩:=c9x fuel _ _ hd2' hws;have hd2:DataW.Trod enc AA W 0 (fun _=>AE) AE 34 v2 d2 p2:=⟨fuel,hd2'⟩;refine (k8p (k8h c hw pl hok) W v1 v2 hc (d7u hrow)).mono fun e W' ⟨he,hb⟩=> ?_;subst he;refine⟨_,rfl,[d1,d2],[],_,[],p1++p2,[],hW',?_,?_,?_,hb.frame _,fun h=>by cases h⟩
 ·rw[show AC.resultTypes= #[4] from by kernel_rfl];exact trodAll_mk1 (shut_bool (by kernel_rfl) AE)
 ·rw[hpar];exact trodAll_mk2 (Below.trod Tryz.laidOut (by kernel_rfl) (of_decide_eq_true (by kernel_rfl)) hd1 hb fun x hx=>hlt x (by simp[hx]))
   (Below.trod Tryz.laidOut (by kernel_rfl) (of_decide_eq_true (by kernel_rfl)) hd2 hb fun x hx=>hlt x (by simp[hx]))
 ·exact rfl
theorem vt8:AB.plain.varTypes AA=[]:=by kernel_rfl
theorem h0a:AA.wideKeysFrom 34=AG:=by unfold Program.wideKeysFrom;rw[e0f];kernel_rfl
theorem g3h:AA.veiledRec 34=AG:=by unfold Program.veiledRec;rw[e0f];kernel_rfl
theorem pd8:AC.params.all (AA.readableRec ·)=AE:=by rw[k8v];simp[i7k,f6t]
theorem rr8:AC.resultTypes.all (fun t=>AA.readableRec t&&decide (t<AA.types.size))=AE:=by rw[k8u];simp only[List.all_toArray,List.all_cons,List.all_nil,rd4,Bool.true_and,Bool.and_true];kernel_rfl
theorem joined8:joinedFacts AA 8 AC AB AF=AE:=by
 unfold joinedFacts;rw[pd8,rr8];simp only[vt8,k8v,k8u,List.append_nil,List.cons_append,List.nil_append,List.any_cons,List.any_nil,i7k,f6t,rd4,i9f,g5w,lp4,i8m,h1r,i8j,g5a,if4,i9y,h0a,wkb,i8w,g3h,vlb,Bool.or_false,Bool.or_true,Bool.false_or,Bool.true_or,Bool.and_eq_true]
 repeat' apply And.intro
 all_goals first|kernel_rfl|trivial|rfl|exact of_decide_eq_true (by kernel_rfl)
end Pv
theorem look_proves:Rows.LookProvesSaid:=
 OpenClaim.holds_of_wide 8 AC rfl rfl rfl rfl rfl rfl rfl ⟨rfl,rfl,rfl,rfl,rfl⟩ rfl rfl rfl rfl rfl (by kernel_rfl) AH Pv.joined8
  (of_decide_eq_true (by kernel_rfl)) (by unfold Func.isWrapper;first|(rw[if_pos (by decide+kernel)];kernel_rfl)|(rw[if_neg (by decide+kernel)];exact⟨rfl,rfl⟩))
  (fun os started H enc _=>Pv.proves_lifted os started H enc)
end Go.Proofs.YtbglklaocjifhaaGreat
