/- LookApart: for every case the statement answers true, and the argument reads as it did. Conditions: none. -/
import Derived.Test.YtbglklaocjifhaaGreatALr
import Derived.Test.YtbglklaocjifhaaGreatANa
import Derived.Test.YtbglklaocjifhaaGreatANb
import Derived.Test.YtbglklaocjifhaaGreatANc
import Derived.Test.YtbglklaocjifhaaGreatAQf
import Derived.Test.YtbglklaocjifhaaGreatAHy
import Derived.Test.YtbglklaocjifhaaGreatAIa
import Derived.Test.YtbglklaocjifhaaGreatAIc
import Derived.Test.YtbglklaocjifhaaGreatRows
import Derived.Carry
set_option linter.unusedSimpArgs false
set_option linter.unusedVariables false
set_option maxRecDepth 100000
namespace Go.Proofs.YtbglklaocjifhaaGreat
open Go.ChangeShapes Go.WideShapes Go.ChangeAt Go.RowKit Go.Vf Go.Proofs.Tryz.Run
theorem h7z (os:Os)(started:os.Started)(H:Type)(enc:TypeId×Value->H):
 ReturnsInHanded {} Tryz.checked os 5 .any (Rows.lookApartSpec.pre6 enc Tryz.prog Tryz.f5 Rows.lookApartRow.domain false) (Rows.lookApartSpec.post enc Tryz.prog Tryz.f5 false true false false):=by
 refine returnsInHanded_of_change (C:=Tryz.checked) Tryz.own started (by kernel_rfl) Tryz.func5
  (ChangeSpec.witness6 (enc:=enc) (C:=Tryz.checked) false ⟨#[],#[.agg #[.slice none 0 0,.slice none 0 0,.slice none 0 0,.slice none 0 0,.slice none 0 0,.slice none 0 0,.slice none 0 0,.int .i64 0,.slice none 0 0,.slice none 0 0,.slice none 0 0,.slice none 0 0,.int .i64 0]],[]⟩ 8 (by kernel_rfl) (by kernel_rfl) (by kernel_rfl) (by kernel_rfl)) ?_
 intro W base args ds gs before hval0 hW hcnd _
 have hW':=hW
 obtain⟨p,q,hA0,hV,rfl,hfz,hnd⟩:=hW
 have hA:DataW.TrodAll enc Tryz.prog W 0 (fun _=>true) true Tryz.f5.params.toList args.toList ds p:=hA0
 have hlt: ∀x∈p,x.block<W.heap.size:=fun x hx=>DataW.TrodAll.lt hA0 x hx
 rw[show Tryz.f5.params.toList=[29] from by kernel_rfl] at hA
 obtain⟨v,d,rfl,rfl,hd⟩:=trodAll_one hA
 obtain⟨hg,hq⟩:=trodVars_none hV
 subst hg hq
 obtain⟨c,hw,hc⟩:=Cs.case_read hd
 refine (Cs.one_calls (h9w c hw) W v hc).mono fun e W' ⟨he,hb⟩=> ?_
 subst he
 refine⟨_,rfl,[d],[],_,[],p,[],hW',?_,?_,?_,hb.frame _,fun h=>by cases h⟩
 ·rw[show Tryz.f5.resultTypes= #[4] from by kernel_rfl]
  exact trodAll_mk1 (shut_bool (by kernel_rfl) true)
 ·rw[show Tryz.f5.params.toList=[29] from by kernel_rfl]
  exact trodAll_mk1 (Below.trod Tryz.laidOut (by kernel_rfl) (of_decide_eq_true (by kernel_rfl)) hd hb hlt)
 ·exact rfl
theorem i7j:Tryz.f5.params= #[29]:=by kernel_rfl
theorem i7f:Tryz.f5.resultTypes= #[4]:=by kernel_rfl
theorem vt5:Rows.lookApartSpec.plain.varTypes Tryz.prog=[]:=by kernel_rfl
theorem pd5:Tryz.f5.params.all (Tryz.prog.readableRec ·)=true:=by rw[i7j];simp[i7k]
theorem rr5:Tryz.f5.resultTypes.all (fun t=>Tryz.prog.readableRec t&&decide (t<Tryz.prog.types.size))=true:=by
 rw[i7f]
 simp only[List.all_toArray,List.all_cons,List.all_nil,rd4,Bool.true_and,Bool.and_true]
 kernel_rfl
theorem i4m:joinedFacts Tryz.prog 5 Tryz.f5 Rows.lookApartSpec Rows.lookApartRow=true:=by
 unfold joinedFacts
 rw[pd5,rr5]
 simp only[vt5,i7j,i7f,List.append_nil,List.cons_append,List.nil_append,List.any_cons,List.any_nil,i7k,rd4,i9f,lp4,i8m,i8j,if4,i9y,wkb,i8w,vlb,Bool.or_false,Bool.and_eq_true]
 repeat' apply And.intro
 all_goals first|kernel_rfl|trivial|rfl|exact of_decide_eq_true (by kernel_rfl)
theorem look_apart:Rows.LookApartSaid:=
 OpenClaim.holds_of_wide 5 Tryz.f5 rfl rfl rfl rfl rfl rfl rfl ⟨rfl,rfl,rfl,rfl,rfl⟩ rfl rfl rfl rfl rfl (by kernel_rfl) Tryz.func5 i4m
  (of_decide_eq_true (by kernel_rfl)) (by unfold Func.isWrapper;first|(rw[if_pos (by decide+kernel)];kernel_rfl)|(rw[if_neg (by decide+kernel)];exact⟨rfl,rfl⟩))
  (fun os started H enc _=>h7z os started H enc)
end Go.Proofs.YtbglklaocjifhaaGreat
