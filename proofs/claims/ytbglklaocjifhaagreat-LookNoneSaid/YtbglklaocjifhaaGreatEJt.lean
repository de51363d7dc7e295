/- LookNone: for every case the statement answers true, and the argument reads as it did. Conditions: none. -/
import Derived.Test.YtbglklaocjifhaaGreatEIc
import Derived.Test.YtbglklaocjifhaaGreatEJs
import Derived.Test.YtbglklaocjifhaaGreatRows
import Derived.Carry
open Go.Proofs.Tryz renaming f16->AA,prog->AB,checked->AD,func16->AF
open Go.Proofs.YtbglklaocjifhaaGreat.Rows renaming lookNoneSpec->AC,lookNoneRow->AE
set_option linter.unusedSimpArgs false
set_option linter.unusedVariables false
set_option maxRecDepth 100000
namespace Go.Proofs.YtbglklaocjifhaaGreat
open Go.ChangeShapes Go.WideShapes Go.ChangeAt Go.RowKit Go.Vf Go.Proofs.Tryz.Run
theorem k6r (os:Os)(started:os.Started)(H:Type)(enc:TypeId×Value->H):
 ReturnsInHanded {} AD os 16 .any (AC.pre6 enc AB AA AE.domain false) (AC.post enc AB AA false true false false):=by
 refine returnsInHanded_of_change (C:=AD) Tryz.own started (by kernel_rfl) AF
  (ChangeSpec.witness6 (enc:=enc) (C:=AD) false ⟨#[],#[.agg #[.slice none 0 0,.slice none 0 0,.slice none 0 0,.slice none 0 0,.slice none 0 0,.slice none 0 0,.slice none 0 0,.int .i64 0,.slice none 0 0,.slice none 0 0,.slice none 0 0,.slice none 0 0,.int .i64 0]],[]⟩ 8 (by kernel_rfl) (by kernel_rfl) (by kernel_rfl) (by kernel_rfl)) ?_
 intro W base args ds gs before hval0 hW hcnd _;have hW':=hW;obtain⟨p,q,hA0,hV,rfl,hfz,hnd⟩:=hW;have hA:DataW.TrodAll enc AB W 0 (fun _=>true) true AA.params.toList args.toList ds p:=hA0;have hlt: ∀x∈p,x.block<W.heap.size:=fun x hx=>DataW.TrodAll.lt hA0 x hx;rw[show AA.params.toList=[29] from by kernel_rfl] at hA;obtain⟨v,d,rfl,rfl,hd⟩:=trodAll_one hA;obtain⟨hg,hq⟩:=trodVars_none hV;subst hg hq;obtain⟨c,hw,hc⟩:=Cs.case_read hd;refine (Cs.one_calls (k6s c hw) W v hc).mono fun e W' ⟨he,hb⟩=> ?_;subst he;refine⟨_,rfl,[d],[],_,[],p,[],hW',?_,?_,?_,hb.frame _,fun h=>by cases h⟩
 ·rw[show AA.resultTypes= #[4] from by kernel_rfl];exact trodAll_mk1 (shut_bool (by kernel_rfl) true)
 ·rw[show AA.params.toList=[29] from by kernel_rfl];exact trodAll_mk1 (Below.trod Tryz.laidOut (by kernel_rfl) (of_decide_eq_true (by kernel_rfl)) hd hb hlt)
 ·exact rfl
theorem k6x:AA.params= #[29]:=by kernel_rfl
theorem k6w:AA.resultTypes= #[4]:=by kernel_rfl
theorem k7b:AC.plain.varTypes AB=[]:=by kernel_rfl
theorem k7c:AA.params.all (AB.readableRec ·)=true:=by rw[k6x];simp[i7k]
theorem k7a:AA.resultTypes.all (fun t=>AB.readableRec t&&decide (t<AB.types.size))=true:=by rw[k6w];simp only[List.all_toArray,List.all_cons,List.all_nil,rd4,Bool.true_and,Bool.and_true];kernel_rfl
theorem k6v:joinedFacts AB 16 AA AC AE=true:=by
 unfold joinedFacts;rw[k7c,k7a];simp only[k7b,k6x,k6w,List.append_nil,List.cons_append,List.nil_append,List.any_cons,List.any_nil,i7k,rd4,i9f,lp4,i8m,i8j,if4,i9y,wkb,i8w,vlb,Bool.or_false,Bool.and_eq_true]
 repeat' apply And.intro
 all_goals first|kernel_rfl|trivial|rfl|exact of_decide_eq_true (by kernel_rfl)
theorem look_none:Rows.LookNoneSaid:=
 OpenClaim.holds_of_wide 16 AA rfl rfl rfl rfl rfl rfl rfl ⟨rfl,rfl,rfl,rfl,rfl⟩ rfl rfl rfl rfl rfl (by kernel_rfl) AF k6v
  (of_decide_eq_true (by kernel_rfl)) (by unfold Func.isWrapper;first|(rw[if_pos (by decide+kernel)];kernel_rfl)|(rw[if_neg (by decide+kernel)];exact⟨rfl,rfl⟩))
  (fun os started H enc _=>k6r os started H enc)
end Go.Proofs.YtbglklaocjifhaaGreat
