/- LookTurned: for every case and number the statement answers true, and the argument reads as it did. Conditions: none. -/
import Derived.Test.YtbglklaocjifhaaGreatFIc
import Derived.Test.YtbglklaocjifhaaGreatFUf
import Derived.Test.YtbglklaocjifhaaGreatRows
import Derived.Carry
open Go.Proofs.Tryz renaming prog->AA,f13->AB,checked->AD,func13->AH
open Go.Proofs.YtbglklaocjifhaaGreat.Rows renaming lookTurnedSpec->AC,lookTurnedRow->AG
open Bool renaming false->AE,true->AF
set_option linter.unusedSimpArgs false
set_option linter.unusedVariables false
set_option maxRecDepth 100000
namespace Go.Proofs.YtbglklaocjifhaaGreat
open Go.ChangeShapes Go.WideShapes Go.ChangeAt Go.RowKit Go.Vf Go.Proofs.Tryz.Run
theorem Ck.u5:AA.underlying 5=some (.int .u8):=by kernel_rfl
theorem Ck.two_calls {f:FuncId}{a b:AV}(h:a0j AA AF f [a,b] (bool AF))(W:World)(u v:Value)(hu:VR W (d6a W) a2j a u)(hv:VR W (d6a W) a2j b v):
 Calls AA f #[u,v] W fun e w'=>e= .returned (.bool AF)/\Below W.heap.size W w':=by
 refine (h.2 W (d6a W) #[u,v] (fun _ h=>h) ⟨rfl,fun i y z hy hz=> ?_⟩).mono fun e w' hR=> ?_
 ·match i,hy,hz with
  |0,hy,hz=>simp at hy hz;subst hy;subst hz;exact hu
  |1,hy,hz=>simp at hy hz;subst hy;subst hz;exact hv
  |i+2,hy,hz=>simp at hy
 ·obtain⟨v,S',h1,h2,_,h3⟩:=hR;cases h2 with
  |d h2=>cases h2;exact⟨h1,h3.os,h3.tape.1,h3.output,h3.size,h3.frame⟩
theorem l4c (os:Os)(started:os.Started)(H:Type)(enc:TypeId×Value->H):
 ReturnsInHanded {} AD os 13 .any (AC.pre6 enc AA AB AG.domain AE) (AC.post enc AA AB AE AF AE AE):=by
 refine returnsInHanded_of_change (C:=AD) Tryz.own started (by kernel_rfl) AH
  (ChangeSpec.witness6 (enc:=enc) (C:=AD) AE ⟨#[],#[.agg #[.slice none 0 0,.slice none 0 0,.slice none 0 0,.slice none 0 0,.slice none 0 0,.slice none 0 0,.slice none 0 0,.int .i64 0,.slice none 0 0,.slice none 0 0,.slice none 0 0,.slice none 0 0,.int .i64 0],.int .u8 0],[]⟩ 8 (by kernel_rfl) (by kernel_rfl) (by kernel_rfl) (by kernel_rfl)) ?_
 intro W base args ds gs before hval0 hW hcnd _;have hW':=hW;obtain⟨p,q,hA0,hV,rfl,hfz,hnd⟩:=hW;have hA:DataW.TrodAll enc AA W 0 (fun _=>AF) AF AB.params.toList args.toList ds p:=hA0;have hlt: ∀x∈p,x.block<W.heap.size:=fun x hx=>DataW.TrodAll.lt hA0 x hx;rw[show AB.params.toList=[29,5] from by kernel_rfl] at hA;obtain⟨v,v',d,d',p1,p2,rfl,rfl,rfl,hd,hd'⟩:=trodAll_two hA;obtain⟨hg,hq⟩:=trodVars_none hV;subst hg hq;have hv1:=hval0 1 5 v' (by kernel_rfl) (by simp);obtain⟨c,hw,hc⟩:=Cs.case_read hd;obtain⟨fu,hd2⟩:=hd';obtain⟨z,hr,hz⟩:=b5t Ck.u5 hd2;have hd':DataW.Trod enc AA W 0 (fun _=>AF) AF 5 v' d' p2:=⟨fu,hd2⟩;obtain⟨m,rfl⟩:=okWide_int (P:=AD.prog) (t:=5) (k:= .u8) (by kernel_rfl) hv1;have hzm:m=z:=by simpa [Value.cells] using hz
 subst hzm;refine (Ck.two_calls (l4h c hw m ⟨hr.1,hr.2⟩) W v _ hc (.d (.int _ _))).mono fun e W' ⟨he,hb⟩=> ?_;subst he;refine⟨_,rfl,[d,d'],[],_,[],p1++p2,[],hW',?_,?_,?_,hb.frame _,fun h=>by cases h⟩
 ·rw[show AB.resultTypes= #[4] from by kernel_rfl];exact trodAll_mk1 (shut_bool (by kernel_rfl) AF)
 ·rw[show AB.params.toList=[29,5] from by kernel_rfl];exact trodAll_mk2 (Below.trod Tryz.laidOut (by kernel_rfl) (of_decide_eq_true (by kernel_rfl)) hd hb fun x hx=>hlt x (by simp[hx]))
   (Below.trod Tryz.laidOut (by kernel_rfl) (of_decide_eq_true (by kernel_rfl)) hd' hb fun x hx=>hlt x (by simp[hx]))
 ·exact rfl
theorem l4r:AB.params= #[29,5]:=by kernel_rfl
theorem l4q:AB.resultTypes= #[4]:=by kernel_rfl
theorem l5j:AC.plain.varTypes AA=[]:=by kernel_rfl
theorem Ck.rd5:AA.readableRec 5=AF:=by unfold Program.readableRec;rw[bk5];kernel_rfl
theorem Ck.lp5:AA.loopsFrom 5=AE:=by unfold Program.loopsFrom;rw[bk5];simp only[List.any_cons,List.any_nil,pt5,bk5];decide
theorem Ck.mp5:AA.mapsRec 5=AE:=by unfold Program.mapsRec;rw[bk5];kernel_rfl
theorem Ck.if5:AA.ifacesRec 5=AE:=by unfold Program.ifacesRec;rw[bk5];kernel_rfl
theorem Ck.wk5:AA.wideKeysFrom 5=AE:=by unfold Program.wideKeysFrom;rw[bk5];kernel_rfl
theorem Ck.vl5:AA.veiledRec 5=AE:=by unfold Program.veiledRec;rw[bk5];kernel_rfl
theorem l5a:AB.params.all (AA.readableRec ·)=AF:=by rw[l4r];simp[i7k,Ck.rd5]
theorem l5c:AB.resultTypes.all (fun t=>AA.readableRec t&&decide (t<AA.types.size))=AF:=by rw[l4q];simp only[List.all_toArray,List.all_cons,List.all_nil,rd4,Bool.true_and,Bool.and_true];kernel_rfl
theorem l4m:joinedFacts AA 13 AB AC AG=AF:=by
 unfold joinedFacts;rw[l5a,l5c];simp only[l5j,l4r,l4q,List.append_nil,List.cons_append,List.nil_append,List.any_cons,List.any_nil,i7k,Ck.rd5,rd4,i9f,Ck.lp5,lp4,i8m,Ck.mp5,i8j,Ck.if5,if4,i9y,Ck.wk5,wkb,i8w,Ck.vl5,vlb,Bool.or_false,Bool.and_eq_true]
 repeat' apply And.intro
 all_goals first|kernel_rfl|trivial|rfl|exact of_decide_eq_true (by kernel_rfl)
theorem look_turned:Rows.LookTurnedSaid:=
 OpenClaim.holds_of_wide 13 AB rfl rfl rfl rfl rfl rfl rfl ⟨rfl,rfl,rfl,rfl,rfl⟩ rfl rfl rfl rfl rfl (by kernel_rfl) AH l4m
  (of_decide_eq_true (by kernel_rfl)) (by unfold Func.isWrapper;first|(rw[if_pos (by decide+kernel)];kernel_rfl)|(rw[if_neg (by decide+kernel)];exact⟨rfl,rfl⟩))
  (fun os started H enc _=>l4c os started H enc)
end Go.Proofs.YtbglklaocjifhaaGreat
