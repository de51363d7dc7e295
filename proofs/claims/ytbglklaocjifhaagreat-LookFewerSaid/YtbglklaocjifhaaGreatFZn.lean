/- LookFewer: for every case and diagram the statement answers true, and the arguments read as they did. Conditions: none. -/
import Derived.Test.YtbglklaocjifhaaGreatFIc
import Derived.Test.YtbglklaocjifhaaGreatFZm
import Derived.Test.YtbglklaocjifhaaGreatRows
import Derived.Carry
open Go.Proofs.Tryz renaming prog->AA,f11->AB,checked->AE,func11->AH
open Go.Proofs.YtbglklaocjifhaaGreat.Rows renaming lookFewerSpec->AC,lookFewerRow->AG
open Bool renaming false->AD,true->AF
set_option linter.unusedSimpArgs false
set_option linter.unusedVariables false
set_option maxRecDepth 100000
namespace Go.Proofs.YtbglklaocjifhaaGreat
open Go.ChangeShapes Go.WideShapes Go.ChangeAt Go.RowKit Go.Vf Go.Proofs.Tryz.Run
namespace Fw
theorem l2q {w:World}{p:DiR}{v:Value}(h:Row w p.row v.cells.toList):VR w (d6a w) a2j p.av v:=Cs.vr_agg (xs:=p.row) h (by simp[DiR.row])
theorem k8p {f:FuncId}{a b:AV}(h:a0j AA AF f [a,b] (bool AF))(W:World)(u v:Value)(hu:VR W (d6a W) a2j a u)(hv:VR W (d6a W) a2j b v):
 Calls AA f #[u,v] W fun e w'=>e= .returned (.bool AF)/\Below W.heap.size W w':=by
 refine (h.2 W (d6a W) #[u,v] (fun _ h=>h) ⟨rfl,fun i y z hy hz=> ?_⟩).mono fun e w' hR=> ?_
 ·match i,hy,hz with
  |0,hy,hz=>simp at hy hz;subst hy;subst hz;exact hu
  |1,hy,hz=>simp at hy hz;subst hy;subst hz;exact hv
  |i+2,hy,hz=>simp at hy
 ·obtain⟨v,S',h1,h2,_,h3⟩:=hR;cases h2 with
  |d h2=>cases h2;exact⟨h1,h3.os,h3.tape.1,h3.output,h3.size,h3.frame⟩
theorem l3c:AB.params= #[29,27]:=by kernel_rfl
theorem l3d:AB.resultTypes= #[4]:=by kernel_rfl
theorem fewer_lifted (os:Os)(started:os.Started)(H:Type)(enc:TypeId×Value->H):
 ReturnsInHanded {} AE os 11 .any (AC.pre6 enc AA AB AG.domain AD) (AC.post enc AA AB AD AF AD AD):=by
 refine returnsInHanded_of_change (C:=AE) Tryz.own started (by kernel_rfl) AH
  (ChangeSpec.witness6 (enc:=enc) (C:=AE) AD ⟨#[],#[.agg #[.slice none 0 0,.slice none 0 0,.slice none 0 0,.slice none 0 0,.slice none 0 0,.slice none 0 0,.slice none 0 0,.int .i64 0,.slice none 0 0,.slice none 0 0,.slice none 0 0,.slice none 0 0,.int .i64 0],.agg #[.slice none 0 0,.slice none 0 0,.slice none 0 0,.slice none 0 0,.int .i64 0]],[]⟩ 8 (by kernel_rfl) (by kernel_rfl) (by kernel_rfl) (by kernel_rfl)) ?_
 intro W base args ds gs before hval0 hW hcnd _;have hW':=hW;obtain⟨p,q,hA0,hV,rfl,hfz,hnd⟩:=hW;have hA:DataW.TrodAll enc AA W 0 (fun _=>AF) AF AB.params.toList args.toList ds p:=hA0;have hlt: ∀x∈p,x.block<W.heap.size:=fun x hx=>DataW.TrodAll.lt hA0 x hx;have hpar:AB.params.toList=[29,27]:=by kernel_rfl
 rw[hpar] at hA;obtain⟨v1,v3,d1,d3,p1,p3,rfl,rfl,rfl,hd1,hd3⟩:=trodAll_two hA;obtain⟨hg,hq⟩:=trodVars_none hV;subst hg hq;obtain⟨c,hw,hc⟩:=Cs.case_read hd1;obtain⟨fuel3,hd3'⟩:=hd3;obtain⟨m,hm,hrow⟩:=Cs.diag_read hd3';have hd3:DataW.Trod enc AA W 0 (fun _=>AF) AF 27 v3 d3 p3:=⟨fuel3,hd3'⟩;refine (k8p (l1m c hw m hm) W v1 v3 hc (l2q hrow)).mono fun e W' ⟨he,hb⟩=> ?_;subst he;refine⟨_,rfl,[d1,d3],[],_,[],p1++p3,[],hW',?_,?_,?_,hb.frame _,fun h=>by cases h⟩
 ·rw[show AB.resultTypes= #[4] from by kernel_rfl];exact trodAll_mk1 (shut_bool (by kernel_rfl) AF)
 ·rw[hpar];exact trodAll_mk2 (Below.trod Tryz.laidOut (by kernel_rfl) (of_decide_eq_true (by kernel_rfl)) hd1 hb fun x hx=>hlt x (by simp[hx]))
   (Below.trod Tryz.laidOut (by kernel_rfl) (of_decide_eq_true (by kernel_rfl)) hd3 hb fun x hx=>hlt x (by simp[hx]))
 ·exact rfl
theorem l3v:AC.plain.varTypes AA=[]:=by kernel_rfl
theorem l3j:AA.readableRec 27=AF:=by unfold Program.readableRec;rw[i8o];kernel_rfl
theorem l3s:AA.loopsFrom 27=AD:=by unfold Program.loopsFrom;rw[i8o];simp only[List.any_cons,List.any_nil,i8t,i7r,i9v,i9r,i8z,i6x,pt3,pt5,i8o,i9i,i8c,i6y,i9n,i8b,bk3,bk5];decide
theorem l3y:AA.mapsRec 27=AD:=by unfold Program.mapsRec;rw[i8o];kernel_rfl
theorem l3z:AA.ifacesRec 27=AD:=by unfold Program.ifacesRec;rw[i8o];kernel_rfl
theorem l3q:AA.wideKeysFrom 27=AD:=by unfold Program.wideKeysFrom;rw[i8o];kernel_rfl
theorem l3m:AA.veiledRec 27=AD:=by unfold Program.veiledRec;rw[i8o];kernel_rfl
theorem l3o:AB.params.all (AA.readableRec ·)=AF:=by rw[l3c];simp[i7k,l3j]
theorem l3t:AB.resultTypes.all (fun t=>AA.readableRec t&&decide (t<AA.types.size))=AF:=by rw[l3d];simp only[List.all_toArray,List.all_cons,List.all_nil,rd4,Bool.true_and,Bool.and_true];kernel_rfl
theorem joined11:joinedFacts AA 11 AB AC AG=AF:=by
 unfold joinedFacts;rw[l3o,l3t];simp only[l3v,l3c,l3d,List.append_nil,List.cons_append,List.nil_append,List.any_cons,List.any_nil,i7k,l3j,rd4,i9f,l3s,lp4,i8m,l3y,i8j,l3z,if4,i9y,l3q,wkb,i8w,l3m,vlb,Bool.or_false,Bool.or_true,Bool.false_or,Bool.true_or,Bool.and_eq_true]
 repeat' apply And.intro
 all_goals first|kernel_rfl|trivial|rfl|exact of_decide_eq_true (by kernel_rfl)
end Fw
theorem look_fewer:Rows.LookFewerSaid:=
 OpenClaim.holds_of_wide 11 AB rfl rfl rfl rfl rfl rfl rfl ⟨rfl,rfl,rfl,rfl,rfl⟩ rfl rfl rfl rfl rfl (by kernel_rfl) AH Fw.joined11
  (of_decide_eq_true (by kernel_rfl)) (by unfold Func.isWrapper;first|(rw[if_pos (by decide+kernel)];kernel_rfl)|(rw[if_neg (by decide+kernel)];exact⟨rfl,rfl⟩))
  (fun os started H enc _=>Fw.fewer_lifted os started H enc)
end Go.Proofs.YtbglklaocjifhaaGreat
