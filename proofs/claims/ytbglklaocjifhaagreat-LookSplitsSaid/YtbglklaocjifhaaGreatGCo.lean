/- LookSplits: for every case and number the statement answers true, and the argument reads as it did. Conditions: none. -/
import Derived.Test.YtbglklaocjifhaaGreatGCn
import Derived.Test.YtbglklaocjifhaaGreatGIa
import Derived.Test.YtbglklaocjifhaaGreatGIc
import Derived.Test.YtbglklaocjifhaaGreatGCq
import Derived.Test.YtbglklaocjifhaaGreatRows
import Derived.Carry
open Go.Proofs.Tryz renaming prog->AA,f17->AB,checked->AD,func17->AH
open Go.Proofs.YtbglklaocjifhaaGreat.Rows renaming lookSplitsSpec->AC,lookSplitsRow->AG
open Bool renaming false->AE,true->AF
set_option linter.unusedSimpArgs false
set_option linter.unusedVariables false
set_option maxRecDepth 100000
namespace Go.Proofs.YtbglklaocjifhaaGreat
open Go.ChangeShapes Go.WideShapes Go.ChangeAt Go.RowKit Go.Vf Go.Proofs.Tryz.Run
theorem Ck.u5:AA.underlying 5=some (.int .u8):=by kernel_rfl
theorem Ck.XB {f:FuncId}{a b:AV}(h:au AA AF f [a,b] (bool AF))(W:World)(u v:Value)(hu:VR W (Gw W) my a u)(hv:VR W (Gw W) my b v):
 Calls AA f #[u,v] W fun e w'=>e= .returned (.bool AF)/\Below W.heap.size W w':=by
 refine (h.2 W (Gw W) #[u,v] (fun _ h=>h) ⟨rfl,fun i y z hy hz=> ?_⟩).mono fun e w' hR=> ?_
 ·match i,hy,hz with
  |0,hy,hz=>simp at hy hz;subst hy;subst hz;exact hu
  |1,hy,hz=>simp at hy hz;subst hy;subst hz;exact hv
  |i+2,hy,hz=>simp at hy
 ·obtain⟨v,S',h1,h2,_,h3⟩:=hR;cases h2 with
  |d h2=>cases h2;exact⟨h1,h3.os,h3.tape.1,h3.output,h3.size,h3.frame⟩
theorem l6r (os:Os)(started:os.Started)(H:Type)(enc:TypeId×Value->H):
 ReturnsInHanded {} AD os 17 .any (AC.pre6 enc AA AB AG.domain AE) (AC.post enc AA AB AE AF AE AE):=by
 refine returnsInHanded_of_change (C:=AD) Tryz.own started (by kernel_rfl) AH
  (ChangeSpec.witness6 (enc:=enc) (C:=AD) AE ⟨#[],#[.agg #[.slice none 0 0,.slice none 0 0,.slice none 0 0,.slice none 0 0,.slice none 0 0,.slice none 0 0,.slice none 0 0,.int .i64 0,.slice none 0 0,.slice none 0 0,.slice none 0 0,.slice none 0 0,.int .i64 0],.int .u8 0],[]⟩ 8 (by kernel_rfl) (by kernel_rfl) (by kernel_rfl) (by kernel_rfl)) ?_
 intro W base args ds gs before Qr hW hcnd _;have hW':=hW;obtain⟨p,q,hA0,hV,rfl,PK,im⟩:=hW;have hA:DataW.TrodAll enc AA W 0 (fun _=>AF) AF AB.params.toList args.toList ds p:=hA0;have hlt: ∀x∈p,x.block<W.heap.size:=fun x hx=>DataW.TrodAll.lt hA0 x hx;rw[show AB.params.toList=[29,5] from by kernel_rfl] at hA;obtain⟨v,v',d,d',p1,p2,rfl,rfl,rfl,hd,GE⟩:=trodAll_two hA;obtain⟨hg,hq⟩:=trodVars_none hV;subst hg hq;have sq:=Qr 1 5 v' (by kernel_rfl) (by simp);obtain⟨c,hw,hc⟩:=Cs.Xt hd;obtain⟨fu,Nd⟩:=GE;obtain⟨z,hr,hz⟩:=Nt Ck.u5 Nd;have GE:DataW.Trod enc AA W 0 (fun _=>AF) AF 5 v' d' p2:=⟨fu,Nd⟩;obtain⟨m,rfl⟩:=okWide_int (P:=AD.prog) (t:=5) (k:= .u8) (by kernel_rfl) sq;have hzm:m=z:=by simpa [Value.cells] using hz
 subst hzm;refine (Ck.XB (l6z c hw m ⟨hr.1,hr.2⟩) W v _ hc (.d (.int _ _))).mono fun e W' ⟨he,hb⟩=> ?_;subst he;refine⟨_,rfl,[d,d'],[],_,[],p1++p2,[],hW',?_,?_,?_,hb.frame _,fun h=>by cases h⟩
 ·rw[show AB.resultTypes= #[4] from by kernel_rfl];exact trodAll_mk1 (shut_bool (by kernel_rfl) AF)
 ·rw[show AB.params.toList=[29,5] from by kernel_rfl];exact trodAll_mk2 (Below.trod Tryz.laidOut (by kernel_rfl) (of_decide_eq_true (by kernel_rfl)) hd hb fun x hx=>hlt x (by simp[hx]))
   (Below.trod Tryz.laidOut (by kernel_rfl) (of_decide_eq_true (by kernel_rfl)) GE hb fun x hx=>hlt x (by simp[hx]))
 ·exact rfl
theorem m1f:AB.params= #[29,5]:=by kernel_rfl
theorem m1e:AB.resultTypes= #[4]:=by kernel_rfl
theorem m4k:AC.plain.varTypes AA=[]:=by kernel_rfl
theorem Ck.ZS:AA.readableRec 5=AF:=by unfold Program.readableRec;rw[Yk];kernel_rfl
theorem Ck.z_:AA.loopsFrom 5=AE:=by unfold Program.loopsFrom;rw[Yk];simp only[List.any_cons,List.any_nil,ZQ,Yk];decide
theorem Ck.B_:AA.mapsRec 5=AE:=by unfold Program.mapsRec;rw[Yk];kernel_rfl
theorem Ck.u_:AA.ifacesRec 5=AE:=by unfold Program.ifacesRec;rw[Yk];kernel_rfl
theorem Ck.J_:AA.wideKeysFrom 5=AE:=by unfold Program.wideKeysFrom;rw[Yk];kernel_rfl
theorem Ck.H_:AA.veiledRec 5=AE:=by unfold Program.veiledRec;rw[Yk];kernel_rfl
theorem m4r:AB.params.all (AA.readableRec ·)=AF:=by rw[m1f];simp[i7k,Ck.ZS]
theorem m3s:AB.resultTypes.all (fun t=>AA.readableRec t&&decide (t<AA.types.size))=AF:=by rw[m1e];simp only[List.all_toArray,List.all_cons,List.all_nil,ZR,Bool.true_and,Bool.and_true];kernel_rfl
theorem l9t:joinedFacts AA 17 AB AC AG=AF:=by
 unfold joinedFacts;rw[m4r,m3s];simp only[m4k,m1f,m1e,List.append_nil,List.cons_append,List.nil_append,List.any_cons,List.any_nil,i7k,Ck.ZS,ZR,i9f,Ck.z_,y_,i8m,Ck.B_,i8j,Ck.u_,t_,i9y,Ck.J_,K_,i8w,Ck.H_,I_,Bool.or_false,Bool.and_eq_true]
 repeat' apply And.intro
 all_goals first|with_reducible exact m1q|with_reducible exact m2t|with_reducible exact m1z|with_reducible exact m1v|with_reducible exact m3p|with_reducible exact m4t|kernel_rfl|trivial|rfl|exact of_decide_eq_true (by kernel_rfl)
theorem look_splits:Rows.LookSplitsSaid:=
 OpenClaim.holds_of_wide 17 AB rfl rfl rfl rfl rfl rfl rfl ⟨rfl,rfl,rfl,rfl,rfl⟩ rfl rfl rfl rfl rfl (by kernel_rfl) AH l9t
  (of_decide_eq_true (by kernel_rfl)) (by unfold Func.isWrapper;first|(rw[if_pos (by decide+kernel)];kernel_rfl)|(rw[if_neg (by decide+kernel)];exact⟨rfl,rfl⟩))
  (fun os started H enc _=>l6r os started H enc)
end Go.Proofs.YtbglklaocjifhaaGreat
