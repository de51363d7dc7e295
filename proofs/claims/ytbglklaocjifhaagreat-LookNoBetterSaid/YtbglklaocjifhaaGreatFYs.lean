/- LookNoBetter: for every case and list of words the statement answers true, and the arguments read as they did. Conditions: none. -/
import Derived.Test.YtbglklaocjifhaaGreatFIc
import Derived.Test.YtbglklaocjifhaaGreatFYr
import Derived.Test.YtbglklaocjifhaaGreatRows
import Derived.Carry
open Go.Proofs.Tryz renaming prog->AA,f10->AB,checked->AD,func10->AH
open Go.Proofs.YtbglklaocjifhaaGreat.Rows renaming lookNoBetterSpec->AC,lookNoBetterRow->AG
open Bool renaming false->AE,true->AF
set_option linter.unusedSimpArgs false
set_option linter.unusedVariables false
set_option maxRecDepth 100000
namespace Go.Proofs.YtbglklaocjifhaaGreat
open Go.ChangeShapes Go.WideShapes Go.ChangeAt Go.RowKit Go.Vf Go.Proofs.Tryz.Run
namespace Nb
theorem u79:AA.underlying 79=some (.slice 129):=by kernel_rfl
theorem k9y:AA.underlying 129=some (.int .u16):=by kernel_rfl
theorem k9z:AA.cellsOf 129=1:=by kernel_rfl
theorem k9m {H:Type}{enc:TypeId×Value->H}{w:World}{spare:Nat->Bool}{held:Bool}{fuel:Nat}{cs:List Value}{x:DataW H×List MemPlace}(h:DataW.trod enc AA w 0 spare held fuel 79 cs=some x):
 ∃(v:Value) (n:Nat) (g:Nat->Int),cs=[v]/\DVR w (d6a w) (.sl 1 n fun i=>[.int .u16 (.v (g i))]) v/\ ∀i,i<n->0<=g i/\g i<=65535:=by
 obtain⟨v,n,f,h1,h2,h3⟩:=h5b u79 h (α:=Int) (fun z=>[.int .u16 (.v z)]) (fun z=>0<=z/\z<=65535) k9z (by omega) fun n cs y hl hy=>by obtain⟨z,hz,rfl⟩:=b5t k9y hy;exact⟨z,hz,d0e (.int _ _)⟩
 exact⟨v,n,f,h1,h2,h3⟩
theorem k8p {f:FuncId}{a b:AV}(h:a0j AA AF f [a,b] (bool AF))(W:World)(u v:Value)(hu:VR W (d6a W) a2j a u)(hv:VR W (d6a W) a2j b v):
 Calls AA f #[u,v] W fun e w'=>e= .returned (.bool AF)/\Below W.heap.size W w':=by
 refine (h.2 W (d6a W) #[u,v] (fun _ h=>h) ⟨rfl,fun i y z hy hz=> ?_⟩).mono fun e w' hR=> ?_
 ·match i,hy,hz with
  |0,hy,hz=>simp at hy hz;subst hy;subst hz;exact hu
  |1,hy,hz=>simp at hy hz;subst hy;subst hz;exact hv
  |i+2,hy,hz=>simp at hy
 ·obtain⟨v,S',h1,h2,_,h3⟩:=hR;cases h2 with
  |d h2=>cases h2;exact⟨h1,h3.os,h3.tape.1,h3.output,h3.size,h3.frame⟩
theorem k9q:AB.params= #[29,79]:=by kernel_rfl
theorem k9s:AB.resultTypes= #[4]:=by kernel_rfl
theorem nobetter_lifted (os:Os)(started:os.Started)(H:Type)(enc:TypeId×Value->H):
 ReturnsInHanded {} AD os 10 .any (AC.pre6 enc AA AB AG.domain AE) (AC.post enc AA AB AE AF AE AE):=by
 refine returnsInHanded_of_change (C:=AD) Tryz.own started (by kernel_rfl) AH
  (ChangeSpec.witness6 (enc:=enc) (C:=AD) AE ⟨#[],#[.agg #[.slice none 0 0,.slice none 0 0,.slice none 0 0,.slice none 0 0,.slice none 0 0,.slice none 0 0,.slice none 0 0,.int .i64 0,.slice none 0 0,.slice none 0 0,.slice none 0 0,.slice none 0 0,.int .i64 0],.slice none 0 0],[]⟩ 8 (by kernel_rfl) (by kernel_rfl) (by kernel_rfl) (by kernel_rfl)) ?_
 intro W base args ds gs before hval0 hW hcnd _;have hW':=hW;obtain⟨p,q,hA0,hV,rfl,hfz,hnd⟩:=hW;have hA:DataW.TrodAll enc AA W 0 (fun _=>AF) AF AB.params.toList args.toList ds p:=hA0;have hlt: ∀x∈p,x.block<W.heap.size:=fun x hx=>DataW.TrodAll.lt hA0 x hx;have hpar:AB.params.toList=[29,79]:=by kernel_rfl
 rw[hpar] at hA;obtain⟨v1,v3,d1,d3,p1,p3,rfl,rfl,rfl,hd1,hd3⟩:=trodAll_two hA;obtain⟨hg,hq⟩:=trodVars_none hV;subst hg hq;obtain⟨c,hw,hc⟩:=Cs.case_read hd1;obtain⟨fuel3,hd3'⟩:=hd3;obtain⟨v,n,g,hv,hg,hr⟩:=k9m hd3';have hd3:DataW.Trod enc AA W 0 (fun _=>AF) AF 79 v3 d3 p3:=⟨fuel3,hd3'⟩;have hv3:VR W (d6a W) a2j (wrA n g) v3:=by have hs:=okWide_slice (P:=AD.prog) (e:=129) (by kernel_rfl) (hval0 1 79 v3 (by kernel_rfl) (by simp));obtain⟨_,_,_,rfl⟩:=hs;simp[Value.cells] at hv;subst hv;exact .d hg
 refine (k8p (k9j c hw n g hr) W v1 v3 hc hv3).mono fun e W' ⟨he,hb⟩=> ?_;subst he;refine⟨_,rfl,[d1,d3],[],_,[],p1++p3,[],hW',?_,?_,?_,hb.frame _,fun h=>by cases h⟩
 ·rw[show AB.resultTypes= #[4] from by kernel_rfl];exact trodAll_mk1 (shut_bool (by kernel_rfl) AF)
 ·rw[hpar];exact trodAll_mk2 (Below.trod Tryz.laidOut (by kernel_rfl) (of_decide_eq_true (by kernel_rfl)) hd1 hb fun x hx=>hlt x (by simp[hx]))
   (Below.trod Tryz.laidOut (by kernel_rfl) (of_decide_eq_true (by kernel_rfl)) hd3 hb fun x hx=>hlt x (by simp[hx]))
 ·exact rfl
theorem l0b:AC.plain.varTypes AA=[]:=by kernel_rfl
theorem k9p:AA.book 79=[79,129]:=c1a 1 (of_decide_eq_true (by kernel_rfl)) (by kernel_rfl) (by kernel_rfl)
theorem k9u:AA.book 129=[129]:=c1a 0 (Nat.zero_le _) rfl (by kernel_rfl)
theorem l0d:AA.partsOf 79=[129]:=by kernel_rfl
theorem k9t:AA.partsOf 129=[]:=by kernel_rfl
theorem k9v:AA.readableRec 79=AF:=by unfold Program.readableRec;rw[k9p];kernel_rfl
theorem l0c:AA.loopsFrom 79=AE:=by unfold Program.loopsFrom;rw[k9p];simp only[List.any_cons,List.any_nil,l0d,k9t,k9p,k9u];decide
theorem l0g:AA.mapsRec 79=AE:=by unfold Program.mapsRec;rw[k9p];kernel_rfl
theorem l0h:AA.ifacesRec 79=AE:=by unfold Program.ifacesRec;rw[k9p];kernel_rfl
theorem l0a:AA.wideKeysFrom 79=AE:=by unfold Program.wideKeysFrom;rw[k9p];kernel_rfl
theorem l0e:AA.veiledRec 79=AE:=by unfold Program.veiledRec;rw[k9p];kernel_rfl
theorem l0i:AB.params.all (AA.readableRec ·)=AF:=by rw[k9q];simp[i7k,k9v]
theorem l0f:AB.resultTypes.all (fun t=>AA.readableRec t&&decide (t<AA.types.size))=AF:=by rw[k9s];simp only[List.all_toArray,List.all_cons,List.all_nil,rd4,Bool.true_and,Bool.and_true];kernel_rfl
theorem joined10:joinedFacts AA 10 AB AC AG=AF:=by
 unfold joinedFacts;rw[l0i,l0f];simp only[l0b,k9q,k9s,List.append_nil,List.cons_append,List.nil_append,List.any_cons,List.any_nil,i7k,k9v,rd4,i9f,l0c,lp4,i8m,l0g,i8j,l0h,if4,i9y,l0a,wkb,i8w,l0e,vlb,Bool.or_false,Bool.or_true,Bool.false_or,Bool.true_or,Bool.and_eq_true]
 repeat' apply And.intro
 all_goals first|kernel_rfl|trivial|rfl|exact of_decide_eq_true (by kernel_rfl)
end Nb
theorem look_nobetter:Rows.LookNoBetterSaid:=
 OpenClaim.holds_of_wide 10 AB rfl rfl rfl rfl rfl rfl rfl ⟨rfl,rfl,rfl,rfl,rfl⟩ rfl rfl rfl rfl rfl (by kernel_rfl) AH Nb.joined10
  (of_decide_eq_true (by kernel_rfl)) (by unfold Func.isWrapper;first|(rw[if_pos (by decide+kernel)];kernel_rfl)|(rw[if_neg (by decide+kernel)];exact⟨rfl,rfl⟩))
  (fun os started H enc _=>Nb.nobetter_lifted os started H enc)
end Go.Proofs.YtbglklaocjifhaaGreat
