/- The facts of LookForms' row that the kernel computes: types that lead back to themselves. The facts of LookForms' row. Conditions: none. -/
import Derived.Test.YtbglklaocjifhaaGreatFLr
import Derived.Test.YtbglklaocjifhaaGreatFNa
import Derived.Test.YtbglklaocjifhaaGreatFNb
import Derived.Test.YtbglklaocjifhaaGreatFNc
import Derived.Test.YtbglklaocjifhaaGreatFPm0
import Derived.Test.YtbglklaocjifhaaGreatFQd
import Derived.Test.YtbglklaocjifhaaGreatFQf
import Derived.Test.YtbglklaocjifhaaGreatFHe
import Derived.Test.YtbglklaocjifhaaGreatRows
import Derived.Carry
import Derived.JoinedOf
set_option linter.unusedSimpArgs false
set_option linter.unusedVariables false
set_option maxRecDepth 100000
namespace Go.Proofs.YtbglklaocjifhaaGreat
open Go
theorem b7l {P:Program}{L:List TypeId}(h:P.grow L=L): ∀d,P.grown d L=L
 |0=>rfl
 |d+1=>by rw[Program.grown,h];exact b7l h d
theorem b7c {P:Program}: ∀(a b:Nat) (s:List TypeId),P.grown (a+b) s=P.grown b (P.grown a s)
 |0,b,s=>by rw[Nat.zero_add];rfl
 |a+1,b,s=>by rw[Nat.succ_add,Program.grown,Program.grown];exact b7c a b _
theorem c1a {P:Program}{t:TypeId}{L:List TypeId}(k:Nat)(hk:k<=P.types.size)(h1:P.grown k [t]=L)(h2:P.grow L=L):P.book t=L:=by
 obtain⟨d,hd⟩:=Nat.exists_eq_add_of_le hk
 unfold Program.book
 rw[hd,b7c,h1,b7l h2]
theorem e0f:Tryz.prog.book 34=[34,3,24,32,77,5]:=c1a 3 (of_decide_eq_true (by kernel_rfl)) (by kernel_rfl) (by kernel_rfl)
theorem g5s:Tryz.prog.book 32=[32,34,3,24,77,5]:=c1a 4 (of_decide_eq_true (by kernel_rfl)) (by kernel_rfl) (by kernel_rfl)
theorem bk4:Tryz.prog.book 4=[4]:=c1a 0 (Nat.zero_le _) rfl (by kernel_rfl)
theorem g0g:Tryz.f6.params= #[34]:=by kernel_rfl
theorem f9w:Tryz.f6.resultTypes= #[4]:=by kernel_rfl
theorem f6t:Tryz.prog.readableRec 34=true:=by
 unfold Program.readableRec
 rw[e0f]
 kernel_rfl
theorem rd4:Tryz.prog.readableRec 4=true:=by
 unfold Program.readableRec
 rw[bk4]
 kernel_rfl
theorem g5w:Tryz.prog.loopsFrom 34=true:=by
 unfold Program.loopsFrom
 rw[e0f,List.any_cons,show Tryz.prog.partsOf 34=[3,24,32] from by kernel_rfl]
 simp[g5s]
theorem lp4:Tryz.prog.loopsFrom 4=false:=by
 unfold Program.loopsFrom
 rw[bk4]
 kernel_rfl
theorem h1r:Tryz.prog.mapsRec 34=false:=by
 unfold Program.mapsRec
 rw[e0f]
 kernel_rfl
theorem g5a:Tryz.prog.ifacesRec 34=false:=by
 unfold Program.ifacesRec
 rw[e0f]
 kernel_rfl
theorem if4:Tryz.prog.ifacesRec 4=false:=by
 unfold Program.ifacesRec
 rw[bk4]
 kernel_rfl
theorem h0a:Tryz.prog.wideKeysFrom 34=false:=by
 unfold Program.wideKeysFrom
 rw[e0f]
 kernel_rfl
theorem wk4:Tryz.prog.wideKeysFrom 4=false:=by
 unfold Program.wideKeysFrom
 rw[bk4]
 kernel_rfl
theorem g3h:Tryz.prog.veiledRec 34=false:=by
 unfold Program.veiledRec
 rw[e0f]
 kernel_rfl
theorem vl4:Tryz.prog.veiledRec 4=false:=by
 unfold Program.veiledRec
 rw[bk4]
 kernel_rfl
theorem vt6:Rows.lookFormsSpec.plain.varTypes Tryz.prog=[]:=by kernel_rfl
theorem rd6:Tryz.f6.params.all (Tryz.prog.readableRec ·)=true:=by rw[g0g];simp[f6t]
theorem rr6:Tryz.f6.resultTypes.all (fun t=>Tryz.prog.readableRec t&&decide (t<Tryz.prog.types.size))=true:=by
 rw[f9w]
 simp only[List.all_toArray,List.all_cons,List.all_nil,rd4,Bool.true_and,Bool.and_true]
 kernel_rfl
theorem d7a:joinedFacts Tryz.prog 6 Tryz.f6 Rows.lookFormsSpec Rows.lookFormsRow=true:=by
 unfold joinedFacts
 rw[rd6,rr6]
 simp only[vt6,g0g,f9w,List.append_nil,List.cons_append,List.nil_append,List.any_cons,List.any_nil,f6t,rd4,g5w,lp4,h1r,g5a,if4,h0a,wk4,g3h,vl4,Bool.or_false,Bool.and_eq_true]
 repeat' apply And.intro
 all_goals first|kernel_rfl|trivial|rfl|exact of_decide_eq_true (by kernel_rfl)
end Go.Proofs.YtbglklaocjifhaaGreat
