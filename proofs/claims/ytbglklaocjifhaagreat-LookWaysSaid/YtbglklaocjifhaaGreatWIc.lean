/- The facts of LookForms' row that the kernel computes: types that lead back to themselves. Facts of rows that take cases: types and what they lead to. Conditions: none. -/
import Derived.Test.YtbglklaocjifhaaGreatWLr
import Derived.Test.YtbglklaocjifhaaGreatWNb
import Derived.Test.YtbglklaocjifhaaGreatWPm0
import Derived.Test.YtbglklaocjifhaaGreatWQd
import Derived.Test.YtbglklaocjifhaaGreatWQf
import Derived.Test.YtbglklaocjifhaaGreatWQi
import Derived.Test.YtbglklaocjifhaaGreatWHe
import Derived.Test.YtbglklaocjifhaaGreatWHt
import Derived.Test.YtbglklaocjifhaaGreatWJh
import Derived.Test.YtbglklaocjifhaaGreatRows
import Derived.Carry
import Derived.JoinedOf
set_option linter.unusedSimpArgs false
set_option linter.unusedVariables false
namespace Go.Proofs.YtbglklaocjifhaaGreat
open Go
theorem b7l {P:Program}{L:List TypeId}(h:P.grow L=L): ∀d,P.grown d L=L
 |0=>rfl
 |d+1=>by rw[Program.grown,h];exact b7l h d
theorem b7c {P:Program}: ∀(a b:Nat) (s:List TypeId),P.grown (a+b) s=P.grown b (P.grown a s)
 |0,b,s=>by rw[Nat.zero_add];rfl
 |a+1,b,s=>by rw[Nat.succ_add,Program.grown,Program.grown];exact b7c a b _
theorem c1a {P:Program}{t:TypeId}{L:List TypeId}(k:Nat)(hk:k<=P.types.size)(h1:P.grown k [t]=L)(h2:P.grow L=L):P.book t=L:=by
 obtain⟨d,hd⟩:=Nat.exists_eq_add_of_le hk
 unfold Program.book
 rw[hd,b7c,h1,b7l h2]
theorem e0f:Tryz.prog.book 34=[34,3,24,32,77,5]:=c1a 3 (of_decide_eq_true (by kernel_rfl)) (by kernel_rfl) (by kernel_rfl)
theorem g5s:Tryz.prog.book 32=[32,34,3,24,77,5]:=c1a 4 (of_decide_eq_true (by kernel_rfl)) (by kernel_rfl) (by kernel_rfl)
theorem i9i:Tryz.prog.book 24=[24,77,5,3]:=c1a 2 (of_decide_eq_true (by kernel_rfl)) (by kernel_rfl) (by kernel_rfl)
theorem i8b:Tryz.prog.book 77=[77,5,3]:=c1a 1 (of_decide_eq_true (by kernel_rfl)) (by kernel_rfl) (by kernel_rfl)
theorem bk3:Tryz.prog.book 3=[3]:=c1a 0 (Nat.zero_le _) rfl (by kernel_rfl)
theorem bk4:Tryz.prog.book 4=[4]:=c1a 0 (Nat.zero_le _) rfl (by kernel_rfl)
theorem bk5:Tryz.prog.book 5=[5]:=c1a 0 (Nat.zero_le _) rfl (by kernel_rfl)
theorem f6t:Tryz.prog.readableRec 34=true:=by
 unfold Program.readableRec
 rw[e0f]
 kernel_rfl
theorem rd4:Tryz.prog.readableRec 4=true:=by
 unfold Program.readableRec
 rw[bk4]
 kernel_rfl
theorem g5w:Tryz.prog.loopsFrom 34=true:=by
 unfold Program.loopsFrom
 rw[e0f,List.any_cons,show Tryz.prog.partsOf 34=[3,24,32] from by kernel_rfl]
 simp[g5s]
theorem lp4:Tryz.prog.loopsFrom 4=false:=by
 unfold Program.loopsFrom
 rw[bk4]
 kernel_rfl
theorem h1r:Tryz.prog.mapsRec 34=false:=by
 unfold Program.mapsRec
 rw[e0f]
 kernel_rfl
theorem g5a:Tryz.prog.ifacesRec 34=false:=by
 unfold Program.ifacesRec
 rw[e0f]
 kernel_rfl
theorem if4:Tryz.prog.ifacesRec 4=false:=by
 unfold Program.ifacesRec
 rw[bk4]
 kernel_rfl
theorem i5l:Tryz.prog.book 29=[29,22,23,27,3,24,25,77,131,5]:=c1a 4 (of_decide_eq_true (by kernel_rfl)) (by kernel_rfl) (by kernel_rfl)
theorem i8o:Tryz.prog.book 27=[27,22,24,25,3,77,131,5]:=c1a 3 (of_decide_eq_true (by kernel_rfl)) (by kernel_rfl) (by kernel_rfl)
theorem i7y:Tryz.prog.book 23=[23,27,22,24,25,3,77,131,5]:=c1a 4 (of_decide_eq_true (by kernel_rfl)) (by kernel_rfl) (by kernel_rfl)
theorem i8c:Tryz.prog.book 25=[25,131,3,22]:=c1a 2 (of_decide_eq_true (by kernel_rfl)) (by kernel_rfl) (by kernel_rfl)
theorem i6y:Tryz.prog.book 131=[131,3,22]:=c1a 1 (of_decide_eq_true (by kernel_rfl)) (by kernel_rfl) (by kernel_rfl)
theorem i9n:Tryz.prog.book 22=[22,3]:=c1a 1 (of_decide_eq_true (by kernel_rfl)) (by kernel_rfl) (by kernel_rfl)
theorem i7t:Tryz.prog.partsOf 29=[22,22,23,27,27]:=by kernel_rfl
theorem i8t:Tryz.prog.partsOf 27=[22,22,24,25,3]:=by kernel_rfl
theorem i7r:Tryz.prog.partsOf 22=[3]:=by kernel_rfl
theorem i7v:Tryz.prog.partsOf 23=[27]:=by kernel_rfl
theorem i9v:Tryz.prog.partsOf 24=[77]:=by kernel_rfl
theorem i9r:Tryz.prog.partsOf 25=[131]:=by kernel_rfl
theorem i8z:Tryz.prog.partsOf 77=[5,3]:=by kernel_rfl
theorem i6x:Tryz.prog.partsOf 131=[3,22]:=by kernel_rfl
theorem pt3:Tryz.prog.partsOf 3=[]:=by kernel_rfl
theorem pt5:Tryz.prog.partsOf 5=[]:=by kernel_rfl
theorem i7k:Tryz.prog.readableRec 29=true:=by
 unfold Program.readableRec
 rw[i5l]
 kernel_rfl
theorem i9f:Tryz.prog.loopsFrom 29=false:=by
 unfold Program.loopsFrom
 rw[i5l]
 simp only[List.any_cons,List.any_nil,i7t,i8t,i7r,i7v,i9v,i9r,i8z,i6x,pt3,pt5,i8o,i7y,i9i,i8c,i6y,i9n,i8b,bk3,bk5]
 decide
theorem i8m:Tryz.prog.mapsRec 29=false:=by
 unfold Program.mapsRec
 rw[i5l]
 kernel_rfl
theorem i8j:Tryz.prog.ifacesRec 29=false:=by
 unfold Program.ifacesRec
 rw[i5l]
 kernel_rfl
theorem i9y:Tryz.prog.wideKeysFrom 29=false:=by
 unfold Program.wideKeysFrom
 rw[i5l]
 kernel_rfl
theorem i8w:Tryz.prog.veiledRec 29=false:=by
 unfold Program.veiledRec
 rw[i5l]
 kernel_rfl
theorem wkb:Tryz.prog.wideKeysFrom 4=false:=by
 unfold Program.wideKeysFrom
 rw[bk4]
 kernel_rfl
theorem vlb:Tryz.prog.veiledRec 4=false:=by
 unfold Program.veiledRec
 rw[bk4]
 kernel_rfl
end Go.Proofs.YtbglklaocjifhaaGreat
