/- Facts of rows that take cases. Conditions: none. -/
import Derived.Test.YtbglklaocjifhaaGreatGCj
import Derived.Test.YtbglklaocjifhaaGreatRows
import Derived.Carry
import Derived.JoinedOf
open Go.Proofs.Tryz renaming prog->AA
set_option linter.unusedSimpArgs false
set_option linter.unusedVariables false
namespace Go.Proofs.YtbglklaocjifhaaGreat
open Go
theorem b7l {P:Program}{L:List TypeId}(h:P.grow L=L): ∀d,P.grown d L=L
 |0=>rfl
 |d+1=>by rw[Program.grown,h];exact b7l h d
theorem b7c {P:Program}: ∀(a b:Nat) (s:List TypeId),P.grown (a+b) s=P.grown b (P.grown a s)
 |0,b,s=>by rw[Nat.zero_add];rfl
 |a+1,b,s=>by rw[Nat.succ_add,Program.grown,Program.grown];exact b7c a b _
theorem GX {P:Program}{t:TypeId}{L:List TypeId}(k:Nat)(hk:k<=P.types.size)(h1:P.grown k [t]=L)(h2:P.grow L=L):P.book t=L:=by obtain⟨d,hd⟩:=Nat.exists_eq_add_of_le hk;unfold Program.book;rw[hd,b7c,h1,b7l h2]
theorem i9i:AA.book 24=[24,77,5,3]:=GX 2 (of_decide_eq_true (by kernel_rfl)) (by kernel_rfl) (by kernel_rfl)
theorem i8b:AA.book 77=[77,5,3]:=GX 1 (of_decide_eq_true (by kernel_rfl)) (by kernel_rfl) (by kernel_rfl)
theorem p_:AA.book 3=[3]:=GX 0 (Nat.zero_le _) rfl (by kernel_rfl)
theorem YT:AA.book 4=[4]:=GX 0 (Nat.zero_le _) rfl (by kernel_rfl)
theorem Yk:AA.book 5=[5]:=GX 0 (Nat.zero_le _) rfl (by kernel_rfl)
theorem ZR:AA.readableRec 4=true:=by unfold Program.readableRec;rw[YT];kernel_rfl
theorem y_:AA.loopsFrom 4=false:=by unfold Program.loopsFrom;rw[YT];kernel_rfl
theorem t_:AA.ifacesRec 4=false:=by unfold Program.ifacesRec;rw[YT];kernel_rfl
theorem MA:AA.book 29=[29,22,23,27,3,24,25,77,131,5]:=GX 4 (of_decide_eq_true (by kernel_rfl)) (by kernel_rfl) (by kernel_rfl)
theorem i8o:AA.book 27=[27,22,24,25,3,77,131,5]:=GX 3 (of_decide_eq_true (by kernel_rfl)) (by kernel_rfl) (by kernel_rfl)
theorem i7y:AA.book 23=[23,27,22,24,25,3,77,131,5]:=GX 4 (of_decide_eq_true (by kernel_rfl)) (by kernel_rfl) (by kernel_rfl)
theorem i8c:AA.book 25=[25,131,3,22]:=GX 2 (of_decide_eq_true (by kernel_rfl)) (by kernel_rfl) (by kernel_rfl)
theorem i6y:AA.book 131=[131,3,22]:=GX 1 (of_decide_eq_true (by kernel_rfl)) (by kernel_rfl) (by kernel_rfl)
theorem i9n:AA.book 22=[22,3]:=GX 1 (of_decide_eq_true (by kernel_rfl)) (by kernel_rfl) (by kernel_rfl)
theorem i7t:AA.partsOf 29=[22,22,23,27,27]:=by kernel_rfl
theorem i8t:AA.partsOf 27=[22,22,24,25,3]:=by kernel_rfl
theorem i7r:AA.partsOf 22=[3]:=by kernel_rfl
theorem i7v:AA.partsOf 23=[27]:=by kernel_rfl
theorem i9v:AA.partsOf 24=[77]:=by kernel_rfl
theorem i9r:AA.partsOf 25=[131]:=by kernel_rfl
theorem i8z:AA.partsOf 77=[5,3]:=by kernel_rfl
theorem i6x:AA.partsOf 131=[3,22]:=by kernel_rfl
theorem D_:AA.partsOf 3=[]:=by kernel_rfl
theorem ZQ:AA.partsOf 5=[]:=by kernel_rfl
theorem i7k:AA.readableRec 29=true:=by unfold Program.readableRec;rw[MA];kernel_rfl
theorem i9f:AA.loopsFrom 29=false:=by unfold Program.loopsFrom;rw[MA];simp only[List.any_cons,List.any_nil,i7t,i8t,i7r,i7v,i9v,i9r,i8z,i6x,D_,ZQ,i8o,i7y,i9i,i8c,i6y,i9n,i8b,p_,Yk];decide
theorem i8m:AA.mapsRec 29=false:=by unfold Program.mapsRec;rw[MA];kernel_rfl
theorem i8j:AA.ifacesRec 29=false:=by unfold Program.ifacesRec;rw[MA];kernel_rfl
theorem i9y:AA.wideKeysFrom 29=false:=by unfold Program.wideKeysFrom;rw[MA];kernel_rfl
theorem i8w:AA.veiledRec 29=false:=by unfold Program.veiledRec;rw[MA];kernel_rfl
theorem K_:AA.wideKeysFrom 4=false:=by unfold Program.wideKeysFrom;rw[YT];kernel_rfl
theorem I_:AA.veiledRec 4=false:=by unfold Program.veiledRec;rw[YT];kernel_rfl
end Go.Proofs.YtbglklaocjifhaaGreat
