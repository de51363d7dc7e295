/- Parts of the proof. Conditions: none. -/
import Derived.Test.YtbglklaocjifhaaGreatGQi
import Derived.Test.YtbglklaocjifhaaGreatRows
import Derived.Carry
open Go.Proofs.YtbglklaocjifhaaGreat.Rows renaming lookSplitsRow->AA
open Go.Proofs.Tryz renaming prog->AB
set_option linter.unusedSimpArgs false
set_option linter.unusedVariables false
namespace Go.Proofs.YtbglklaocjifhaaGreat
open Go.ChangeShapes Go.WideShapes Go.ChangeAt Go.RowKit Go.Vf Go.Proofs.Tryz.Run
theorem m1q:(AA.inPlace==AB.inPlace 17)=true:=by kernel_rfl
theorem m2t:(AA.unfollowed==AB.unfollowed 17)=true:=by kernel_rfl
theorem m1z:(AA.recurses==AB.recurses 17)=true:=by kernel_rfl
theorem m1v:(AA.named==AB.varsNamed 17)=true:=by kernel_rfl
theorem m3p:mapsRowed AB=true:=by kernel_rfl
theorem m4t:laidOutB AB=true:=by kernel_rfl
end Go.Proofs.YtbglklaocjifhaaGreat
