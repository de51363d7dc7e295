/- Depth and Form of a plan. The walk of LookForms. Reading of plans: what reads as a plan is a plan of the executor's; lengths within the reach. Conditions: none. -/
import Derived.Test.YtbglklaocjifhaaGreatCQf
open Go.Proofs.Tryz renaming prog->AA
set_option linter.unusedSimpArgs false
set_option linter.unusedVariables false
namespace Go.Proofs.Tryz.Run
open Go Go.Vf Go.Proofs
open Go.Proofs.YtbglklaocjifhaaGreat
end Go.Proofs.Tryz.Run
namespace Go.Proofs.YtbglklaocjifhaaGreat
open Go.ChangeShapes Go.WideShapes Go.ChangeAt Go.RowKit Go.Vf Go.Proofs.Tryz.Run
noncomputable def fieldsOf (t:TypeId):Option (List (TypeId×Nat)):=
 match AA.underlying t with
 |some (.struct fs)=>some (fs.toList.map fun f=>(f.type,f.offset))
 |_=>none
theorem u24:AA.underlying 24=some (.slice 77):=by kernel_rfl
theorem u32:AA.underlying 32=some (.slice 34):=by kernel_rfl
theorem u3:AA.underlying 3=some (.int .i64):=by kernel_rfl
theorem u5:AA.underlying 5=some (.int .u8):=by kernel_rfl
theorem f77:fieldsOf 77=some [(5,0),(3,1)]:=by kernel_rfl
theorem k77:AA.cellsOf 77=2:=by kernel_rfl
theorem k3:AA.cellsOf 3=1:=by kernel_rfl
theorem k5:AA.cellsOf 5=1:=by kernel_rfl
theorem k24:AA.cellsOf 24=1:=by kernel_rfl
theorem list2 {α:Type}{l:List α}(h:l.length=2): ∃a b,l=[a,b]:=by
 match l,h with
 |[a,b],_=>exact⟨a,b,rfl⟩
section
variable {H:Type} {enc:TypeId×Value->H} {P:Program} {w:World} {spare:Nat->Bool} {held:Bool}
end
section
variable {H:Type} {enc:TypeId×Value->H} {w:World} {spare:Nat->Bool} {held:Bool}
end
end Go.Proofs.YtbglklaocjifhaaGreat
