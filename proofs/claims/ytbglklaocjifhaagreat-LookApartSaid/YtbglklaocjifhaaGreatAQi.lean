/- Thin families; the errors of families. Conditions: none. -/
import Derived.Test.YtbglklaocjifhaaGreatALr
import Derived.Test.YtbglklaocjifhaaGreatANa
import Derived.Test.YtbglklaocjifhaaGreatANb
import Derived.Test.YtbglklaocjifhaaGreatANc
import Derived.Test.YtbglklaocjifhaaGreatAQd
import Derived.Test.YtbglklaocjifhaaGreatAQf
import Derived.Test.YtbglklaocjifhaaGreatAQh
set_option linter.unusedSimpArgs false
set_option linter.unusedVariables false
namespace Go.Proofs.Tryz.Run
open Go Go.Vf Go.Proofs
open Go.Proofs.YtbglklaocjifhaaGreat
def DiR.wf (d:DiR):Prop:=(∀i,i<d.nn-> ∀j,j<d.nk i->c5t (d.kid i j))/\c5t d.root/\ ∀i,i<d.ne->0<=(d.en i).fault
def DiR.row (d:DiR):List DV:=[.sl 1 d.ns fun i=>[.int .i64 (.v (d.sz i))],.sl 1 d.no fun i=>[.int .i64 (.v (d.od i))],.sl 2 d.ne fun i=>(d.en i).row,
 .sl 2 d.nn fun i=>[.int .i64 (.v (d.var i)),.sl 1 (d.nk i) fun j=>[.int .i64 (.v (d.kid i j))]],.int .i64 (.v d.root)]
def dsl (n:Nat)(l:Nat->DiR):AV:= .d (.sl 5 n fun i=>(l i).row)
theorem h6x {d:DiR}(h:h5o d=0):h3z d=0/\h5e d:=by
 unfold h5o at h
 split at h
 ·rename_i a;exact absurd h a
 ·split at h
  ·rename_i a b;exact⟨Classical.not_not.1 a,b⟩
  ·cases h
end Go.Proofs.Tryz.Run
