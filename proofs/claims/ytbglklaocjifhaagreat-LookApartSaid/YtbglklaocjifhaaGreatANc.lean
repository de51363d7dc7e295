/- What the executor asks of the program. Conditions: none. -/
import Derived.Test.YtbglklaocjifhaaGreatAMn
import Derived.Test.YtbglklaocjifhaaGreatProg
import Derived.KernelRfl
set_option linter.unusedSimpArgs false
set_option linter.unusedVariables false
namespace Go.Proofs.Tryz.Run
open Go Go.Vf Go.Proofs
theorem d7g:Tryz.prog.funcs.toList.all (fun p=>!(p.name==b1b))=true:=by kernel_rfl
theorem okP:OkP Tryz.prog where
 laid:=by kernel_rfl
 ovl f fn hf hb hn:=by
  exfalso
  have h:=List.all_eq_true.1 d7g fn (by
   have:=Array.mem_of_getElem? hf
   simpa using this)
  rw[hn] at h
  simp at h
end Go.Proofs.Tryz.Run
