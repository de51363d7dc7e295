/- awake answers true. Conditions: none. -/
import Derived.Test.YtbglklaocjifhaaGreatGNb
import Derived.Test.YtbglklaocjifhaaGreatGLw
import Derived.Test.YtbglklaocjifhaaGreatProg
import Derived.Test.YtbglklaocjifhaaGreatRows
import Derived.KernelRfl
import Derived.ProofKit
open Go.Proofs.Tryz renaming prog->AA
set_option linter.unusedSimpArgs false
set_option linter.unusedVariables false
set_option maxHeartbeats 0
set_option maxRecDepth 1000000
namespace Go.Proofs.Tryz.Run
open Go Go.Vf Go.Proofs
theorem d7g:AA.funcs.toList.all (fun p=>!(p.name==QX))=true:=by kernel_rfl
theorem ci:WO AA where
 laid:=by kernel_rfl
 XE f fn hf hb hn:=by
  exfalso;have h:=List.all_eq_true.1 d7g fn (by
   have:=Array.mem_of_getElem? hf;simpa using this)
  rw[hn] at h;simp at h
end Go.Proofs.Tryz.Run
namespace Go.Proofs.YtbglklaocjifhaaGreat
open Go.ChangeShapes Go.WideShapes Go.ChangeAt Go.RowKit Go.Vf
theorem Tryz.own:ownKnob AA.godebug=none:=by kernel_rfl
theorem Tryz.laidOut:laidOutB AA=true:=by kernel_rfl
theorem Tryz.mixed:AA.follows .mixedOrders=true:=by kernel_rfl
open Go Go.Vf
def yes (v:CA):Bool:=
 match v with
 | .d (.bool b)=>b
 |_=>false
theorem e4r {v:CA}(h:yes v=true):v= .d (.bool true):=by
 unfold yes at h;split at h
 ·rw[h]
 ·cases h
theorem c7j:(YR Tryz.Run.Zy 4000).wr true 19 [] yes=true:=by kernel_rfl
theorem US:au AA true 19 [] (.d (.bool true)):=by obtain⟨r,h1,h2⟩:=c0g Tryz.mixed Tryz.Run.ci Tryz.Run.XZ 4000 c7j;rw[e4r h1] at h2;exact h2
end Go.Proofs.YtbglklaocjifhaaGreat
