/- What the executor asks of the program. Conditions: none. -/
import Derived.Test.YtpcokdalcafgdaaGreatWMn
import Derived.Test.YtpcokdalcafgdaaGreatProg
import Derived.KernelRfl
namespace Go.Proofs.Tryz.Run
open Go Go.Vf Go.Proofs
theorem e6e:Tryz.prog.funcs.toList.zipIdx.all (fun p=>!(p.1.name==b2l)||p.2==140)=true:=by kernel_rfl
theorem e0e {f:FuncId}{fn:Func}(hf:Tryz.prog.funcs[f]? =some fn)(hn:fn.name=b2l):fn=Tryz.f140:=by
 have h:=List.all_eq_true.1 e6e (fn,f) (by
  rw[List.mem_zipIdx_iff_getElem?]
  simpa using hf)
 simp[hn] at h
 subst h
 rw[Tryz.func140] at hf
 exact (Option.some.inj hf).symm
theorem okP:OkP Tryz.prog where
 laid:=by kernel_rfl
 ovl f fn hf hb hn:=by
  rw[e0e hf hn]
  exact⟨by kernel_rfl,29,4,3,by kernel_rfl,by kernel_rfl,(a2q (n:=1) (by kernel_rfl)).2⟩
end Go.Proofs.Tryz.Run
