/- The nodes of a family, each once: what both the program and the document number. The program's numbers of a family: its maps. The program's widths. Conditions: none. -/
import Derived.Test.YtpcokdalcafgdaaGreatZSy
import Derived.Test.YtpcokdalcafgdaaGreatZLq
set_option linter.unusedSimpArgs false
set_option linter.unusedVariables false
namespace Go.Proofs.Tryz.Run
open Go Go.Vf Go.Proofs
open Go.Proofs.YtpcokdalcafgdaaGreat
theorem onceE_len {α:Type}[DecidableEq α](l:List α)(x:α):l.length≤(Law.onceE l x).length∧(Law.onceE l x).length≤l.length+1:=by
 unfold Law.onceE;split<;>simp
theorem at1_le {α:Type}[DecidableEq α](l:List α)(x:α):Law.at1 l x≤l.length:=by
 induction l with
 |nil=>simp[Law.at1]
 |cons y l ih=>simp only[Law.at1];split<;>simp<;>omega
end Go.Proofs.Tryz.Run
set_option linter.unusedSimpArgs false
set_option linter.unusedVariables false
namespace Go.Proofs.Tryz.Run
open Go Go.Vf Go.Proofs
open Go.Proofs.YtpcokdalcafgdaaGreat
def shpW (sz:Nat→Int)(b:NdR):Prop:=b.kids.length≤12∧(b.kids.length:Int)=sz b.var.toNat
theorem shpW_ok (sz:Nat→Int):ShpOk (shpW sz):=⟨fun b h=>h.1,fun b c h k e=>by
 have h1:=h.2
 have h2:=k.2
 rw[e] at h1
 omega⟩
end Go.Proofs.Tryz.Run
set_option linter.unusedSimpArgs false
set_option linter.unusedVariables false
namespace Go.Proofs.Tryz.Run
open Go Go.Vf Go.Proofs
open Go.Proofs.YtpcokdalcafgdaaGreat
end Go.Proofs.Tryz.Run
