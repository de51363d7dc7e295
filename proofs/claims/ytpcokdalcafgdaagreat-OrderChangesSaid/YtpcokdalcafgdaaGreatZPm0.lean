/- The program's Check of a core. Operands of an operation; once. Same, with its result as a variable. Conditions: none. -/
import Derived.Test.YtpcokdalcafgdaaGreatZPf
set_option linter.unusedSimpArgs false
set_option linter.unusedVariables false
namespace Go.Proofs.Tryz.Run
open Go Go.Vf Go.Proofs
open Go.Proofs.YtpcokdalcafgdaaGreat
end Go.Proofs.Tryz.Run
set_option linter.unusedSimpArgs false
set_option linter.unusedVariables false
namespace Go.Proofs.Tryz.Run
open Go Go.Vf Go.Proofs
open Go.Proofs.YtpcokdalcafgdaaGreat
def L {α:Type}(n:Nat)(g:Nat→α):List α:=(List.range n).map g
theorem L_length {α:Type}(n:Nat)(g:Nat→α):(L n g).length=n:=by simp[L]
theorem L_succ {α:Type}(n:Nat)(g:Nat→α):L (n+1) g=L n g++[g n]:=by simp[L,List.range_succ]
theorem L_congr {α:Type}{n:Nat}{g h:Nat→α}(e: ∀i,i<n→g i=h i):L n g=L n h:=by
 unfold L;exact List.map_congr_left fun i hi=>e i (by simpa using hi)
theorem mem_L {α:Type}{n:Nat}{g:Nat→α}{x:α}:x∈L n g↔ ∃i,i<n∧g i=x:=by simp[L]
def arrI (n:Nat)(g:Nat→Int):AObj:= .arr 1 n fun i=>[.int .i64 (.v (g i))]
theorem LikeO.arrI {n m:Nat}{e:Nat→List DV}{g:Nat→Int}(hn:n=m)(h: ∀i,i<n→e i=[.int .i64 (.v (g i))]):LikeO (.arr 1 n e) (arrI m g):=LikeO.arr' hn h
def onceL (l:List Int)(x:Int):List Int:=if x∈l then l else l++[x]
end Go.Proofs.Tryz.Run
set_option linter.unusedSimpArgs false
set_option linter.unusedVariables false
namespace Go.Proofs.Tryz.Run
open Go Go.Vf Go.Proofs
open Go.Proofs.YtpcokdalcafgdaaGreat
theorem same23 (n m:Nat)(g h:Nat→Int)(hn:n≤1000000)(r:Bool)(hr:r=true↔L n g=L m h):PureF Tryz.prog true 23 [isl n g,isl m h] (bool r):=by
 have h1:=same_ok n m g h hn
 have:decide (n=m∧ ∀i,i<n→g i=h i)=r:=by
  have e:(n=m∧ ∀i,i<n→g i=h i)↔L n g=L m h:=by
   constructor
   ·rintro⟨rfl,hh⟩;exact L_congr hh
   ·intro e
    have el:n=m:=by simpa [L_length] using congrArg List.length e
    refine⟨el,fun j hj=> ?_⟩
    have:=congrArg (fun l=>l[j]?) e
    simpa [L,hj,show j<m by omega] using this
  cases r
  ·exact decide_eq_false fun hh=>Bool.noConfusion (hr.2 (e.1 hh))
  ·exact decide_eq_true (e.2 (hr.1 rfl))
 rw[this] at h1
 exact pure_bool h1
end Go.Proofs.Tryz.Run
