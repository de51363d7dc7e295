/- The program's cost and widths of a family. The reference's find. The reference's nodes of a family. Conditions: none. -/
import Derived.Test.YtpcokdalcafgdaaGreatZUc
import Derived.Test.YtpcokdalcafgdaaGreatZOg
import Derived.Test.YtpcokdalcafgdaaGreatZLq
import Derived.Test.YtpcokdalcafgdaaGreatZPm0
set_option linter.unusedSimpArgs false
set_option linter.unusedVariables false
namespace Go.Proofs.Tryz.Run
open Go Go.Vf Go.Proofs
open Go.Proofs.YtpcokdalcafgdaaGreat
section
variable {n:Nat} {e0:Nat→List DV} {v:AV} {r:Int}
end
end Go.Proofs.Tryz.Run
set_option linter.unusedSimpArgs false
set_option linter.unusedVariables false
namespace Go.Proofs.Tryz.Run
open Go Go.Vf Go.Proofs
open Go.Proofs.YtpcokdalcafgdaaGreat
theorem at1_first {α:Type}[DecidableEq α]{n:Nat}{f:Nat→α}{v:α}{i:Nat}(hi:i<n)(h:f i=v)(hn: ∀j,j<i→f j≠v):Law.at1 (L n f) v=i:=by
 have key: ∀(l:List α) (i:Nat),l[i]? =some v→(∀j,j<i→l[j]? ≠some v)→Law.at1 l v=i:=by
  intro l
  induction l with
  |nil=>intro i h;simp at h
  |cons y l ih=>
   intro i h hn
   simp only[Law.at1]
   cases i with
   |zero=>simp at h;rw[if_pos h]
   |succ i=>
    have h0:y≠v:=fun e=>hn 0 (by omega) (by simp[e])
    rw[if_neg h0,ih i (by simpa using h) fun j hj=>by have:=hn (j+1) (by omega);simpa using this]
 refine key _ _ (by rw[L_get,if_pos hi,h]) fun j hj=> ?_
 rw[L_get,if_pos (by omega)]
 exact fun e=>hn j hj (Option.some.inj e)
theorem at1_none {α:Type}[DecidableEq α]{n:Nat}{f:Nat→α}{v:α}(hn: ∀j,j<n→f j≠v):v∉L n f∧Law.at1 (L n f) v=n:=by
 have h:v∉L n f:=fun h=>by
  obtain⟨j,hj,e⟩:=mem_L.1 h
  exact hn j hj e
 exact⟨h,by rw[Law.at1_not h,L_length]⟩
theorem at1_mem {α:Type}[DecidableEq α]{l:List α}{v:α}(h:Law.at1 l v<l.length):v∈l:=by
 by_cases hm:v∈l
 ·exact hm
 ·rw[Law.at1_not hm] at h;omega
end Go.Proofs.Tryz.Run
set_option linter.unusedSimpArgs false
set_option linter.unusedVariables false
namespace Go.Proofs.Tryz.Run
open Go Go.Vf Go.Proofs
open Go.Proofs.YtpcokdalcafgdaaGreat
def ndL (q:Nat)(av:Nat→Int)(an:Nat→Nat)(ak:Nat→Nat→Int):List NdR:=L q fun j=>⟨av j,L (an j) (ak j)⟩
def veL (q:Nat)(ef en:Nat→Int):List VaR:=L q fun j=>⟨ef j,en j⟩
def arB (q:Nat)(av:Nat→Int)(an:Nat→Nat)(ak:Nat→Nat→Int):AObj:= .arr 2 q fun j=>[.int .i64 (.v (av j)),.sl 1 (an j) fun k=>[.int .i64 (.v (ak j k))]]
def arV (q:Nat)(ef en:Nat→Int):AObj:= .arr 2 q fun j=>[.int .u8 (.v (ef j)),.int .i64 (.v (en j))]
end Go.Proofs.Tryz.Run
