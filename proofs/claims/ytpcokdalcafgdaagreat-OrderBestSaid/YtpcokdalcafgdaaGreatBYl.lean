/- The program's Sift of a family; costs of families that are alike. Choosing the greatest again and again ranks; sifting never makes the cost greater. Conditions: none. -/
import Derived.Test.YtpcokdalcafgdaaGreatBLq
import Derived.Test.YtpcokdalcafgdaaGreatBNa
import Derived.Test.YtpcokdalcafgdaaGreatBNc
import Derived.Test.YtpcokdalcafgdaaGreatBLh
import Derived.Test.YtpcokdalcafgdaaGreatBNb
import Derived.Test.YtpcokdalcafgdaaGreatBOh
import Derived.Test.YtpcokdalcafgdaaGreatBPm0
import Derived.Test.YtpcokdalcafgdaaGreatBQd
import Derived.Test.YtpcokdalcafgdaaGreatBQf
import Derived.Test.YtpcokdalcafgdaaGreatBUi
import Derived.Test.YtpcokdalcafgdaaGreatBXk
import Derived.Test.YtpcokdalcafgdaaGreatBXn
import Derived.Test.YtpcokdalcafgdaaGreatBXw
import Derived.Test.YtpcokdalcafgdaaGreatBYe
import Derived.Test.YtpcokdalcafgdaaGreatBYi
set_option linter.unusedSimpArgs false
set_option linter.unusedVariables false
namespace Go.Proofs.Tryz.Run
open Go Go.Vf Go.Proofs
open Go.Proofs.YtpcokdalcafgdaaGreat
theorem b6x.surj {n:Nat}{u:Nat->Nat}(h:b6x n u){v:Nat}(hv:v<n): ∃p,p<n/\u p=v:=by
 have ho:a1u n n fun i=>(u i:Int):=⟨rfl,fun i hi=>⟨⟨Int.natCast_nonneg _,by have:=h.1 i hi;show (u i:Int)<=_;omega⟩,fun k hk e=>by
  have:=h.2 k i (by omega) hi (Int.ofNat.inj e)
  omega⟩⟩
 obtain⟨p,hp,e⟩:=ho.at (v:=(v:Int)) ⟨by omega,by omega⟩
 exact⟨p,hp,by omega⟩
section
variable {n:Nat} {l:Nat->DiR}
end
theorem f2m {n t:Nat}{u:Nat->Nat}(ht:t<n): ∃k,k<n/\ ∀j,j<t->u j≠k:=by
 apply Classical.byContradiction
 intro hc
 have h1: ∀k,∃j,k<n->j<t/\u j=k:=fun k=>by
  by_cases hk:k<n
  ·apply Classical.byContradiction
   intro h2
   exact hc ⟨k,hk,fun j hj e=>h2 ⟨j,fun _=>⟨hj,e⟩⟩⟩
  ·exact⟨0,fun h=>absurd h hk⟩
 obtain⟨f,hf⟩:=Classical.axiomOfChoice h1
 have hp:b6x n f:=⟨fun i hi=>by have:=(hf i hi).1;omega,fun i j hi hj e=>by
  rw[<-(hf i hi).2,<-(hf j hj).2,e]⟩
 obtain⟨p,hp1,hp2⟩:=hp.surj (v:=n-1) (by omega)
 have:=(hf p hp1).1
 omega
section
variable {n:Nat} {l:Nat->DiR}
end
end Go.Proofs.Tryz.Run
