/- The list of the cells of all places of a diagram. The program's list of a diagram. Conditions: none. -/
import Derived.Test.YtbglklaocjifhaaGreatWLr
import Derived.Test.YtbglklaocjifhaaGreatWNb
import Derived.Test.YtbglklaocjifhaaGreatWQd
import Derived.Test.YtbglklaocjifhaaGreatWQf
import Derived.Test.YtbglklaocjifhaaGreatWQi
import Derived.Test.YtbglklaocjifhaaGreatWSv
set_option linter.unusedSimpArgs false
set_option linter.unusedVariables false
namespace Go.Proofs.Tryz.Run
open Go Go.Vf Go.Proofs
open Go.Proofs.YtbglklaocjifhaaGreat
def DiR.cell (d:DiR)(i:Nat):VaR:=d.en (-1-h5d d (h5j d.sz d.ns i) d.root).toNat
theorem i0e {d:DiR}(hl:h3x d){pl u:Nat->Int}(hpu: ∀j,j<d.ns->pl j=u j)(hp:i3i d pl)(hu:i3i d u)(k:Int)(hk:h4k d.ne k d.nn):h5d d pl k=h5d d u k:=by
 have: ∀(m:Nat) (k:Int),k<m->k<d.nn->h5d d pl k=h5d d u k:=by
  intro m
  induction m with
  |zero=>
   intro k hm hn
   rw[h4c (by omega),h4c (by omega)]
  |succ m ih=>
   intro k hm hn
   by_cases h0:k<0
   ·rw[h4c h0,h4c h0]
   ·obtain⟨i,rfl⟩: ∃i:Nat,k=i:=⟨k.toNat,by omega⟩
    have hi:i<d.nn:=by omega
    have h1:=(h5q hl hp hi)
    rw[h4x hl hp hi,h4x hl hu hi,hpu _ (by have:=h1.1;omega)]
    have h2:=h1.2.2
    rw[hpu _ (by have:=h1.1;omega)] at h2
    have hlt:d.kid i (u (d.var i).toNat).toNat<i:=by
     rcases Int.lt_or_le (d.kid i (u (d.var i).toNat).toNat) 0 with h|h
     ·omega
     ·exact h2.1 h
    exact ih _ (by omega) (by omega)
 rcases Int.lt_or_le k 0 with h|h
 ·rw[h4c h,h4c h]
 ·exact this (k.toNat+1) k (by omega) (hk.1 h)
end Go.Proofs.Tryz.Run
