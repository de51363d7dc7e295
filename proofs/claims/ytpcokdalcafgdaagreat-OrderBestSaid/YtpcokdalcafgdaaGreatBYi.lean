/- The program's families in whatever order: in, moved, cost, widths. Sorting choices by their widths, the greatest first. Conditions: none. -/
import Derived.Test.YtpcokdalcafgdaaGreatBLq
import Derived.Test.YtpcokdalcafgdaaGreatBNa
import Derived.Test.YtpcokdalcafgdaaGreatBNc
import Derived.Test.YtpcokdalcafgdaaGreatBLh
import Derived.Test.YtpcokdalcafgdaaGreatBNb
import Derived.Test.YtpcokdalcafgdaaGreatBOh
import Derived.Test.YtpcokdalcafgdaaGreatBPm0
import Derived.Test.YtpcokdalcafgdaaGreatBQd
import Derived.Test.YtpcokdalcafgdaaGreatBQf
import Derived.Test.YtpcokdalcafgdaaGreatBQh
import Derived.Test.YtpcokdalcafgdaaGreatBQi
import Derived.Test.YtpcokdalcafgdaaGreatBSd
import Derived.Test.YtpcokdalcafgdaaGreatBSy
import Derived.Test.YtpcokdalcafgdaaGreatBUf
import Derived.Test.YtpcokdalcafgdaaGreatBUi
import Derived.Test.YtpcokdalcafgdaaGreatBXf
import Derived.Test.YtpcokdalcafgdaaGreatBXk
import Derived.Test.YtpcokdalcafgdaaGreatBXn
import Derived.Test.YtpcokdalcafgdaaGreatBXt
import Derived.Test.YtpcokdalcafgdaaGreatBXw
import Derived.Test.YtpcokdalcafgdaaGreatBYb
import Derived.Test.YtpcokdalcafgdaaGreatBYe
set_option linter.unusedSimpArgs false
set_option linter.unusedVariables false
namespace Go.Proofs.Tryz.Run
open Go Go.Vf Go.Proofs
open Go.Proofs.YtpcokdalcafgdaaGreat
noncomputable def cst (n:Nat)(l:Nat->DiR)(od:Nat->Int):Nat:=(a7d (chg l (l 0).no od) n).on.length
def b3m (l:Nat->DiR)(i:Nat):Nat:=(prod (l i).sz (l i).ns).toNat
def c2g (l:Nat->DiR)(i j:Nat):List DV:=((l i).cell j).row
def e8y (n:Nat)(l:Nat->DiR)(od:Nat->Int):AV:=e1j n l (l 0).no od (b3m l) (c2g l)
section
variable {n:Nat} {l:Nat->DiR}
theorem b8l {T T':Nat->Nat}{e e':Nat->Nat->List DV}(hT: ∀i,i<n->T i=T' i)(he: ∀i,i<n-> ∀j,j<T i->e i j=e' i j):a0b (b9l T e n) (b9l T' e' n):=by
 cases n with
 |zero=>exact a0b.refl _
 |succ n=>exact a0b.slr rfl fun i hi=> .one (.sl (hT i hi) fun j hj=>by rw[he i hi j hj];exact .refl _)
theorem a0x.frO (h:a0x n l){od:Nat->Int}(ho:a1u (l 0).no (l 0).no od):a2e (l 0).ns (l 0).no (l 0).sz od=0:=by
 rw[h.frOf,<-h.ons];exact ho
theorem a0x.ordO (h:a0x n l):a1u (l 0).no (l 0).no (l 0).od:=by
 have:=h.ord
 rw[<-h.ons] at this;exact this
theorem a0x.cellsT (h:a0x n l){od:Nat->Int}{i:Nat}(hi:i<n):b3m l i=b3m (Run.chg l (l 0).no od) i:=by
 unfold b3m
 rw[<-b1u (h.fr i hi).1];rfl
theorem a0x.cellsE (h:a0x n l){od:Nat->Int}(ho:a1u (l 0).no (l 0).no od){i:Nat}(hi:i<n){j:Nat}(hj:j<b3m l i):c2g l i j=c2g (Run.chg l (l 0).no od) i j:=by
 unfold c2g
 rw[h.chgCell (h.frO ho) hi]
 have:=(h.di i hi).T
 rw[b1u (h.fr i hi).1,<-this]
 exact Int.ofNat_lt.2 hj
theorem a0x.famLike (h:a0x n l){od:Nat->Int}(ho:a1u (l 0).no (l 0).no od):a0b (e8y n l od) (c0p n (Run.chg l (l 0).no od) (b3m (Run.chg l (l 0).no od)) (c2g (Run.chg l (l 0).no od)) n):=
 a1r.agg (.cons (a0b.refl _) (.cons (a0b.refl _) (.cons (a0b.refl _) (.cons (b8l (fun i hi=>h.cellsT hi) fun i hi j hj=>h.cellsE ho hi hj) .nil))))
theorem a0x.openF (h:a0x n l):a0j Tryz.prog false 54 [dsl n l] (.tuple [e8y n l (l 0).od,int 0]):=
 a0j.resLike (a1r.tuple (.cons (a1r.agg (.cons (a0b.refl _) (.cons (a0b.refl _) (.cons h.ownLike (.cons (a0b.refl _) .nil))))) (.cons (a0b.refl _) .nil))) h.open54
theorem a0x.inF (h:a0x n l)(hs:prod (l 0).sz (l 0).ns<=1000){od od':Nat->Int}(ho:a1u (l 0).no (l 0).no od)(ho':a1u (l 0).no (l 0).no od'):a0j Tryz.prog false 64 [e8y n l od,isl (l 0).no od'] (e8y n l od'):=by
 have hc:=h.chg hs (h.frO ho)
 refine a0j.like (.cons (h.famLike ho) (.cons (a0b.refl _) .nil)) (a0j.resLike ?_ (hc.in64 (no:=(l 0).no) (od:=od') (h.frO ho')))
 exact a1r.agg (.cons (a0b.refl _) (.cons (a0b.refl _) (.cons (h.chgLike2 (h.frO ho) (h.frO ho')) (.cons (b8l (fun i hi=>(h.cellsT hi).symm) fun i hi j hj=>(h.cellsE ho hi (by rw[h.cellsT (od:=od) hi];exact hj)).symm) .nil))))
theorem a0x.wid56 (h:a0x n l)(T:Nat->Nat)(e:Nat->Nat->List DV)(r:Nat->Int)(hr: ∀j,j<(l 0).ns->r j=cnt (a7d l n).on j):a0j Tryz.prog false 56 [c0p n l T e n] (isl (l 0).ns r):=by
 obtain⟨m,rfl⟩: ∃m,n=m+1:=⟨n-1,by have:=h.pos;omega⟩
 exact c9t (ns:=(l 0).ns) (no:=(l 0).no) (l 0).sz (l 0).od (m+1) (by have:=h.pos;omega) (by have:=(h.fit 0 h.pos.1).ns;omega) l h.good h.cells (fun i=>[.sl 2 (T i) (e i)]) r hr
theorem a0x.cos55 (h:a0x n l)(T:Nat->Nat)(e:Nat->Nat->List DV):a0j Tryz.prog true 55 [c0p n l T e n] (int ((a7d l n).on.length:Nat)):=by
 have h56:=h.wid56 T e _ fun j _=>rfl
 have hlen:=h.len
 have hns:=(h.fit 0 h.pos.1).ns
 have hcost:=h.cost
 obtain⟨m,rfl⟩: ∃m,n=m+1:=⟨n-1,by have:=h.pos;omega⟩
 exact e3g (by omega) _ _ _ _ (cnt (a7d l (m+1)).on) (fun j hj=>by have:=d7l (a7d l (m+1)).on j;omega) h56 ((a7d l (m+1)).on.length:Nat) hcost.symm
theorem a0x.costF (h:a0x n l)(hs:prod (l 0).sz (l 0).ns<=1000){od:Nat->Int}(ho:a1u (l 0).no (l 0).no od):a0j Tryz.prog true 55 [e8y n l od] (int (cst n l od)):=
 a0j.like (.cons (h.famLike ho) .nil) ((h.chg hs (h.frO ho)).cos55 _ _)
end
def bef (W:Nat->Int)(a b:Nat):Prop:=W b<W a\/W a=W b/\a<b
def lef (W:Nat->Int)(a b:Nat):Prop:=W b<W a\/W a=W b/\a<=b
def b6x (n:Nat)(u:Nat->Nat):Prop:=(∀i,i<n->u i<n)/\ ∀i j,i<n->j<n->u i=u j->i=j
end Go.Proofs.Tryz.Run
