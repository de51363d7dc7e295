/- The program's cost and widths of a family. The reference's find. Conditions: none. -/
import Derived.Test.YtpcokdalcafgdaaGreatZUc
import Derived.Test.YtpcokdalcafgdaaGreatZOf
set_option linter.unusedSimpArgs false
set_option linter.unusedVariables false
namespace Go.Proofs.Tryz.Run
open Go Go.Vf Go.Proofs
open Go.Proofs.YtpcokdalcafgdaaGreat
def sumTo (r:Nat→Int):Nat→Int
 |0=>0
 |k+1=>sumTo r k+r k
theorem sumTo_bd {r:Nat→Int}{n:Nat}(h: ∀j,j<n→0≤r j∧r j≤1000000000): ∀k,k≤n→0≤sumTo r k∧sumTo r k≤1000000000*(k:Int)
 |0,_=>by simp[sumTo]
 |k+1,hk=>by
  have ih:=sumTo_bd h k (by omega)
  have:=h k (by omega)
  simp only[sumTo]
  omega
theorem cost55 {ns no n m:Nat}(hns:ns≤1000000)(e1 e2 e3 e4:Nat→List DV)(r:Nat→Int)(hr: ∀j,j<ns→0≤r j∧r j≤1000000000)
 (h56:PureF Tryz.prog false 56 [.agg [.d (.sl 1 ns e1),.d (.sl 1 no e2),.d (.sl 5 n e3),.d (.sl 1 m e4)]] (isl ns r)) (c:Int) (hc:c=sumTo r ns):
 PureF Tryz.prog true 55 [.agg [.d (.sl 1 ns e1),.d (.sl 1 no e2),.d (.sl 5 n e3),.d (.sl 1 m e4)]] (int c):=by
 have hb:=sumTo_bd hr
 refine pure_int (pureF_of_fn Tryz.mixed okP ok55 _ rfl fun E Sg hbs hS=> ?_)
 have ett: ∀z,Sg.toNat z=z.toNat:=by subst hS;exact fun _=>rfl
 cbv
 refine callb_i hS _ h56 ?_
 cbv
 refine loop_i Tryz.mixed okP hS (fun i=>i≤ns) (fun i=>ns-i)
  (fun i=>⟨mkTs [(2,int (sumTo r i)),(6,isl ns r),(7,int ns),(8,int i)] 17,[],[]⟩) 0 (by omega) ?_ ?_
 ·exact le_mk rfl ⟨lk_l rfl,Like.refl _,lk_v (by subst hS;rfl),lk_l rfl,trivial⟩ (.nil _) (by omega) (.inl ⟨by cbv,by cbv⟩) rfl
 ·intro i hi N hN
  obtain⟨z,hz⟩: ∃z,sumTo r i=z:=⟨_,rfl⟩
  obtain⟨z',hz'⟩: ∃z,sumTo r (i+1)=z:=⟨_,rfl⟩
  have hst:z'=z+r i:=by rw[←hz',←hz];rfl
  have hbi:=hb i hi
  simp only[hz] at hbi⊢
  cbv
  split
  ·have hlt:i<ns:=by rename_i h;clear hN h56 hb;subst hS;simp[std] at h;omega
   have hri:=hr i hlt
   have hb1:0≤z'∧z'≤1000000000000000:=by
    have h1:=hb (i+1) hlt
    rw[hz'] at h1
    have h2:((i+1:Nat):Int)≤1000000:=Int.ofNat_le.2 (show i+1≤1000000 by omega)
    exact⟨h1.1,Int.le_trans h1.2 (Int.le_trans (Int.mul_le_mul_of_nonneg_left h2 (by decide)) (by decide))⟩
   cbv
   refine req_i hS (by clear hN h56 hb;subst hS;simp[std];omega) ?_
   simp only[nat,ett,Int.ofNat_eq_natCast,Int.toNat_natCast]
   refine req_i hS (by clear hN h56 hb;subst hS;exact wrap64 (by simp[std];omega) (by simp[std];omega)) ?_
   refine req_i hS (by clear hN h56 hb;subst hS;exact wrap64 (by simp[std];omega) (by simp[std];omega)) ?_
   refine hN (i+1) _ hlt (by omega) (le_mk rfl ⟨?_,Like.refl _,Like.refl _,?_,trivial⟩ (.nil _) (by omega) (.inr rfl) rfl)
   ·rw[hz',hst];clear hN h56 hb;subst hS;exact lk_v (by simp[std])
   ·clear hN h56 hb;subst hS;exact lk_v (by simp[std])
  ·have:i=ns:=by rename_i h;clear hN h56 hb;subst hS;simp[std] at h;omega
   subst this
   cbv
   exact lk_v (hz.symm.trans hc.symm)
section
variable {n:Nat} {e0:Nat→List DV} {v:AV} {r:Int}
theorem cost18 {ns no m:Nat}{e1 e2 e3 e4:Nat→List DV}{k:Nat}(h54:PureF Tryz.prog false 54 [.d (.sl 5 n e0)] (.tuple [.agg [.d (.sl 1 ns e1),.d (.sl 1 no e2),.d (.sl 5 m e3),.d (.sl 1 k e4)],int 0]))(c:Int)
 (h55:PureF Tryz.prog true 55 [.agg [.d (.sl 1 ns e1),.d (.sl 1 no e2),.d (.sl 5 m e3),.d (.sl 1 k e4)]] (int c)):
 PureF Tryz.prog true 18 [.d (.sl 5 n e0)] (.tuple [int c,int 0]):=by
 refine pure_tup (fun z hz=>by simp at hz;rcases hz with rfl|rfl<;>trivial) (pureF_of_fn Tryz.mixed okP ok18 _ rfl fun E Sg hb hS=> ?_)
 cbv
 refine callb_i hS _ h54 ?_
 cbv
 split
 ·rename_i h;exfalso;clear h54 h55;subst hS;simp[std] at h
 cbv
 refine callb_i hS _ h55 ?_
 cbv
 exact Likes.tuple (.cons (Like.refl _) (.cons (lk_l rfl) .nil))
theorem take57 {ns no m k:Nat}{e1 e2 e3 e4:Nat→List DV}(h54:PureF Tryz.prog false 54 [.d (.sl 5 n e0)] (.tuple [.agg [.d (.sl 1 ns e1),.d (.sl 1 no e2),.d (.sl 5 m e3),.d (.sl 1 k e4)],int 0]))(e5:Nat→List DV)
 (h56:PureF Tryz.prog false 56 [.agg [.d (.sl 1 ns e1),.d (.sl 1 no e2),.d (.sl 5 m e3),.d (.sl 1 k e4)]] (.d (.sl 1 ns e5))):
 PureF Tryz.prog false 57 [.agg [.fn 56 [] []],.d (.sl 5 n e0)] (.tuple [.d (.sl 1 ns e5),int 0]):=by
 refine pureF_of_fn Tryz.mixed okP ok57 _ rfl fun E Sg hb hS=> ?_
 cbv
 refine callb_i hS _ h54 ?_
 cbv
 split
 ·rename_i h;exfalso;clear h54 h56;subst hS;simp[std] at h
 cbv
 refine call_ro hS (ACall.of_pure rfl h56) ?_
 cbv
 exact Likes.tuple (.cons (Like.refl _) (.cons (lk_l rfl) .nil))
theorem widths20 {x:DV}(h57:PureF Tryz.prog false 57 [.agg [.fn 56 [] []],.d (.sl 5 n e0)] (.tuple [.d x,int r])):PureF Tryz.prog false 20 [.d (.sl 5 n e0)] (.tuple [.d x,int r]):=by
 refine pureF_of_fn Tryz.mixed okP ok20 _ rfl fun E Sg hb hS=> ?_
 cbv
 refine callb_i hS _ h57 ?_
 cbv
 exact Likes.tuple (.cons (Like.refl _) (.cons (Like.refl _) .nil))
end
end Go.Proofs.Tryz.Run
set_option linter.unusedSimpArgs false
set_option linter.unusedVariables false
namespace Go.Proofs.Tryz.Run
open Go Go.Vf Go.Proofs
open Go.Proofs.YtpcokdalcafgdaaGreat
theorem at1_mem {α:Type}[DecidableEq α]{l:List α}{v:α}(h:Law.at1 l v<l.length):v∈l:=by
 by_cases hm:v∈l
 ·exact hm
 ·rw[Law.at1_not hm] at h;omega
end Go.Proofs.Tryz.Run
