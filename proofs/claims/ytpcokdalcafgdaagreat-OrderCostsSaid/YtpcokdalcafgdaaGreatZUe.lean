/- The program's cost and widths of a family. The reference's find. Conditions: none. -/
import Derived.Test.YtpcokdalcafgdaaGreatZUc
import Derived.Test.YtpcokdalcafgdaaGreatZOe
set_option linter.unusedSimpArgs false
set_option linter.unusedVariables false
namespace Go.Proofs.Tryz.Run
open Go Go.Vf Go.Proofs
open Go.Proofs.YtpcokdalcafgdaaGreat
def sumTo (r:Nat→Int):Nat→Int
 |0=>0
 |k+1=>sumTo r k+r k
theorem sumTo_bd {r:Nat→Int}{n:Nat}(h: ∀j,j<n→0≤r j∧r j≤1000000000): ∀k,k≤n→0≤sumTo r k∧sumTo r k≤1000000000*(k:Int)
 |0,_=>by simp[sumTo]
 |k+1,hk=>by
  have ih:=sumTo_bd h k (by omega)
  have:=h k (by omega)
  simp only[sumTo]
  omega
theorem cost55 {ns no n m:Nat}(hns:ns≤1000000)(e1 e2 e3 e4:Nat→List DV)(r:Nat→Int)(hr: ∀j,j<ns→0≤r j∧r j≤1000000000)
 (h56:PureF Tryz.prog false 56 [.agg [.d (.sl 1 ns e1),.d (.sl 1 no e2),.d (.sl 5 n e3),.d (.sl 1 m e4)]] (isl ns r)) (c:Int) (hc:c=sumTo r ns):
 PureF Tryz.prog true 55 [.agg [.d (.sl 1 ns e1),.d (.sl 1 no e2),.d (.sl 5 n e3),.d (.sl 1 m e4)]] (int c):=by
 have hb:=sumTo_bd hr
 refine pure_int (pureF_of_fn Tryz.mixed okP ok55 _ rfl fun E Sg hbs hS=> ?_)
 have ett: ∀z,Sg.toNat z=z.toNat:=by subst hS;exact fun _=>rfl
 cbv
 refine callb_i hS _ h56 ?_
 cbv
 refine loop_i Tryz.mixed okP hS (fun i=>i≤ns) (fun i=>ns-i)
  (fun i=>⟨mkTs [(2,int (sumTo r i)),(6,isl ns r),(7,int ns),(8,int i)] 17,[],[]⟩) 0 (by omega) ?_ ?_
 ·exact le_mk rfl ⟨lk_l rfl,Like.refl _,lk_v (by subst hS;rfl),lk_l rfl,trivial⟩ (.nil _) (by omega) (.inl ⟨by cbv,by cbv⟩) rfl
 ·intro i hi N hN
  obtain⟨z,hz⟩: ∃z,sumTo r i=z:=⟨_,rfl⟩
  obtain⟨z',hz'⟩: ∃z,sumTo r (i+1)=z:=⟨_,rfl⟩
  have hst:z'=z+r i:=by rw[←hz',←hz];rfl
  have hbi:=hb i hi
  simp only[hz] at hbi⊢
  cbv
  split
  ·have hlt:i<ns:=by rename_i h;clear hN h56 hb;subst hS;simp[std] at h;omega
   have hri:=hr i hlt
   have hb1:0≤z'∧z'≤1000000000000000:=by
    have h1:=hb (i+1) hlt
    rw[hz'] at h1
    have h2:((i+1:Nat):Int)≤1000000:=Int.ofNat_le.2 (show i+1≤1000000 by omega)
    exact⟨h1.1,Int.le_trans h1.2 (Int.le_trans (Int.mul_le_mul_of_nonneg_left h2 (by decide)) (by decide))⟩
   cbv
   refine req_i hS (by clear hN h56 hb;subst hS;simp[std];omega) ?_
   simp only[nat,ett,Int.ofNat_eq_natCast,Int.toNat_natCast]
   refine req_i hS (by clear hN h56 hb;subst hS;exact wrap64 (by simp[std];omega) (by simp[std];omega)) ?_
   refine req_i hS (by clear hN h56 hb;subst hS;exact wrap64 (by simp[std];omega) (by simp[std];omega)) ?_
   refine hN (i+1) _ hlt (by omega) (le_mk rfl ⟨?_,Like.refl _,Like.refl _,?_,trivial⟩ (.nil _) (by omega) (.inr rfl) rfl)
   ·rw[hz',hst];clear hN h56 hb;subst hS;exact lk_v (by simp[std])
   ·clear hN h56 hb;subst hS;exact lk_v (by simp[std])
  ·have:i=ns:=by rename_i h;clear hN h56 hb;subst hS;simp[std] at h;omega
   subst this
   cbv
   exact lk_v (hz.symm.trans hc.symm)
section
variable {n:Nat} {e0:Nat→List DV} {v:AV} {r:Int}
theorem cost18e (hv: ∃a b c d:DV,v= .agg [.d a,.d b,.d c,.d d])(h54:PureF Tryz.prog false 54 [.d (.sl 5 n e0)] (.tuple [v,int r]))(hr:r≠0):
 PureF Tryz.prog true 18 [.d (.sl 5 n e0)] (.tuple [int 0,int r]):=by
 obtain⟨a,b,c,d,rfl⟩:=hv
 refine pure_tup (fun z hz=>by simp at hz;rcases hz with rfl|rfl<;>trivial) (pureF_of_fn Tryz.mixed okP ok18 _ rfl fun E Sg hb hS=> ?_)
 cbv
 refine callb_i hS _ h54 ?_
 cbv
 split
 ·cbv
  exact Likes.tuple (.cons (lk_l rfl) (.cons (Like.refl _) .nil))
 ·rename_i h;exfalso;clear h54;subst hS;simp[std] at h;exact hr h
theorem cost18 {ns no m:Nat}{e1 e2 e3 e4:Nat→List DV}{k:Nat}(h54:PureF Tryz.prog false 54 [.d (.sl 5 n e0)] (.tuple [.agg [.d (.sl 1 ns e1),.d (.sl 1 no e2),.d (.sl 5 m e3),.d (.sl 1 k e4)],int 0]))(c:Int)
 (h55:PureF Tryz.prog true 55 [.agg [.d (.sl 1 ns e1),.d (.sl 1 no e2),.d (.sl 5 m e3),.d (.sl 1 k e4)]] (int c)):
 PureF Tryz.prog true 18 [.d (.sl 5 n e0)] (.tuple [int c,int 0]):=by
 refine pure_tup (fun z hz=>by simp at hz;rcases hz with rfl|rfl<;>trivial) (pureF_of_fn Tryz.mixed okP ok18 _ rfl fun E Sg hb hS=> ?_)
 cbv
 refine callb_i hS _ h54 ?_
 cbv
 split
 ·rename_i h;exfalso;clear h54 h55;subst hS;simp[std] at h
 cbv
 refine callb_i hS _ h55 ?_
 cbv
 exact Likes.tuple (.cons (Like.refl _) (.cons (lk_l rfl) .nil))
theorem take57e (hv: ∃a b c d:DV,v= .agg [.d a,.d b,.d c,.d d])(h54:PureF Tryz.prog false 54 [.d (.sl 5 n e0)] (.tuple [v,int r]))(hr:r≠0):
 PureF Tryz.prog false 57 [.agg [.fn 56 [] []],.d (.sl 5 n e0)] (.tuple [.d .nil,int r]):=by
 obtain⟨a,b,c,d,rfl⟩:=hv
 refine pureF_of_fn Tryz.mixed okP ok57 _ rfl fun E Sg hb hS=> ?_
 cbv
 refine callb_i hS _ h54 ?_
 cbv
 split
 ·cbv
  exact Likes.tuple (.cons (Like.refl _) (.cons (Like.refl _) .nil))
 ·rename_i h;exfalso;clear h54;subst hS;simp[std] at h;exact hr h
theorem take57 {ns no m k:Nat}{e1 e2 e3 e4:Nat→List DV}(h54:PureF Tryz.prog false 54 [.d (.sl 5 n e0)] (.tuple [.agg [.d (.sl 1 ns e1),.d (.sl 1 no e2),.d (.sl 5 m e3),.d (.sl 1 k e4)],int 0]))(e5:Nat→List DV)
 (h56:PureF Tryz.prog false 56 [.agg [.d (.sl 1 ns e1),.d (.sl 1 no e2),.d (.sl 5 m e3),.d (.sl 1 k e4)]] (.d (.sl 1 ns e5))):
 PureF Tryz.prog false 57 [.agg [.fn 56 [] []],.d (.sl 5 n e0)] (.tuple [.d (.sl 1 ns e5),int 0]):=by
 refine pureF_of_fn Tryz.mixed okP ok57 _ rfl fun E Sg hb hS=> ?_
 cbv
 refine callb_i hS _ h54 ?_
 cbv
 split
 ·rename_i h;exfalso;clear h54 h56;subst hS;simp[std] at h
 cbv
 refine call_ro hS (ACall.of_pure rfl h56) ?_
 cbv
 exact Likes.tuple (.cons (Like.refl _) (.cons (lk_l rfl) .nil))
theorem widths20 {x:DV}(h57:PureF Tryz.prog false 57 [.agg [.fn 56 [] []],.d (.sl 5 n e0)] (.tuple [.d x,int r])):PureF Tryz.prog false 20 [.d (.sl 5 n e0)] (.tuple [.d x,int r]):=by
 refine pureF_of_fn Tryz.mixed okP ok20 _ rfl fun E Sg hb hS=> ?_
 cbv
 refine callb_i hS _ h57 ?_
 cbv
 exact Likes.tuple (.cons (Like.refl _) (.cons (Like.refl _) .nil))
end
end Go.Proofs.Tryz.Run
set_option linter.unusedSimpArgs false
set_option linter.unusedVariables false
namespace Go.Proofs.Tryz.Run
open Go Go.Vf Go.Proofs
open Go.Proofs.YtpcokdalcafgdaaGreat
theorem at1_first {α:Type}[DecidableEq α]{n:Nat}{f:Nat→α}{v:α}{i:Nat}(hi:i<n)(h:f i=v)(hn: ∀j,j<i→f j≠v):Law.at1 (L n f) v=i:=by
 have key: ∀(l:List α) (i:Nat),l[i]? =some v→(∀j,j<i→l[j]? ≠some v)→Law.at1 l v=i:=by
  intro l
  induction l with
  |nil=>intro i h;simp at h
  |cons y l ih=>
   intro i h hn
   simp only[Law.at1]
   cases i with
   |zero=>simp at h;rw[if_pos h]
   |succ i=>
    have h0:y≠v:=fun e=>hn 0 (by omega) (by simp[e])
    rw[if_neg h0,ih i (by simpa using h) fun j hj=>by have:=hn (j+1) (by omega);simpa using this]
 refine key _ _ (by rw[L_get,if_pos hi,h]) fun j hj=> ?_
 rw[L_get,if_pos (by omega)]
 exact fun e=>hn j hj (Option.some.inj e)
theorem at1_none {α:Type}[DecidableEq α]{n:Nat}{f:Nat→α}{v:α}(hn: ∀j,j<n→f j≠v):v∉L n f∧Law.at1 (L n f) v=n:=by
 have h:v∉L n f:=fun h=>by
  obtain⟨j,hj,e⟩:=mem_L.1 h
  exact hn j hj e
 exact⟨h,by rw[Law.at1_not h,L_length]⟩
theorem at1_mem {α:Type}[DecidableEq α]{l:List α}{v:α}(h:Law.at1 l v<l.length):v∈l:=by
 by_cases hm:v∈l
 ·exact hm
 ·rw[Law.at1_not hm] at h;omega
def vslF (n:Nat)(ff fn:Nat→Int):AV:= .d (.sl 2 n fun i=>[.int .u8 (.v (ff i)),.int .i64 (.v (fn i))])
set_option maxHeartbeats 4000000 in
theorem find91 {n:Nat}(hn:n≤1000000)(ff fn:Nat→Int)(vf vn:Int)(r:Int)(hr:(Law.at1 (L n fun i=>VaR.mk (ff i) (fn i)) ⟨vf,vn⟩:Int)=r):PureF Tryz.prog true 91 [vslF n ff fn,.agg [u8 vf,int vn]] (int r):=by
 have hat: ∀i,i<n→(ff i=vf∧fn i=vn)→(∀j,j<i→ ¬(ff j=vf∧fn j=vn))→(i:Int)=r:=fun i hi h hj=>by
  rw[←hr,at1_first hi (by rw[h.1,h.2]) fun j hj' e=>hj j hj' (by injection e with a b;exact⟨a,b⟩)]
 have hno:(∀j,j<n→ ¬(ff j=vf∧fn j=vn))→(n:Int)=r:=fun h=>by
  rw[←hr,(at1_none fun j hj e=>h j hj (by injection e with a b;exact⟨a,b⟩)).2]
 clear hr
 refine pure_int (pureF_of_fn Tryz.mixed okP ok91 _ rfl fun E Sg hb hS=> ?_)
 have ett: ∀z,Sg.toNat z=z.toNat:=by subst hS;exact fun _=>rfl
 cbv
 refine loop_i Tryz.mixed okP hS (fun i=>i≤n∧ ∀j,j<i→ ¬(ff j=vf∧fn j=vn)) (fun i=>n-i)
  (fun i=>⟨mkTs [(0,vslF n ff fn),(3,.ptr 0 0),(5,int i)] 21,[.var [u8 vf,int vn]],[]⟩) 0 ⟨by omega,by omega⟩ ?_ ?_
 ·exact le_mk rfl ⟨Like.refl _,Like.refl _,lk_l rfl,trivial⟩ (.cons (.refl _) (.nil _)) (by simp;omega) (.inr rfl) rfl
 ·intro i hi N hN
  cbv
  split
  ·have hlt:i<n:=by rename_i h;clear hN hat hno;subst hS;simp[std] at h;omega
   cbv
   refine req_i hS (by clear hN hat hno;subst hS;simp[std];omega) ?_
   simp only[nat,ett,Int.ofNat_eq_natCast,Int.toNat_natCast]
   split
   ·have he:ff i=vf∧fn i=vn:=by rename_i h;clear hN hat hno;subst hS;simp[std] at h;exact h
    cbv
    exact lk_v (hat i hlt he hi.2)
   ·have he: ¬(ff i=vf∧fn i=vn):=by rename_i h;clear hN hat hno;subst hS;simp[std] at h;exact fun e=>h e.1 e.2
    cbv
    refine req_i hS (by clear hN hat hno;subst hS;exact wrap64 (by simp[std];omega) (by simp[std];omega)) ?_
    refine hN (i+1) _ ⟨by omega,fun j hj=> ?_⟩ (by omega) (le_mk rfl ⟨Like.refl _,Like.refl _,lk_v (by clear hN hat hno;subst hS;simp[std]),trivial⟩ (.cons (.refl _) (.nil _)) (by simp;omega) (.inr rfl) rfl)
    by_cases e:j=i
    ·subst e;exact he
    ·exact hi.2 j (by omega)
  ·have hin:i=n:=by rename_i h;clear hN hat hno;subst hS;simp[std] at h;omega
   subst hin
   cbv
   refine lk_v ?_
   have:=hno hi.2
   clear hN hat hno
   subst hS
   exact this
end Go.Proofs.Tryz.Run
