/- The reference's frames: In, has, rising, Product, IsOrder, CheckFrame, Many, Slim. Slim; cells; diagrams as data. Diagrams as data; IsRef, Rank. Flat; copies of lists. Conditions: none. -/
import Derived.Test.YtpcokdalcafgdaaGreatWLq
import Derived.Test.YtpcokdalcafgdaaGreatWNa
import Derived.Test.YtpcokdalcafgdaaGreatWNc
import Derived.Test.YtpcokdalcafgdaaGreatWLh
import Derived.Test.YtpcokdalcafgdaaGreatWNb
import Derived.Test.YtpcokdalcafgdaaGreatWOh
import Derived.Test.YtpcokdalcafgdaaGreatWPm0
set_option linter.unusedSimpArgs false
set_option linter.unusedVariables false
set_option maxHeartbeats 0
namespace Go.Proofs.Tryz.Run
open Go Go.Vf Go.Proofs
open Go.Proofs.YtpcokdalcafgdaaGreat
theorem f3s (a b c:Int)(r:Bool)(hr:r=true↔b<=a/\a<=c):a0j Tryz.prog true 43 [int a,int b,int c] (bool r):=by
 refine a0s (a0d Tryz.mixed okP g7v _ rfl fun E Sg hb hS=> ?_)
 cbv
 split<;>cbv
 all_goals subst hS;simp[std] at*;exact a0v (by cases r<;>simp at* <;>omega)
theorem e3k {n:Nat}(hn:n<=1000000)(g:Nat->Int)(x:Int)(r:Bool)(hr:r=true↔ ∃i,i<n/\g i=x):a0j Tryz.prog true 155 [isl n g,int x] (bool r):=by
 refine a0s (a0d Tryz.mixed okP f7x _ rfl fun E Sg hb hS=> ?_)
 cbv
 refine a0y Tryz.mixed okP hS (fun i=>i<=n/\ ∀j,j<i->g j≠x) (fun i=>n-i)
  (fun i=>⟨a2l [(0,isl n g),(1,int x),(5,int i)] 18,[],[]⟩) 0 ⟨by omega,by omega⟩ ?_ ?_
 ·exact a0m rfl ⟨a0b.refl _,a0b.refl _,a1m rfl,trivial⟩ (.nil _) (by omega) (.inr rfl) rfl
 ·intro i hi N hN
  cbv
  split
  ·have hlt:i<n:=by subst hS;simp[std] at*;omega
   cbv
   refine a0a hS (by subst hS;simp[std];omega) ?_
   split
   ·have hx:g i=x:=by subst hS;simp[std,nat,IX.val] at*;assumption
    cbv
    exact b8q hr ⟨i,hlt,hx⟩
   ·have hx:g i≠x:=by subst hS;simp[std,nat,IX.val] at*;assumption
    cbv
    refine a0a hS (by subst hS;exact a0h (by simp[std];omega) (by simp[std];omega)) ?_
    refine hN (i+1) _ ⟨by omega,fun j hj=> ?_⟩ (by omega) (a0m rfl ⟨a0b.refl _,a0b.refl _,a1f (by subst hS;simp[std]),trivial⟩ (.nil _) (by omega) (.inr rfl) rfl)
    by_cases e:j=i
    ·subst e;exact hx
    ·exact hi.2 j (by omega)
  ·have hall: ∀j,j<n->g j≠x:=by subst hS;simp[std] at*;exact fun j hj=>hi.2 j (by omega)
   cbv
   exact a2i hr fun⟨i,h1,h2⟩=>hall i h1 h2
theorem c1r {n:Nat}(hn:n<=1000000)(g:Nat->Int)(m:Int)(r:Bool)(hr:r=true↔(∀i,i<n->g i=i)/\(n:Int)=m):a0j Tryz.prog true 117 [isl n g,int m] (bool r):=by
 refine a0s (a0d Tryz.mixed okP f8n _ rfl fun E Sg hb hS=> ?_)
 cbv
 refine a0y Tryz.mixed okP hS (fun i=>i<=n/\ ∀j,j<i->g j=j) (fun i=>n-i)
  (fun i=>⟨a2l [(0,isl n g),(1,int m),(5,int i)] 22,[],[]⟩) 0 ⟨by omega,by omega⟩ ?_ ?_
 ·exact a0m rfl ⟨a0b.refl _,a0b.refl _,a1m rfl,trivial⟩ (.nil _) (by omega) (.inr rfl) rfl
 ·intro i hi N hN
  cbv
  split
  ·have hlt:i<n:=by subst hS;simp[std] at*;omega
   cbv
   refine a0a hS (by subst hS;simp[std];omega) ?_
   split
   ·have hx:g i≠i:=by subst hS;simp[std,nat,IX.val] at*;assumption
    cbv
    exact a2i hr fun h=>hx (h.1 i hlt)
   ·have hx:g i=i:=by subst hS;simp[std,nat,IX.val] at*;assumption
    cbv
    refine a0a hS (by subst hS;exact a0h (by simp[std];omega) (by simp[std];omega)) ?_
    refine hN (i+1) _ ⟨by omega,fun j hj=> ?_⟩ (by omega) (a0m rfl ⟨a0b.refl _,a0b.refl _,a1f (by subst hS;simp[std]),trivial⟩ (.nil _) (by omega) (.inr rfl) rfl)
    by_cases e:j=i
    ·subst e;exact hx
    ·exact hi.2 j (by omega)
  ·have hall: ∀j,j<n->g j=j:=by subst hS;simp[std] at*;exact fun j hj=>hi.2 j (by omega)
   cbv
   refine a0v ?_
   subst hS
   simp[std]
   cases r
   ·have: ¬((n:Int)=m):=fun h=>Bool.noConfusion (hr.2 ⟨hall,h⟩)
    simpa using this
   ·simpa using (hr.1 rfl).2
def prod (g:Nat->Int):Nat->Int
 |0=>1
 |n+1=>prod g n*g n
theorem a4m {g:Nat->Int}: ∀{n:Nat},(∀i,i<n->1<=g i)->1<=prod g n
 |0,_=>by simp[prod]
 |n+1,h=>by
  have h1:=a4m (g:=g) (n:=n) fun i hi=>h i (by omega)
  have h2:=h n (by omega)
  have:1*1<=prod g n*g n:=Int.mul_le_mul h1 h2 (by omega) (by omega)
  simpa [prod] using this
theorem e0h {p s:Int}(hp:1<=p)(hs:1<=s):min 3000 (min 3000 p*s)=min 3000 (p*s):=by
 by_cases h:p<=3000
 ·rw[Int.min_eq_right h]
 ·rw[Int.min_eq_left (a:=3000) (b:=p) (by omega)]
  have h1:3000*1<=3000*s:=Int.mul_le_mul_of_nonneg_left hs (by omega)
  have h2:3000*s<=p*s:=Int.mul_le_mul_of_nonneg_right (by omega) (by omega)
  rw[Int.min_eq_left (by omega),Int.min_eq_left (by omega)]
theorem c3j {n:Nat}(hn:n<=1000000)(g:Nat->Int)(hg: ∀i,i<n->1<=g i/\g i<=12)(r:Int)(hr:r=min 3000 (prod g n)):a0j Tryz.prog true 86 [isl n g,int 0] (int r):=by
 refine a1y (a0d Tryz.mixed okP g5n _ rfl fun E Sg hb hS=> ?_)
 cbv
 refine a0y Tryz.mixed okP hS (fun (s:Nat×Int)=>s.1<=n/\s.2=min 3000 (prod g s.1)/\1<=s.2/\s.2<=3000) (fun s=>n-s.1)
  (fun s=>⟨a2l [(0,isl n g),(5,int s.2),(6,int s.1)] 22,[],[]⟩) (0,1) ⟨by simp,by simp only[prod];decide,by simp,by simp⟩ ?_ ?_
 ·exact a0m rfl ⟨a0b.refl _,a1m rfl,a1f rfl,trivial⟩ (.nil _) (by omega) (.inr rfl) rfl
 ·rintro⟨i,p⟩ ⟨h1,h2,h3,h4⟩ N hN
  simp only at h1 h2 h3 h4 hN
  cbv
  split
  ·have hlt:i<n:=by subst hS;simp[std] at*;omega
   have hgi:=hg i hlt
   have hmul:1<=p*g i/\p*g i<=36000:=by
    have q1:1*1<=p*g i:=Int.mul_le_mul h3 hgi.1 (by omega) (by omega)
    have q2:p*g i<=3000*12:=Int.mul_le_mul h4 hgi.2 (by omega) (by omega)
    omega
   have hpp:=a4m (g:=g) (n:=i) fun j hj=>(hg j (by omega)).1
   cbv
   refine a0a hS (by subst hS;simp[std];omega) ?_
   refine a0a hS (by subst hS;exact a0h (by simp[std,nat,IX.val];omega) (by simp[std,nat,IX.val];omega)) ?_
   refine a0a hS (by subst hS;exact a0h (by simp[std];omega) (by simp[std];omega)) ?_
   refine hN (i+1,min 3000 (p*g i)) _ ⟨by simp;omega,?_,by simp only;omega,by simp only;omega⟩ (by simp;omega) (a0m rfl ⟨a0b.refl _,a1f ?_,a1f (by subst hS;simp[std]),trivial⟩ (.nil _) (by omega) (.inr rfl) rfl)
   ·simp only[prod,h2];exact e0h hpp hgi.1
   ·subst hS
    simp[std,nat,IX.val]
    split<;>omega
  ·have hin:i=n:=by subst hS;simp[std] at*;omega
   subst hin
   cbv
   exact a1f (h2.trans hr.symm)
def a1u (n m:Nat)(h:Nat->Int):Prop:=m=n/\ ∀i,i<m->(0<=h i/\h i<=(n:Int)-1)/\ ∀k,k<i->h k≠h i
theorem d2u {n m:Nat}(hn:n<=1000000)(hm:m<=1000000)(g h:Nat->Int)(r:Bool)(hr:r=true↔a1u n m h):a0j Tryz.prog true 38 [isl n g,isl m h] (bool r):=by
 refine a0s (a0d Tryz.mixed okP g8p _ rfl fun E Sg hb hS=> ?_)
 cbv
 split
 ·have hne:m≠n:=by subst hS;simp[std] at*;omega
  cbv
  exact a2i hr fun h=>hne h.1
 have hmn:m=n:=by subst hS;simp[std] at*;omega
 cbv
 refine a0y Tryz.mixed okP hS (fun i=>i<=m/\ ∀j,j<i->(0<=h j/\h j<=(n:Int)-1)/\ ∀k,k<j->h k≠h j) (fun i=>m-i)
  (fun i=>⟨a2l [(0,isl n g),(1,isl m h),(5,int i)] 41,[],[]⟩) 0 ⟨by omega,by omega⟩ ?_ ?_
 ·exact a0m rfl ⟨a0b.refl _,a0b.refl _,a1m rfl,trivial⟩ (.nil _) (by omega) (.inr rfl) rfl
 ·intro i hi N hN
  have hin:=f3s (h i) 0 ((n:Int)-1) (decide (0<=h i/\h i<=(n:Int)-1)) decide_eq_true_iff
  generalize hz:decide (0<=h i/\h i<=(n:Int)-1)=z at hin
  cbv
  split
  ·have hlt:i<m:=by subst hS;simp[std] at*;omega
   cbv
   refine a0a hS (by subst hS;simp[std];omega) ?_
   refine a0a hS (by subst hS;exact a0h (by simp[std];omega) (by simp[std];omega)) ?_
   refine a0e hS (bool z) (by subst hS;exact hin) ?_
   cases z
   ·cbv
    exact a2i hr fun hh=>of_decide_eq_false hz (hh.2 i hlt).1
   ·have hz:0<=h i/\h i<=(n:Int)-1:=by simpa using hz
    cbv
    refine a0y Tryz.mixed okP hS (fun k=>k<=i/\ ∀j,j<k->h j≠h i) (fun k=>i-k)
     (fun k=>⟨a2l [(0,isl n g),(1,isl m h),(5,int i),(6,int k)] 41,[],[]⟩) 0 ⟨by omega,by omega⟩ ?_ ?_
    ·exact a0m rfl ⟨a0b.refl _,a0b.refl _,a0b.refl _,a1m rfl,trivial⟩ (.nil _) (by omega) (.inr rfl) rfl
    ·intro k hk N2 hN2
     cbv
     split
     ·have hlk:k<i:=by subst hS;simp[std] at*;omega
      cbv
      refine a0a hS (by subst hS;simp[std];omega) ?_
      refine a0a hS (by subst hS;simp[std];omega) ?_
      split
      ·have hx:h k=h i:=by subst hS;simp[std,nat,IX.val] at*;assumption
       cbv
       exact a2i hr fun hh=>(hh.2 i hlt).2 k hlk hx
      ·have hx:h k≠h i:=by subst hS;simp[std,nat,IX.val] at*;assumption
       cbv
       refine a0a hS (by subst hS;exact a0h (by simp[std];omega) (by simp[std];omega)) ?_
       refine hN2 (k+1) _ ⟨by omega,fun j hj=> ?_⟩ (by omega) (a0m rfl ⟨a0b.refl _,a0b.refl _,a0b.refl _,a1f (by subst hS;simp[std]),trivial⟩ (.nil _) (by omega) (.inr rfl) rfl)
       by_cases e:j=k
       ·subst e;exact hx
       ·exact hk.2 j (by omega)
     ·have hki: ∀j,j<i->h j≠h i:=by subst hS;simp[std] at*;exact fun j hj=>hk.2 j (by omega)
      cbv
      refine a0a hS (by subst hS;exact a0h (by simp[std];omega) (by simp[std];omega)) ?_
      refine hN (i+1) _ ⟨by omega,fun j hj=> ?_⟩ (by omega) (a0m rfl ⟨a0b.refl _,a0b.refl _,a1f (by subst hS;simp[std]),trivial⟩ (.nil _) (by omega) (.inr rfl) rfl)
      by_cases e:j=i
      ·subst e;exact⟨hz,hki⟩
      ·exact hi.2 j (by omega)
  ·have hall:a1u n m h:=⟨hmn,by subst hS;simp[std] at*;exact fun j hj=>hi.2 j (by omega)⟩
   cbv
   exact b8q hr hall
open Classical in
noncomputable def a2e (n m:Nat)(g h:Nat->Int):Int:=
 if 6<n then 5 else if¬ ∀i,i<n->1<=g i/\g i<=12 then 3 else if 2000<prod g n then 5 else if a1u n m h then 0 else 4
theorem b0p {n m:Nat}(hn:n<=1000000)(hm:m<=1000000)(g h:Nat->Int)(r:Int)(hr:a2e n m g h=r):a0j Tryz.prog true 114 [isl n g,isl m h] (int r):=by
 refine a1y (a0d Tryz.mixed okP f5l _ rfl fun E Sg hb hS=> ?_)
 unfold a2e at hr
 cbv
 split
 ·have h6:6<n:=by subst hS;simp[std] at*;omega
  cbv
  exact a1m (by rw[<-hr,if_pos h6];rfl)
 have h6: ¬6<n:=by subst hS;simp[std] at*;omega
 rw[if_neg h6] at hr
 cbv
 refine a0y Tryz.mixed okP hS (fun i=>i<=n/\ ∀j,j<i->1<=g j/\g j<=12) (fun i=>n-i)
  (fun i=>⟨a2l [(0,isl n g),(1,isl m h),(5,int i)] 28,[],[]⟩) 0 ⟨by omega,by omega⟩ ?_ ?_
 ·exact a0m rfl ⟨a0b.refl _,a0b.refl _,a1m rfl,trivial⟩ (.nil _) (by omega) (.inr rfl) rfl
 ·intro i hi N hN
  have hin:=f3s (g i) 1 12 (decide (1<=g i/\g i<=12)) decide_eq_true_iff
  generalize hz:decide (1<=g i/\g i<=12)=z at hin
  cbv
  split
  ·have hlt:i<n:=by subst hS;simp[std] at*;omega
   cbv
   refine a0a hS (by subst hS;simp[std];omega) ?_
   refine a0e hS (bool z) (by subst hS;exact hin) ?_
   cases z
   ·cbv
    exact a1m (by rw[<-hr,if_pos (fun hh=>of_decide_eq_false hz (hh i hlt))];rfl)
   ·cbv
    refine a0a hS (by subst hS;exact a0h (by simp[std];omega) (by simp[std];omega)) ?_
    refine hN (i+1) _ ⟨by omega,fun j hj=> ?_⟩ (by omega) (a0m rfl ⟨a0b.refl _,a0b.refl _,a1f (by subst hS;simp[std]),trivial⟩ (.nil _) (by omega) (.inr rfl) rfl)
    by_cases e:j=i
    ·subst e;exact of_decide_eq_true hz
    ·exact hi.2 j (by omega)
  ·have hall: ∀j,j<n->1<=g j/\g j<=12:=by subst hS;simp[std] at*;exact fun j hj=>hi.2 j (by omega)
   rw[if_neg (fun k=>k hall)] at hr
   cbv
   refine a0e hS _ (c3j hn g hall _ rfl) ?_
   generalize hp:min 3000 (prod g n)=p
   cbv
   split
   ·have:2000<prod g n:=by subst hS;simp[std] at*;omega
    cbv
    exact a1m (by rw[<-hr,if_pos this];rfl)
   have hpr: ¬2000<prod g n:=by subst hS;simp[std] at*;omega
   rw[if_neg hpr] at hr
   obtain⟨z,hz⟩: ∃z:Bool,z=true↔a1u n m h:=by classical exact⟨decide _,decide_eq_true_iff⟩
   cbv
   refine a0e hS _ (d2u hn hm g h z hz) ?_
   cases z
   ·cbv
    exact a1m (by rw[<-hr,if_neg (fun h=>Bool.noConfusion (hz.2 h))];rfl)
   ·cbv
    exact a1m (by rw[<-hr,if_pos (hz.1 rfl)];rfl)
theorem d5w {n:Nat}(hn:n<=1000000)(g:Nat->Int)(hg: ∀i,i<n->1<=g i/\g i<=12)(r:Int)(hr:r=min 3000 (prod g n)):a0j Tryz.prog true 52 [isl n g] (int r):=by
 refine a1y (a0d Tryz.mixed okP g6m _ rfl fun E Sg hb hS=> ?_)
 cbv
 refine a0e hS _ (c3j hn g hg r hr) ?_
 cbv
 exact a0b.refl _
theorem a1k {n m:Nat}{g h:Nat->Int}(e:a2e n m g h=0):n<=6/\(∀i,i<n->1<=g i/\g i<=12)/\prod g n<=2000/\a1u n m h:=by
 unfold a2e at e
 split at e
 ·cases e
 ·split at e
  ·cases e
  ·split at e
   ·cases e
   ·split at e
    ·rename_i a b c d;exact⟨by omega,Classical.not_not.1 b,by omega,d⟩
    ·cases e
def f7d (n m:Nat)(g h:Nat->Int):Prop:=n<=8/\m<=8/\(a2e n m g h=0->prod g n<=200)
theorem f2u {n m:Nat}(g h:Nat->Int)(r:Bool)(hr:r=true↔f7d n m g h):a0j Tryz.prog true 83 [isl n g,isl m h] (bool r):=by
 refine a0s (a0d Tryz.mixed okP g5g _ rfl fun E Sg hb hS=> ?_)
 cbv
 split
 ·have:8<n:=by subst hS;simp[std] at*;omega
  cbv
  exact a2i hr fun h=>by have:=h.1;omega
 have h1:n<=8:=by subst hS;simp[std] at*;omega
 cbv
 split
 ·have:8<m:=by subst hS;simp[std] at*;omega
  cbv
  exact a2i hr fun h=>by have:=h.2.1;omega
 have h2:m<=8:=by subst hS;simp[std] at*;omega
 obtain⟨e,he⟩: ∃e,a2e n m g h=e:=⟨_,rfl⟩
 cbv
 refine a0e hS _ (b0p (by omega) (by omega) g h e he) ?_
 cbv
 split
 ·have:e≠0:=by subst hS;simp[std] at*;assumption
  cbv
  exact b8q hr ⟨h1,h2,fun h=>absurd (he.symm.trans h) this⟩
 ·have h0:e=0:=by subst hS;simp[std] at*;assumption
  have hf:=a1k (he.trans h0)
  cbv
  refine a0e hS _ (d5w (by omega) g hf.2.1 _ rfl) ?_
  generalize hp:min 3000 (prod g n)=p
  cbv
  refine a0v ?_
  subst hS
  simp[std]
  cases r
  ·have: ¬prod g n<=200:=fun h=>Bool.noConfusion (hr.2 ⟨h1,h2,fun _=>h⟩)
   simp;omega
  ·have:=(hr.1 rfl).2.2 (he.trans h0)
   simp;omega
structure VaR where
 fault:Int
 n:Int
def VaR.row (v:VaR):List DV:=[.int .u8 (.v v.fault),.int .i64 (.v v.n)]
def VaR.av (v:VaR):AV:= .agg [u8 v.fault,int v.n]
def a2c (v:VaR):Prop:=if v.fault=0 then-9999<=v.n/\v.n<=9999 else v.fault<=4/\v.n=0
theorem d2y (v:VaR)(r:Bool)(hr:r=true↔a2c v):a0j Tryz.prog true 152 [v.av] (bool r):=by
 obtain⟨f,n⟩:=v
 simp only[a2c] at hr
 refine a0s (a0d Tryz.mixed okP f6g _ rfl fun E Sg hb hS=> ?_)
 have hin:=f3s n (-9999) 9999 (decide (-9999<=n/\n<=9999)) decide_eq_true_iff
 generalize hz:decide (-9999<=n/\n<=9999)=z at hin
 cbv
 split
 ·have h0:f=0:=by subst hS;simp[std] at*;assumption
  cbv
  refine a0e hS _ hin ?_
  cbv
  rw[if_pos h0] at hr
  exact a0v (by cases r<;>cases z<;>simp at* <;>omega)
 ·have h0:f≠0:=by subst hS;simp[std] at*;assumption
  rw[if_neg h0] at hr
  cbv
  split<;>cbv
  all_goals subst hS;simp[std] at*;exact a0v (by cases r<;>simp at* <;>omega)
structure DiR where
 ns:Nat
 sz:Nat->Int
 no:Nat
 od:Nat->Int
 ne:Nat
 en:Nat->VaR
 nn:Nat
 var:Nat->Int
 nk:Nat->Nat
 kid:Nat->Nat->Int
 root:Int
def vsl (n:Nat)(f:Nat->VaR):AV:= .d (.sl 2 n fun i=>(f i).row)
def bsl (n:Nat)(var:Nat->Int)(nk:Nat->Nat)(kid:Nat->Nat->Int):AV:= .d (.sl 2 n fun i=>[.int .i64 (.v (var i)),.sl 1 (nk i) fun j=>[.int .i64 (.v (kid i j))]])
def DiR.av (d:DiR):AV:= .agg [isl d.ns d.sz,isl d.no d.od,vsl d.ne d.en,bsl d.nn d.var d.nk d.kid,int d.root]
def a4s (z:Int):Prop:= -9223372036854775808<=z/\z<=9223372036854775807
def isRef (d:DiR)(ref below:Int):Prop:=if 0<=ref then ref<below else-1-ref<=(d.ne:Int)-1
theorem d9w (d:DiR)(ref below:Int)(hd:d.ne<=1000000)(hw:a4s ref)(r:Bool)(hr:r=true↔isRef d ref below):a0j Tryz.prog true 153 [d.av,int ref,int below] (bool r):=by
 have hin:=f3s (-1-ref) 0 ((d.ne:Int)-1) (decide (0<= -1-ref/\ -1-ref<=(d.ne:Int)-1)) decide_eq_true_iff
 generalize hz:decide (0<= -1-ref/\ -1-ref<=(d.ne:Int)-1)=z at hin
 simp only[isRef] at hr
 obtain⟨ns,sz,no,od,ne,en,nn,var,nk,kid,root⟩:=d
 simp only at hr hd hin hz
 simp only[a4s] at hw
 refine a0s (a0d Tryz.mixed okP f7r _ rfl fun E Sg hb hS=> ?_)
 cbv
 split
 ·have h0:0<=ref:=by subst hS;simp[std] at*;assumption
  rw[if_pos h0] at hr
  cbv
  refine a0v ?_
  subst hS;simp[std] at*;cases r<;>simp at* <;>omega
 ·have h0: ¬0<=ref:=by subst hS;simp[std] at*;omega
  rw[if_neg h0] at hr
  cbv
  refine a0a hS (by subst hS;exact a0h (by simp[std];omega) (by simp[std];omega)) ?_
  refine a0a hS (by subst hS;exact a0h (by simp[std];omega) (by simp[std];omega)) ?_
  refine a0e hS (bool z) (by subst hS;exact hin) ?_
  cbv
  refine a0v ?_
  cases z
  ·have:=of_decide_eq_false hz
   cases r
   ·rfl
   ·have:=hr.1 rfl;omega
  ·have:=of_decide_eq_true hz
   cases r
   ·exact absurd (hr.2 this.2) (by simp)
   ·rfl
def pos (od:Nat->Int)(v:Int):Nat->Nat->Nat
 |0,i=>i
 |k+1,i=>if od i=v then i else pos od v k (i+1)
theorem a6r {od:Nat->Int}{v:Int}: ∀{k i j:Nat},i<=j->j<i+k->od j=v->(∀l,i<=l->l<j->od l≠v)->pos od v k i=j
 |0,i,j,h1,h2,_,_=>by omega
 |k+1,i,j,h1,h2,h3,h4=>by
  rw[pos]
  by_cases e:i=j
  ·subst e;rw[if_pos h3]
  ·rw[if_neg (h4 i (by omega) (by omega))]
   exact a6r (by omega) (by omega) h3 fun l hl=>h4 l (by omega)
theorem b9c {od:Nat->Int}{v:Int}: ∀{k i:Nat},(∀l,i<=l->l<i+k->od l≠v)->pos od v k i=i+k
 |0,i,_=>by rw[pos];omega
 |k+1,i,h=>by
  rw[pos,if_neg (h i (by omega) (by omega)),b9c fun l hl hl2=>h l (by omega) (by omega)]
  omega
def a4f (d:DiR)(ref:Int):Nat:=if 0<=ref then pos d.od (d.var ref.toNat) d.no 0 else d.no
theorem e7l (d:DiR)(ref:Int)(hd:d.no<=1000000)(hr:0<=ref->ref<d.nn)(r:Int)(he:r=a4f d ref):a0j Tryz.prog true 154 [d.av,int ref] (int r):=by
 simp only[a4f] at he
 obtain⟨ns,sz,no,od,ne,en,nn,var,nk,kid,root⟩:=d
 simp only at hd hr he
 refine a1y (a0d Tryz.mixed okP f8l _ rfl fun E Sg hb hS=> ?_)
 have ett: ∀z,Sg.toNat z=z.toNat:=by subst hS;exact fun _=>rfl
 cbv
 refine a0y Tryz.mixed okP hS (fun i=>i<=no/\ ∀j,j<i->0<=ref/\od j≠var ref.toNat) (fun i=>no-i)
  (fun i=>⟨a2l [(1,int ref),(2,.ptr 0 0),(5,int i)] 33,[.var [isl ns sz,isl no od,vsl ne en,bsl nn var nk kid,int root]],[]⟩) 0 ⟨by omega,by omega⟩ ?_ ?_
 ·exact a0m rfl ⟨a0b.refl _,a0b.refl _,a1m rfl,trivial⟩ (.cons (.refl _) (.nil _)) (by simp;omega) (.inr rfl) rfl
 ·intro i hi N hN
  cbv
  split
  ·have h0:0<=ref:=by subst hS;simp[std] at*;assumption
   rw[if_pos h0] at he
   cbv
   split
   ·have hlt:i<no:=by subst hS;simp[std] at*;omega
    cbv
    refine a0a hS (by subst hS;simp[std];omega) ?_
    refine a0a hS (by subst hS;exact⟨h0,hr h0⟩) ?_
    simp only[nat,ett,Int.ofNat_eq_natCast,Int.toNat_natCast]
    split
    ·have hx:od i=var ref.toNat:=by subst hS;simp[std] at*;assumption
     cbv
     refine a1f ?_
     rw[he,a6r (j:=i) (by omega) (by omega) hx fun l _ hl=>(hi.2 l hl).2]
     rfl
    ·have hx:od i≠var ref.toNat:=by subst hS;simp[std] at*;assumption
     cbv
     refine a0a hS (by subst hS;exact a0h (by simp[std];omega) (by simp[std];omega)) ?_
     refine hN (i+1) _ ⟨by omega,fun j hj=> ?_⟩ (by omega) (a0m rfl ⟨a0b.refl _,a0b.refl _,a1f (by subst hS;simp[std]),trivial⟩ (.cons (.refl _) (.nil _)) (by simp;omega) (.inr rfl) rfl)
     by_cases e:j=i
     ·subst e;exact⟨h0,hx⟩
     ·exact hi.2 j (by omega)
   ·have hin:i=no:=by subst hS;simp[std] at*;omega
    subst hin
    cbv
    refine a1f ?_
    rw[he,b9c fun l _ hl=>(hi.2 l (by omega)).2]
    subst hS
    simp[std]
  ·have h0: ¬0<=ref:=by subst hS;simp[std] at*;omega
   rw[if_neg h0] at he
   cbv
   refine a1f ?_
   rw[he]
   subst hS
   rfl
theorem c5c (v:Int){n:Nat}(hn:n<=1000000)(g:Nat->Int)(r:Bool)(hr:r=true↔ ∀i,i<n->g i=g 0):a0j Tryz.prog true 113 [.agg [int v,isl n g]] (bool r):=by
 refine a0s (a0d Tryz.mixed okP f1z _ rfl fun E Sg hb hS=> ?_)
 have ett: ∀z,Sg.toNat z=z.toNat:=by subst hS;exact fun _=>rfl
 have h00: ∀j,j<1->j<n->g j=g 0:=fun j hj _=>by
  have:j=0:=by omega
  rw[this]
 cbv
 refine a0y Tryz.mixed okP hS (fun i=>1<=i/\(i<=n\/n=0/\i=1)/\ ∀j,j<i->j<n->g j=g 0) (fun i=>n-i)
  (fun i=>⟨a2l [(1,.ptr 0 0),(3,int i)] 21,[.var [int v,isl n g]],[]⟩) 1 ⟨by omega,by omega,h00⟩ ?_ ?_
 ·exact a0m rfl ⟨a0b.refl _,a1m rfl,trivial⟩ (.cons (.refl _) (.nil _)) (by simp;omega) (.inr rfl) rfl
 ·intro i hi N hN
  cbv
  split
  ·have hlt:i<n:=by subst hS;simp[std] at*;omega
   cbv
   refine a0a hS (by subst hS;simp[std];omega) ?_
   refine a0a hS (by subst hS;simp[std];omega) ?_
   simp only[nat,ett,Int.ofNat_eq_natCast,Int.toNat_natCast]
   split
   ·have hx:g i≠g 0:=by subst hS;simp[std] at*;assumption
    cbv
    exact a2i hr fun h=>hx (h i hlt)
   ·have hx:g i=g 0:=by subst hS;simp[std] at*;assumption
    cbv
    refine a0a hS (by subst hS;exact a0h (by simp[std];omega) (by simp[std];omega)) ?_
    refine hN (i+1) _ ⟨by omega,by omega,fun j hj hjn=> ?_⟩ (by omega) (a0m rfl ⟨a0b.refl _,a1f (by subst hS;simp[std]),trivial⟩ (.cons (.refl _) (.nil _)) (by simp;omega) (.inr rfl) rfl)
    by_cases e:j=i
    ·subst e;exact hx
    ·exact hi.2.2 j (by omega) hjn
  ·have hall: ∀j,j<n->g j=g 0:=by
    have:n<=i:=by subst hS;simp[std] at*;omega
    exact fun j hj=>hi.2.2 j (by omega) hj
   cbv
   exact b8q hr hall
end Go.Proofs.Tryz.Run
