/- The program's node: cells, ranks, kids. The program's node: ranks, kids, branches. The program's loose diagrams: what is open, and that it is so just if the reference says so. Conditions: none. -/
import Derived.Test.YtpcokdalcafgdaaGreatWLq
import Derived.Test.YtpcokdalcafgdaaGreatWNa
import Derived.Test.YtpcokdalcafgdaaGreatWNc
import Derived.Test.YtpcokdalcafgdaaGreatWLh
import Derived.Test.YtpcokdalcafgdaaGreatWNb
import Derived.Test.YtpcokdalcafgdaaGreatWOh
import Derived.Test.YtpcokdalcafgdaaGreatWPm0
import Derived.Test.YtpcokdalcafgdaaGreatWQd
import Derived.Test.YtpcokdalcafgdaaGreatWQf
import Derived.Test.YtpcokdalcafgdaaGreatWQh
import Derived.Test.YtpcokdalcafgdaaGreatWQi
import Derived.Test.YtpcokdalcafgdaaGreatWSd
set_option linter.unusedSimpArgs false
set_option linter.unusedVariables false
set_option maxHeartbeats 0
namespace Go.Proofs.Tryz.Run
open Go Go.Vf Go.Proofs
open Go.Proofs.YtpcokdalcafgdaaGreat
theorem d5p (v:VaR)(h0:0<=v.fault)(r:Bool)(hr:r=true↔a2c v):a0j Tryz.prog true 136 [v.av] (bool r):=by
 obtain⟨f,n⟩:=v
 simp only at h0
 simp only[a2c] at hr
 refine a0s (a0d Tryz.mixed okP f4t _ rfl fun E Sg hb hS=> ?_)
 have hin:=b7m (-9999) 9999 n (decide (-9999<=n/\n<=9999)) decide_eq_true_iff
 generalize hz:decide (-9999<=n/\n<=9999)=z at hin
 cbv
 split
 ·have h1:f≠0:=by subst hS;simp[std] at*;omega
  rw[if_neg h1] at hr
  cbv
  split<;>cbv
  all_goals subst hS;simp[std] at*;exact a0v (by cases r<;>simp at* <;>omega)
 ·have h1:f=0:=by subst hS;simp[std] at*;omega
  rw[if_pos h1] at hr
  cbv
  refine a0e hS (bool z) (by subst hS;exact hin) ?_
  cbv
  exact a0v (by cases r<;>cases z<;>simp at* <;>omega)
theorem f7u (v:VaR)(h0:0<=v.fault)(r:Bool)(hr:r=true↔ ¬a2c v):a0g Tryz.prog 170 [v.av,.ptr 0 0] [.var [.fn 136 [] []]] (ro [.var [.fn 136 [] []]] (bool r)):=by
 obtain⟨z,hz⟩: ∃z:Bool,z=true↔a2c v:=by classical exact⟨decide _,decide_eq_true_iff⟩
 have h1:=d5p v h0 z hz
 have hzr:r=!z:=by
  cases z
  ·exact hr.2 fun h=>Bool.noConfusion (hz.2 h)
  ·cases r
   ·rfl
   ·exact absurd (hz.1 rfl) (hr.1 rfl)
 obtain⟨f,n⟩:=v
 refine a1p Tryz.mixed okP f0n _ rfl fun E Sg hb hS=> ?_
 simp only[List.length_cons,List.length_nil] at hb
 cbv
 refine a2a hS (a0g.of_pure (h:=[.var [.fn 136 [] []],.var [u8 f,int n]]) rfl h1) ?_
 subst hzr
 cases z<;>cbv<;>exact a1o (a0v rfl) (.cons (.refl _) (.nil _)) (.inl ⟨rfl,rfl⟩)
theorem d5j {n:Nat}(hn:n<=1000000)(f:Nat->VaR)(H:List a0i)(gid:FuncId)(a:Nat)(p:Nat->Bool)
 (hp: ∀i,i<n->a0g Tryz.prog gid [(f i).av,.ptr a 0] H (ro H (bool (p i)))) (r:Int) (hr:a4i n p r):
 a0g Tryz.prog 185 [vsl n f,.fn gid [] [.ptr a 0]] H (ro H (int r)):=by
 obtain⟨ef,en',hen⟩: ∃ef en',f=fun i=>VaR.mk (ef i) (en' i):=⟨fun i=>(f i).fault,fun i=>(f i).n,rfl⟩
 subst hen
 refine a1p Tryz.mixed okP f3m _ rfl fun E Sg hb hS=> ?_
 have ett: ∀z,Sg.toNat z=z.toNat:=by subst hS;exact fun _=>rfl
 cbv
 refine a0y Tryz.mixed okP hS (fun i=>i<=n/\ ∀j,j<i->p j=false) (fun i=>n-i)
  (fun i=>⟨a2l [(0,vsl n (fun i=>⟨ef i,en' i⟩)),(1,.fn gid [] [.ptr a 0]),(7,int n),(8,int i)] 19,H,[]⟩) 0 ⟨by omega,by omega⟩ ?_ ?_
 ·exact a0m rfl ⟨a0b.refl _,a0b.refl _,a1f (by subst hS;rfl),a1m rfl,trivial⟩ (.same _) (by omega) (.inr rfl) rfl
 ·intro i hi N hN
  have hin:=hp i
  clear hp
  cbv
  split
  ·cbv
   have hlt:i<n:=by clear hin hN hr;subst hS;simp[std] at*;omega
   have hin:=hin hlt
   generalize hz:p i=z at hin
   refine a0a hS (by clear hin hN hr;subst hS;simp[std];omega) ?_
   simp only[nat,ett,Int.ofNat_eq_natCast,Int.toNat_natCast]
   refine a2a hS (r:=bool z) (by subst hS;exact hin) ?_
   cases z
   ·cbv
    refine a0a hS (by clear hin hN hr;subst hS;exact a0h (by simp[std];omega) (by simp[std];omega)) ?_
    refine hN (i+1) _ ⟨by omega,fun j hj=> ?_⟩ (by omega) (a0m rfl ⟨a0b.refl _,a0b.refl _,a0b.refl _,a1f ?_,trivial⟩ (.same _) (by omega) (.inr rfl) rfl)
    ·by_cases e:j=i
     ·subst e;exact hz
     ·exact hi.2 j (by omega)
    ·clear hin hN hr;subst hS;simp[std]
   ·cbv
    exact a1o (a1f (hr.2 i hlt hz hi.2).symm) (.same _) (.inr rfl)
  ·have hni:n<=i:=by clear hin hN hr;subst hS;simp[std] at*;omega
   cbv
   exact a1o (a1m (hr.1 fun j hj=>hi.2 j (by omega)).symm) (.same _) (.inr rfl)
theorem c3z {n:Nat}(hn:n<=1000000)(f:Nat->VaR)(H:List a0i)(gid:FuncId)(a:Nat)(p:Nat->Bool)
 (hp: ∀i,i<n->a0g Tryz.prog gid [(f i).av,.ptr a 0] H (ro H (bool (p i)))) (r:Bool) (hr:r=true↔ ∃i,i<n/\p i=true):
 a0g Tryz.prog 169 [vsl n f,.fn gid [] [.ptr a 0]] H (ro H (bool r)):=by
 obtain⟨z,hz,hz1,hz2⟩: ∃z,a4i n p z/\(0<=z-> ∃i,i<n/\p i=true)/\((∃i,i<n/\p i=true)->0<=z):=a5h n p
 have hin:=d5j hn f H gid a p hp z hz
 have hzr:0<=z↔r=true:=⟨fun h=>hr.2 (hz1 h),fun h=>hz2 (hr.1 h)⟩
 clear hp hz hz1 hz2 hr
 refine a1p Tryz.mixed okP f2r _ rfl fun E Sg hb hS=> ?_
 cbv
 refine a2a hS hin ?_
 cbv
 refine a1o (a0v ?_) (.same _) (.inr rfl)
 clear hin
 subst hS
 simp[std]
 cases r
 ·simp at hzr⊢;omega
 ·simpa using hzr
theorem b0v {n:Nat}{P:Nat->Prop}{p:Nat->Bool}(hp: ∀i,p i=true↔ ¬P i){r:Bool}(hr:r=true↔ ∀i,i<n->P i):(!r)=true↔ ∃i,i<n/\p i=true:=by
 cases r
 ·have hr: ¬ ∀i,i<n->P i:=fun h=>Bool.noConfusion (hr.2 h)
  simp only[Bool.not_false,true_iff]
  exact Classical.byContradiction fun h=>hr fun i hi=>Classical.byContradiction fun h'=>h ⟨i,hi,(hp i).2 h'⟩
 ·have hr:=hr.1 rfl
  simp only[Bool.not_true,Bool.false_eq_true,false_iff]
  rintro⟨i,hi,h⟩
  exact (hp i).1 h (hr i hi)
theorem c6z {n:Nat}(hn:n<=1000000)(f:Nat->VaR)(h0: ∀i,i<n->0<=(f i).fault)(r:Bool)(hr:r=true↔ ∀i,i<n->a2c (f i)):a0j Tryz.prog true 135 [vsl n f,.fn 136 [] []] (bool r):=by
 obtain⟨p,hp⟩: ∃p:Nat->Bool,∀i,p i=true↔ ¬a2c (f i):=by classical exact⟨fun i=>decide (¬a2c (f i)),fun i=>decide_eq_true_iff⟩
 have hin:=c3z hn f [.var [.fn 136 [] []]] 170 0 p (fun i hi=>f7u (f i) (h0 i hi) (p i) (hp i)) (!r) (b0v hp hr)
 clear hr hp
 refine a0s (a0d Tryz.mixed okP f1r _ rfl fun E Sg hb hS=> ?_)
 cbv
 refine a2a hS hin ?_
 cases r<;>cbv
 ·exact a0v rfl
 ·exact a0v rfl
theorem c4u {n:Nat}(hn:n<=1000000)(g:Nat->Int)(v:Int)(r:Int)(hr:a4i n (fun i=>decide (v=g i)) r):a0j Tryz.prog true 96 [isl n g,int v] (int r):=by
 refine a1y (a0d Tryz.mixed okP f9q _ rfl fun E Sg hb hS=> ?_)
 have ett: ∀z,Sg.toNat z=z.toNat:=by subst hS;exact fun _=>rfl
 cbv
 refine a0y Tryz.mixed okP hS (fun i=>i<=n/\ ∀j,j<i->v≠g j) (fun i=>n-i)
  (fun i=>⟨a2l [(0,isl n g),(1,int v),(7,int n),(8,int i)] 19,[],[]⟩) 0 ⟨by omega,by omega⟩ ?_ ?_
 ·exact a0m rfl ⟨a0b.refl _,a0b.refl _,a1f (by subst hS;rfl),a1m rfl,trivial⟩ (.nil _) (by omega) (.inr rfl) rfl
 ·intro i hi N hN
  cbv
  split
  ·have hlt:i<n:=by clear hr;subst hS;simp[std] at*;omega
   cbv
   refine a0a hS (by subst hS;simp[std];omega) ?_
   simp only[nat,ett,Int.ofNat_eq_natCast,Int.toNat_natCast]
   split
   ·have hx:v=g i:=by clear hr;subst hS;simp[std] at*;assumption
    cbv
    exact a1f (hr.2 i hlt (decide_eq_true hx) fun j hj=>decide_eq_false (hi.2 j hj)).symm
   ·have hx:v≠g i:=by clear hr;subst hS;simp[std] at*;assumption
    cbv
    refine a0a hS (by subst hS;exact a0h (by simp[std];omega) (by simp[std];omega)) ?_
    refine hN (i+1) _ ⟨by omega,fun j hj=> ?_⟩ (by omega) (a0m rfl ⟨a0b.refl _,a0b.refl _,a0b.refl _,a1f (by subst hS;simp[std]),trivial⟩ (.nil _) (by omega) (.inr rfl) rfl)
    by_cases e:j=i
    ·subst e;exact hx
    ·exact hi.2 j (by omega)
  ·have hni:n<=i:=by clear hr;subst hS;simp[std] at*;omega
   cbv
   exact a1m (hr.1 fun j hj=>decide_eq_false (hi.2 j (by omega))).symm
def prk (od:Nat->Int)(no:Nat)(v:Int):Int:=if pos od v no 0<no then (pos od v no 0:Int) else-1
theorem d5f (od:Nat->Int)(no:Nat)(v:Int):a4i no (fun i=>decide (v=od i)) (prk od no v):=by
 constructor
 ·intro h
  have:pos od v no 0=0+no:=b9c fun l _ hl=>by have:=of_decide_eq_false (h l (by omega));exact fun e=>this e.symm
  rw[prk,if_neg (by omega)]
 ·intro i hi hp hj
  have:pos od v no 0=i:=a6r (by omega) (by omega) (of_decide_eq_true hp).symm fun l _ hl=>by have:=of_decide_eq_false (hj l hl);exact fun e=>this e.symm
  rw[prk,this,if_pos hi]
theorem d4j {ns no:Nat}(hno:no<=1000000)(sz od:Nat->Int)(v:Int):a0j Tryz.prog true 198 [.agg [isl ns sz,isl no od],int v] (int (prk od no v)):=by
 have h1:=c4u hno od v _ (d5f od no v)
 generalize prk od no v=r at h1
 refine a1y (a0d Tryz.mixed okP f3b _ rfl fun E Sg hb hS=> ?_)
 cbv
 refine a0e hS (int r) (by subst hS;exact h1) ?_
 cbv
 exact a0b.refl _
theorem d0d (k:Int)(hk: -1000001<=k)(hk2:k<=1000000):a0j Tryz.prog true 171 [int k] (int (-1-k)):=by
 refine a1y (a0d Tryz.mixed okP e5m _ rfl fun E Sg hb hS=> ?_)
 generalize hr: -1-k=r
 cbv
 refine a0a hS (by subst hS;exact a0h (by simp[std];omega) (by simp[std];omega)) ?_
 refine a1f ?_
 subst hS
 simp[std]
 omega
theorem e5l (k:Int)(hk:a4s k)(h0:k<0):a0j Tryz.prog true 171 [int k] (int (-1-k)):=by
 simp only[a4s] at hk
 refine a1y (a0d Tryz.mixed okP e5m _ rfl fun E Sg hb hS=> ?_)
 generalize hr: -1-k=r
 cbv
 refine a0a hS (by subst hS;exact a0h (by simp[std];omega) (by simp[std];omega)) ?_
 refine a1f ?_
 subst hS
 simp[std]
 omega
def DiR.lav (d:DiR):AV:= .agg [isl d.ns d.sz,isl d.no d.od,isl d.ns d.sz,isl d.no d.od,vsl d.ne d.en,bsl d.nn d.var d.nk d.kid,int d.root]
def c5u (d:DiR)(k below rank:Int):Prop:=if k<0 then-1-k<d.ne else k<below/\rank<prk d.od d.no (d.var k.toNat)
theorem c7l (d:DiR)(hd:d.no<=1000000)(k below rank:Int)(hw:a4s k)(hb:0<=k->k<below->k<d.nn)(r:Bool)(hr:r=true↔c5u d k below rank):a0j Tryz.prog true 179 [d.lav,int k,int below,int rank] (bool r):=by
 have hrk:=fun v=>d4j (ns:=d.ns) hd d.sz d.od v
 have he:=fun h0=>e5l k hw h0
 simp only[c5u] at hr
 obtain⟨q,hq⟩: ∃q:Int->Int,∀v,prk d.od d.no v=q v:=⟨_,fun _=>rfl⟩
 simp only[hq] at hrk hr
 clear hq
 obtain⟨ns,sz,no,od,ne,en,nn,var,nk,kid,root⟩:=d
 simp only at hrk hr hb
 refine a0s (a0d Tryz.mixed okP f1l _ rfl fun E Sg hb' hS=> ?_)
 have ett: ∀z,Sg.toNat z=z.toNat:=by subst hS;exact fun _=>rfl
 cbv
 split
 ·have h0:k<0:=by clear hrk hr he;subst hS;simp[std] at*;assumption
  rw[if_pos h0] at hr
  obtain⟨e,hee⟩: ∃e,-1-k=e:=⟨_,rfl⟩
  have he:=he h0
  rw[hee] at he hr
  cbv
  refine a0e hS (int e) (by subst hS;exact he) ?_
  cbv
  refine a0a hS (by clear hrk he hr;subst hS;simp[std]) ?_
  refine a0v ?_
  clear hrk he
  subst hS
  simp only[std]
  cases r
  ·exact decide_eq_false fun h=>Bool.noConfusion (hr.2 h)
  ·exact decide_eq_true (hr.1 rfl)
 ·have h0: ¬k<0:=by clear hrk hr he;subst hS;simp[std] at*;omega
  rw[if_neg h0] at hr
  cbv
  split
  ·have hlt:k<below:=by clear hrk hr he;subst hS;simp[std] at*;assumption
   have hkn:=hb (by omega) hlt
   cbv
   refine a0a hS (by subst hS;exact⟨by omega,hkn⟩) ?_
   simp only[nat,ett,Int.ofNat_eq_natCast,Int.toNat_natCast]
   refine a0e hS (int (q (var k.toNat))) (by subst hS;exact hrk _) ?_
   cbv
   refine a0v ?_
   clear hrk he
   subst hS
   simp only[std]
   cases r
   ·exact decide_eq_false fun h=>Bool.noConfusion (hr.2 ⟨hlt,h⟩)
   ·exact decide_eq_true (hr.1 rfl).2
  ·have hlt: ¬k<below:=by clear hrk hr he;subst hS;simp[std] at*;omega
   cbv
   exact a2i hr fun h=>hlt h.1
def pBr (d:DiR)(i:Nat):Prop:=((0<=d.var i/\d.var i<=(d.ns:Int)-1)/\(d.nk i:Int)=d.sz (d.var i).toNat)/\ ∀j,j<d.nk i->c5u d (d.kid i j) i (prk d.od d.no (d.var i))
theorem f4u (d:DiR)(hd:d.no<=1000000)(i:Nat)(hi:i<d.nn)(k:Int)(hw:a4s k)(r:Bool)(hr:r=true↔c5u d k i (prk d.od d.no (d.var i))):
 a0g Tryz.prog 197 [int k,.ptr 0 0,.ptr 1 0,.ptr 2 0] [.var [isl d.ns d.sz,isl d.no d.od,isl d.ns d.sz,isl d.no d.od,vsl d.ne d.en,bsl d.nn d.var d.nk d.kid,int d.root],.var [int i],.var [int (d.var i),isl (d.nk i) (d.kid i)]]
  (ro [.var [isl d.ns d.sz,isl d.no d.od,isl d.ns d.sz,isl d.no d.od,vsl d.ne d.en,bsl d.nn d.var d.nk d.kid,int d.root],.var [int i],.var [int (d.var i),isl (d.nk i) (d.kid i)]] (bool r)):=by
 have h1:=d4j (ns:=d.ns) hd d.sz d.od (d.var i)
 have h2:=c7l d hd k i (prk d.od d.no (d.var i)) hw (fun _ h=>Int.lt_trans h (Int.ofNat_lt.2 hi)) r hr
 generalize prk d.od d.no (d.var i)=q at h1 h2
 clear hr
 obtain⟨ns,sz,no,od,ne,en,nn,var,nk,kid,root⟩:=d
 refine a1p Tryz.mixed okP f3a _ rfl fun E Sg hb hS=> ?_
 cbv
 refine a0e hS (int q) (by subst hS;exact h1) ?_
 cbv
 repeat' (with_reducible apply a0a hS)
 all_goals try (clear h1 h2;subst hS;simp[std];done)
 refine a0e hS (bool r) (by subst hS;exact h2) ?_
 cbv
 exact a1o (a0b.refl _) (.same _) (.inr rfl)
theorem f3f (d:DiR)(hd:d.no<=1000000)(i:Nat)(hi:i<d.nn)(k:Int)(hw:a4s k)(z:Bool)(hz:z=true↔ ¬c5u d k i (prk d.od d.no (d.var i))):
 a0g Tryz.prog 186 [int k,.ptr 3 0] [.var [isl d.ns d.sz,isl d.no d.od,isl d.ns d.sz,isl d.no d.od,vsl d.ne d.en,bsl d.nn d.var d.nk d.kid,int d.root],.var [int i],.var [int (d.var i),isl (d.nk i) (d.kid i)],.var [.fn 197 [] [.ptr 0 0,.ptr 1 0,.ptr 2 0]]]
  (ro [.var [isl d.ns d.sz,isl d.no d.od,isl d.ns d.sz,isl d.no d.od,vsl d.ne d.en,bsl d.nn d.var d.nk d.kid,int d.root],.var [int i],.var [int (d.var i),isl (d.nk i) (d.kid i)],.var [.fn 197 [] [.ptr 0 0,.ptr 1 0,.ptr 2 0]]] (bool z)):=by
 have h1:=f4u d hd i hi k hw (!z) (by
  cases z
  ·exact⟨fun _=>Classical.byContradiction fun h=>Bool.noConfusion (hz.2 h),fun _=>rfl⟩
  ·exact⟨fun h=>Bool.noConfusion h,fun h=>absurd h (hz.1 rfl)⟩)
 clear hz
 obtain⟨ns,sz,no,od,ne,en,nn,var,nk,kid,root⟩:=d
 refine a1p Tryz.mixed okP e1i _ rfl fun E Sg hb hS=> ?_
 cbv
 refine a1a hS (a0g.frame h1 [0,1,2] rfl rfl ⟨a0f.refl _,a0f.refl _,a0f.refl _,trivial⟩) ?_
 rintro pg v H' ⟨pg0,v0,h0,⟨rfl,rfl,rfl⟩,rfl,rfl,rfl⟩
 cases z<;>cbv<;>exact a1o (a0v rfl) (.same _) (.inr rfl)
theorem e5p (d:DiR)(hd:d.no<=1000000)(i:Nat)(hi:i<d.nn)(hn:d.nk i<=1000000)(hw: ∀j,j<d.nk i->a4s (d.kid i j))(r:Bool)(hr:r=true↔ ∀j,j<d.nk i->c5u d (d.kid i j) i (prk d.od d.no (d.var i))):
 a0g Tryz.prog 172 [isl (d.nk i) (d.kid i),.fn 197 [] [.ptr 0 0,.ptr 1 0,.ptr 2 0]] [.var [isl d.ns d.sz,isl d.no d.od,isl d.ns d.sz,isl d.no d.od,vsl d.ne d.en,bsl d.nn d.var d.nk d.kid,int d.root],.var [int i],.var [int (d.var i),isl (d.nk i) (d.kid i)]]
  (ro [.var [isl d.ns d.sz,isl d.no d.od,isl d.ns d.sz,isl d.no d.od,vsl d.ne d.en,bsl d.nn d.var d.nk d.kid,int d.root],.var [int i],.var [int (d.var i),isl (d.nk i) (d.kid i)]] (bool r)):=by
 obtain⟨p,hp⟩: ∃p:Nat->Bool,∀j,p j=true↔ ¬c5u d (d.kid i j) i (prk d.od d.no (d.var i)):=by classical exact⟨fun j=>decide (¬c5u d (d.kid i j) i (prk d.od d.no (d.var i))),fun j=>decide_eq_true_iff⟩
 have hin:=b3g hn (d.kid i) _ 186 3 p (fun j hj=>f3f d hd i hi (d.kid i j) (hw j hj) (p j) (hp j)) (!r) (b0v hp hr)
 clear hr hp hw
 obtain⟨ns,sz,no,od,ne,en,nn,var,nk,kid,root⟩:=d
 refine a1p Tryz.mixed okP e0d _ rfl fun E Sg hb hS=> ?_
 simp only[List.length_cons,List.length_nil] at hb
 cbv
 refine a2a hS hin ?_
 cases r<;>cbv<;>exact a1o (a0v rfl) (.cons (.refl _) (.cons (.refl _) (.cons (.refl _) (.nil _)))) (.inl ⟨rfl,rfl⟩)
theorem c5h (d:DiR)(hf:d.fit)(i:Nat)(hi:i<d.nn)(r:Bool)(hr:r=true↔pBr d i):a0j Tryz.prog true 178 [d.lav,int i] (bool r):=by
 obtain⟨z,hz⟩: ∃z:Bool,z=true↔0<=d.var i/\d.var i<=(d.ns:Int)-1:=by classical exact⟨decide _,decide_eq_true_iff⟩
 obtain⟨z2,hz2⟩: ∃z:Bool,z=true↔ ∀j,j<d.nk i->c5u d (d.kid i j) i (prk d.od d.no (d.var i)):=by classical exact⟨decide _,decide_eq_true_iff⟩
 have h1:=b7m 0 ((d.ns:Int)-1) (d.var i) z hz
 have h2:=e5p d hf.no i hi (hf.nk i hi) (hf.kid i hi) z2 hz2
 have hns:=hf.ns
 have hni:=hf.nk i hi
 simp only[pBr,<-hz2] at hr
 clear hz2 hf
 obtain⟨ns,sz,no,od,ne,en,nn,var,nk,kid,root⟩:=d
 simp only at h1 h2 hns hni hr hz hi
 refine a0s (a0d Tryz.mixed okP f2k _ rfl fun E Sg hb hS=> ?_)
 have ett: ∀z,Sg.toNat z=z.toNat:=by subst hS;exact fun _=>rfl
 cbv
 refine a0a hS (by clear h1 h2;subst hS;exact⟨Int.natCast_nonneg i,Int.ofNat_lt.2 hi⟩) ?_
 simp only[nat,ett,Int.ofNat_eq_natCast,Int.toNat_natCast]
 refine a0a hS (by clear h1 h2;subst hS;exact a0h (by simp[std];omega) (by simp[std];omega)) ?_
 refine a0a hS (by clear h1 h2;subst hS;simp[std]) ?_
 refine a0e hS (bool z) (by subst hS;exact h1) ?_
 cases z
 ·cbv
  repeat' (with_reducible apply a0a hS)
  all_goals try (clear h1 h2;subst hS;simp[std];done)
  exact a2i hr fun h=>Bool.noConfusion (hz.2 h.1.1)
 ·have hv:=hz.1 rfl
  cbv
  repeat' (with_reducible apply a0a hS)
  all_goals try (clear h1 h2;subst hS;first|exact e4h hv|(simp[std];done))
  simp only[nat,ett,Int.ofNat_eq_natCast,Int.toNat_natCast]
  split
  ·have hne:(nk i:Int)≠sz (var i).toNat:=by clear h1 h2;subst hS;simp[std] at*;assumption
   cbv
   exact a2i hr fun h=>hne h.1.2
  ·have heq:(nk i:Int)=sz (var i).toNat:=by clear h1 h2;subst hS;simp[std] at*;assumption
   cbv
   refine a2a hS h2 ?_
   cbv
   refine a0v ?_
   cases r
   ·cases z2
    ·rfl
    ·exact absurd (hr.2 ⟨⟨hv,heq⟩,rfl⟩) (by simp)
   ·exact (hr.1 rfl).2
theorem e9k (d:DiR)(hf:d.fit)(i:Nat)(hi:i<d.nn)(z:Bool)(hz:z=true↔ ¬pBr d i):
 a0g Tryz.prog 186 [int i,.ptr 0 0] [.var [.fn 178 [d.lav] []]] (ro [.var [.fn 178 [d.lav] []]] (bool z)):=by
 have h1:=c5h d hf i hi (!z) (by
  cases z
  ·exact⟨fun _=>Classical.byContradiction fun h=>Bool.noConfusion (hz.2 h),fun _=>rfl⟩
  ·exact⟨fun h=>Bool.noConfusion h,fun h=>absurd h (hz.1 rfl)⟩)
 clear hz hf
 obtain⟨ns,sz,no,od,ne,en,nn,var,nk,kid,root⟩:=d
 refine a1p Tryz.mixed okP e1i _ rfl fun E Sg hb hS=> ?_
 cbv
 refine a2a hS (a0g.of_pure (h:=[.var [.fn 178 [DiR.lav ⟨ns,sz,no,od,ne,en,nn,var,nk,kid,root⟩] []]]) rfl h1) ?_
 cases z<;>cbv<;>exact a1o (a0v rfl) (.same _) (.inr rfl)
theorem e8r (d:DiR)(hf:d.fit)(r:Bool)(hr:r=true↔ ∀i,i<d.nn->pBr d i):
 a0g Tryz.prog 172 [isl d.nn fun i=>(i:Int),.fn 178 [d.lav] []] [] (ro [] (bool r)):=by
 obtain⟨p,hp⟩: ∃p:Nat->Bool,∀j,p j=true↔ ¬pBr d j:=by classical exact⟨fun j=>decide (¬pBr d j),fun j=>decide_eq_true_iff⟩
 have hin:=b3g hf.nn (fun i=>(i:Int)) _ 186 0 p (fun j hj=>e9k d hf j hj (p j) (hp j)) (!r) (b0v hp hr)
 clear hr hp hf
 obtain⟨ns,sz,no,od,ne,en,nn,var,nk,kid,root⟩:=d
 refine a1p Tryz.mixed okP e0d _ rfl fun E Sg hb hS=> ?_
 simp only[List.length_cons,List.length_nil] at hb
 cbv
 refine a2a hS hin ?_
 cases r<;>cbv<;>exact a1o (a0v rfl) (.nil _) (.inl ⟨rfl,rfl⟩)
def e4d (d:DiR):Prop:=(∀i,i<d.ne->a2c (d.en i))/\(∀i,i<d.nn->pBr d i)/\c5u d d.root d.nn (-1)
theorem b9d {ns no:Nat}{od:Nat->Int}(h:a1u ns no od){v:Int}(hv:0<=v/\v<=(ns:Int)-1): ∃p,p<no/\pos od v no 0=p/\prk od no v=p:=by
 have hex: ∃p,p<no/\od p=v:=by
  apply Classical.byContradiction
  intro hc
  have hn:no=ns:=h.1
  have hlen:=a7x (no-1) (L no fun i=>if od i<v then od i else od i-1) (by
   rw[a6u]
   intro i hi k hk
   have h1:=(h.2 i hi).2 k hk
   have hi':od i≠v:=fun e=>hc ⟨i,hi,e⟩
   have hk':od k≠v:=fun e=>hc ⟨k,by omega,e⟩
   split<;>split<;>omega) (fun x hx=>by
   obtain⟨i,hi,rfl⟩:=a5t.1 hx
   have h1:=(h.2 i hi).1
   have hi':od i≠v:=fun e=>hc ⟨i,hi,e⟩
   split<;>omega)
  rw[a0k] at hlen
  omega
 obtain⟨p,hp,e⟩:=hex
 have hne: ∀l,l<p->od l≠v:=fun l hl e2=>(h.2 p hp).2 l hl (e2.trans e.symm)
 have h1:pos od v no 0=p:=a6r (by omega) (by omega) e fun l _ hl=>hne l hl
 exact⟨p,hp,h1,by rw[prk,h1,if_pos hp]⟩
theorem d0y {d:DiR}(ho:a1u d.ns d.no d.od):e4d d↔a1s d:=by
 have kid:(∀i,i<d.nn->0<=d.var i/\d.var i<=(d.ns:Int)-1)-> ∀i,i<d.nn-> ∀k,(c5u d k i (prk d.od d.no (d.var i))↔isRef d k i/\a4f d i<a4f d k):=by
  intro hv i hi k
  obtain⟨p,hp,e1,e2⟩:=b9d ho (hv i hi)
  have hri:a4f d i=p:=by
   rw[a4f,if_pos (by omega)]
   simpa using e1
  rw[e2,hri]
  unfold c5u isRef
  by_cases hk:k<0
  ·rw[if_pos hk,if_neg (by omega)]
   have:a4f d k=d.no:=by rw[a4f,if_neg (by omega)]
   rw[this]
   constructor
   ·intro h;exact⟨by omega,hp⟩
   ·intro h;omega
  ·rw[if_neg hk,if_pos (by omega)]
   constructor
   ·rintro⟨h1,h2⟩
    obtain⟨q,hq,f1,f2⟩:=b9d ho (hv k.toNat (by omega))
    have:a4f d k=q:=by rw[a4f,if_pos (by omega)];exact f1
    rw[this]
    rw[f2] at h2
    exact⟨h1,by omega⟩
   ·rintro⟨h1,h2⟩
    obtain⟨q,hq,f1,f2⟩:=b9d ho (hv k.toNat (by omega))
    have:a4f d k=q:=by rw[a4f,if_pos (by omega)];exact f1
    rw[this] at h2
    rw[f2]
    exact⟨h1,by omega⟩
 have root:(∀i,i<d.nn->0<=d.var i/\d.var i<=(d.ns:Int)-1)->(c5u d d.root d.nn (-1)↔isRef d d.root d.nn):=by
  intro hv
  unfold c5u isRef
  by_cases hk:d.root<0
  ·rw[if_pos hk,if_neg (by omega)]
   omega
  ·rw[if_neg hk,if_pos (by omega)]
   constructor
   ·exact fun h=>h.1
   ·intro h
    obtain⟨q,hq,f1,f2⟩:=b9d ho (hv d.root.toNat (by omega))
    rw[f2]
    exact⟨h,by omega⟩
 unfold e4d a1s
 constructor
 ·rintro⟨a,b,c⟩
  have hv:=fun i hi=>(b i hi).1.1
  exact⟨a,fun i hi=>⟨(b i hi).1,fun j hj=>(kid hv i hi _).1 ((b i hi).2 j hj)⟩,(root hv).1 c⟩
 ·rintro⟨a,b,c⟩
  have hv:=fun i hi=>(b i hi).1.1
  exact⟨a,fun i hi=>⟨(b i hi).1,fun j hj=>(kid hv i hi _).2 ((b i hi).2 j hj)⟩,(root hv).2 c⟩
def e0o:AV:= .agg [.d .nil,.d .nil,.d .nil,.d .nil,.d .nil,.d .nil,int 0]
theorem c3t (d:DiR)(hf:d.fit)(h0: ∀i,i<d.ne->0<=(d.en i).fault)(hno:d.no<=12)(r:Int)(hr:a2n d=r):
 ∃v,(v=d.lav\/a2e d.ns d.no d.sz d.od≠0/\v=e0o)/\a0j Tryz.prog false 156 [d.av] (.tuple [v,int r]):=by
 obtain⟨e,he⟩: ∃e,a2e d.ns d.no d.sz d.od=e:=⟨_,rfl⟩
 have h1:=a6v hf.ns hno d.sz d.od e he
 obtain⟨z1,hz1⟩: ∃z:Bool,z=true↔ ∀i,i<d.ne->a2c (d.en i):=by classical exact⟨decide _,decide_eq_true_iff⟩
 obtain⟨z2,hz2⟩: ∃z:Bool,z=true↔ ∀i,i<d.nn->pBr d i:=by classical exact⟨decide _,decide_eq_true_iff⟩
 obtain⟨z3,hz3⟩: ∃z:Bool,z=true↔c5u d d.root d.nn (-1):=by classical exact⟨decide _,decide_eq_true_iff⟩
 have h2:=c6z hf.ne d.en h0 z1 hz1
 have h3:=e8r d hf z2 hz2
 have h4:=c7l d hf.no d.root d.nn (-1) hf.root (fun _ h=>h) z3 hz3
 have h5:=b8m hf.nn
 have hnn:=hf.nn
 rw[a2n,he] at hr
 have r1:e≠0->e=r:=fun h=>by rw[<-hr,if_pos h]
 have r2:e=0->6000<d.nn->5=r:=fun h g=>by rw[<-hr,if_neg (fun k=>k h),if_pos g]
 have hl:e=0->((z1=true/\z2=true/\z3=true)↔a1s d):=fun h=>by
  rw[<-d0y (a1k (he.trans h)).2.2.2,hz1,hz2,hz3];exact Iff.rfl
 have r3:e=0-> ¬6000<d.nn->z1=true->z2=true->z3=true->0=r:=fun h g a b c=>by
  rw[<-hr,if_neg (fun k=>k h),if_neg g,if_pos ((hl h).1 ⟨a,b,c⟩)]
 have r4:e=0-> ¬6000<d.nn-> ¬(z1=true/\z2=true/\z3=true)->4=r:=fun h g a=>by
  rw[<-hr,if_neg (fun k=>k h),if_neg g,if_neg (fun k=>a ((hl h).2 k))]
 clear hr hl hz1 hz2 hz3 hf h0
 by_cases hz:e=0
 ·refine⟨d.lav,.inl rfl,?_⟩
  subst hz
  obtain⟨ns,sz,no,od,ne,en,nn,var,nk,kid,root⟩:=d
  simp only at h1 h2 h3 h4 h5 hnn r2 r3 r4 hno
  obtain⟨res,hres⟩: ∃res,res=DiR.lav ⟨ns,sz,no,od,ne,en,nn,var,nk,kid,root⟩:=⟨_,rfl⟩
  rw[<-hres]
  refine a0d Tryz.mixed okP e7o _ rfl fun E Sg hb hS=> ?_
  have ett: ∀z,Sg.toNat z=z.toNat:=by subst hS;exact fun _=>rfl
  cbv
  refine a0e hS (int 0) (by subst hS;exact h1) ?_
  cbv
  split
  ·rename_i h;exfalso;clear h1 h2 h3 h4 h5;subst hS;simp[std] at h
  cbv
  split
  ·have h6:6000<nn:=by clear h1 h2 h3 h4 h5;subst hS;simp[std] at*;omega
   cbv
   subst hres
   exact a1r.tuple (.cons (a0b.refl _) (.cons (a1m (r2 trivial h6)) .nil))
  have h6: ¬6000<nn:=by clear h1 h2 h3 h4 h5;subst hS;simp[std] at*;omega
  cbv
  refine a0e hS (bool z1) (by subst hS;exact h2) ?_
  cases z1
  ·cbv
   subst hres
   exact a1r.tuple (.cons (a0b.refl _) (.cons (a1m (r4 trivial h6 (by simp))) .nil))
  cbv
  refine a0e hS (isl nn fun i=>(i:Int)) (by subst hS;exact h5) ?_
  cbv
  refine a0a hS (by clear h1 h2 h3 h4 h5;subst hS;simp[std]) ?_
  refine a1a hS (a0g.frame h3 [] rfl rfl trivial) ?_
  rintro pg v H' ⟨pg0,v0,h0,⟨rfl,rfl,rfl⟩,rfl,rfl,rfl⟩
  cases z2
  ·cbv
   subst hres
   exact a1r.tuple (.cons (a0b.refl _) (.cons (a1m (r4 trivial h6 (by simp))) .nil))
  cbv
  refine a0e hS (bool z3) (by subst hS;exact h4) ?_
  cases z3
  ·cbv
   subst hres
   exact a1r.tuple (.cons (a0b.refl _) (.cons (a1m (r4 trivial h6 (by simp))) .nil))
  ·cbv
   subst hres
   exact a1r.tuple (.cons (a0b.refl _) (.cons (a1m (r3 trivial h6 rfl rfl rfl)) .nil))
 ·refine⟨e0o,.inr ⟨fun h=>hz (he.symm.trans h),rfl⟩,?_⟩
  obtain⟨ns,sz,no,od,ne,en,nn,var,nk,kid,root⟩:=d
  simp only at h1
  obtain⟨res,hres⟩: ∃res,res=e0o:=⟨_,rfl⟩
  rw[<-hres]
  refine a0d Tryz.mixed okP e7o _ rfl fun E Sg hb hS=> ?_
  cbv
  refine a0e hS (int e) (by subst hS;exact h1) ?_
  cbv
  split
  ·cbv
   subst hres
   exact a1r.tuple (.cons (a1r.agg (.cons (a0b.refl _) (.cons (a0b.refl _) (.cons (a0b.refl _) (.cons (a0b.refl _) (.cons (a0b.refl _) (.cons (a0b.refl _) (.cons (a1m rfl) .nil)))))))) (.cons (a1f (r1 hz)) .nil))
  ·rename_i h;exfalso;clear h1 h2 h3 h4 h5;subst hS;simp[std] at h;exact hz h
end Go.Proofs.Tryz.Run
