/- The reference's frames: In, has, rising, Product, IsOrder, CheckFrame, Many, Slim. Slim; cells; diagrams as data. Diagrams as data; IsRef, Rank. Flat; copies of lists. Conditions: none. -/
import Derived.Test.YtbglklaocjifhaaGreatENe
import Derived.Test.YtbglklaocjifhaaGreatEJz
open Go.Vf.a0x renaming refl->AA
open Go.Proofs.YtbglklaocjifhaaGreat.Tryz renaming mixed->AB
open Go.Vf renaming std->AC,nat->AL
open Go.Proofs.Tryz renaming prog->AD
open Bool renaming true->AE,noConfusion->AK
open Go.Vf.IX renaming val->AF
open Int renaming min_eq_left->AG,mul_le_mul->AH,ofNat_eq_natCast->AI,toNat_natCast->AJ
set_option linter.unusedSimpArgs false
set_option linter.unusedVariables false
set_option maxHeartbeats 0
namespace Go.Proofs.Tryz.Run
open Go Go.Vf Go.Proofs
open Go.Proofs.YtbglklaocjifhaaGreat
theorem i5t (a b c:Int)(r:Bool)(hr:r=AE↔b<=a/\a<=c):a0j AD AE 85 [int a,int b,int c] (bool r):=by
 refine a1e (a0k AB okP i8p _ rfl fun E Sg hb hS=> ?_);cbv;split<;>cbv
 all_goals subst hS;simp[AC] at*;exact a0s (by cases r<;>simp at* <;>omega)
theorem i3v {n:Nat}(hn:n<=1000000)(g:Nat->Int)(x:Int)(r:Bool)(hr:r=AE↔ ∃i,i<n/\g i=x):a0j AD AE 167 [isl n g,int x] (bool r):=by
 refine a1e (a0k AB okP i6n _ rfl fun E Sg hb hS=> ?_);cbv;refine a7r AB okP hS (fun i=>i<=n/\ ∀j,j<i->g j≠x) (fun i=>n-i)
  (fun i=>⟨b5r [(0,isl n g),(1,int x),(5,int i)] 18,[],[]⟩) 0 ⟨by omega,by omega⟩ ?_ ?_
 ·exact a4c rfl ⟨AA _,AA _,a6c rfl,trivial⟩ (.nil _) (by omega) (.inr rfl) rfl
 ·intro i hi N hN;cbv;split
  ·have hlt:i<n:=by subst hS;simp[AC] at*;omega
   cbv;refine a1g hS (by subst hS;simp[AC];omega) ?_;split
   ·have hx:g i=x:=by subst hS;simp[AC,AL,AF] at*;assumption
    cbv;exact h8e hr ⟨i,hlt,hx⟩
   ·have hx:g i≠x:=by subst hS;simp[AC,AL,AF] at*;assumption
    cbv;refine a1g hS (by subst hS;exact b6g (by simp[AC];omega) (by simp[AC];omega)) ?_;refine hN (i+1) _ ⟨by omega,fun j hj=> ?_⟩ (by omega) (a4c rfl ⟨AA _,AA _,b0a (by subst hS;simp[AC]),trivial⟩ (.nil _) (by omega) (.inr rfl) rfl);by_cases e:j=i
    ·subst e;exact hx
    ·exact hi.2 j (by omega)
  ·have hall: ∀j,j<n->g j≠x:=by subst hS;simp[AC] at*;exact fun j hj=>hi.2 j (by omega)
   cbv;exact e8z hr fun⟨i,h1,h2⟩=>hall i h1 h2
theorem h8b {n:Nat}(hn:n<=1000000)(g:Nat->Int)(m:Int)(r:Bool)(hr:r=AE↔(∀i,i<n->g i=i)/\(n:Int)=m):a0j AD AE 127 [isl n g,int m] (bool r):=by
 refine a1e (a0k AB okP i6s _ rfl fun E Sg hb hS=> ?_);cbv;refine a7r AB okP hS (fun i=>i<=n/\ ∀j,j<i->g j=j) (fun i=>n-i)
  (fun i=>⟨b5r [(0,isl n g),(1,int m),(5,int i)] 22,[],[]⟩) 0 ⟨by omega,by omega⟩ ?_ ?_
 ·exact a4c rfl ⟨AA _,AA _,a6c rfl,trivial⟩ (.nil _) (by omega) (.inr rfl) rfl
 ·intro i hi N hN;cbv;split
  ·have hlt:i<n:=by subst hS;simp[AC] at*;omega
   cbv;refine a1g hS (by subst hS;simp[AC];omega) ?_;split
   ·have hx:g i≠i:=by subst hS;simp[AC,AL,AF] at*;assumption
    cbv;exact e8z hr fun h=>hx (h.1 i hlt)
   ·have hx:g i=i:=by subst hS;simp[AC,AL,AF] at*;assumption
    cbv;refine a1g hS (by subst hS;exact b6g (by simp[AC];omega) (by simp[AC];omega)) ?_;refine hN (i+1) _ ⟨by omega,fun j hj=> ?_⟩ (by omega) (a4c rfl ⟨AA _,AA _,b0a (by subst hS;simp[AC]),trivial⟩ (.nil _) (by omega) (.inr rfl) rfl);by_cases e:j=i
    ·subst e;exact hx
    ·exact hi.2 j (by omega)
  ·have hall: ∀j,j<n->g j=j:=by subst hS;simp[AC] at*;exact fun j hj=>hi.2 j (by omega)
   cbv;refine a0s ?_;subst hS;simp[AC];cases r
   ·have: ¬((n:Int)=m):=fun h=>AK (hr.2 ⟨hall,h⟩);simpa using this
   ·simpa using (hr.1 rfl).2
def h4d (g:Nat->Int):Nat->Int
 |0=>1
 |n+1=>h4d g n*g n
theorem h4r {g:Nat->Int}: ∀{n:Nat},(∀i,i<n->1<=g i)->1<=h4d g n
 |0,_=>by simp[h4d]
 |n+1,h=>by have h1:=h4r (g:=g) (n:=n) fun i hi=>h i (by omega);have h2:=h n (by omega);have:1*1<=h4d g n*g n:=AH h1 h2 (by omega) (by omega);simpa [h4d] using this
theorem i2w {p s:Int}(hp:1<=p)(hs:1<=s):min 3000 (min 3000 p*s)=min 3000 (p*s):=by
 by_cases h:p<=3000
 ·rw[Int.min_eq_right h]
 ·rw[AG (a:=3000) (b:=p) (by omega)];have h1:3000*1<=3000*s:=Int.mul_le_mul_of_nonneg_left hs (by omega);have h2:3000*s<=p*s:=Int.mul_le_mul_of_nonneg_right (by omega) (by omega);rw[AG (by omega),AG (by omega)]
theorem h8a {n:Nat}(hn:n<=1000000)(g:Nat->Int)(hg: ∀i,i<n->1<=g i/\g i<=12)(r:Int)(hr:r=min 3000 (h4d g n)):a0j AD AE 86 [isl n g,int 0] (int r):=by
 refine a4e (a0k AB okP i8q _ rfl fun E Sg hb hS=> ?_);cbv;refine a7r AB okP hS (fun (s:Nat×Int)=>s.1<=n/\s.2=min 3000 (h4d g s.1)/\1<=s.2/\s.2<=3000) (fun s=>n-s.1)
  (fun s=>⟨b5r [(0,isl n g),(5,int s.2),(6,int s.1)] 22,[],[]⟩) (0,1) ⟨by simp,by simp only[h4d];decide,by simp,by simp⟩ ?_ ?_
 ·exact a4c rfl ⟨AA _,a6c rfl,b0a rfl,trivial⟩ (.nil _) (by omega) (.inr rfl) rfl
 ·rintro⟨i,p⟩ ⟨h1,h2,h3,h4⟩ N hN;simp only at h1 h2 h3 h4 hN;cbv;split
  ·have hlt:i<n:=by subst hS;simp[AC] at*;omega
   have hgi:=hg i hlt;have hmul:1<=p*g i/\p*g i<=36000:=by have q1:1*1<=p*g i:=AH h3 hgi.1 (by omega) (by omega);have q2:p*g i<=3000*12:=AH h4 hgi.2 (by omega) (by omega);omega
   have hpp:=h4r (g:=g) (n:=i) fun j hj=>(hg j (by omega)).1;cbv;refine a1g hS (by subst hS;simp[AC];omega) ?_;refine a1g hS (by subst hS;exact b6g (by simp[AC,AL,AF];omega) (by simp[AC,AL,AF];omega)) ?_;refine a1g hS (by subst hS;exact b6g (by simp[AC];omega) (by simp[AC];omega)) ?_;refine hN (i+1,min 3000 (p*g i)) _ ⟨by simp;omega,?_,by simp only;omega,by simp only;omega⟩ (by simp;omega) (a4c rfl ⟨AA _,b0a ?_,b0a (by subst hS;simp[AC]),trivial⟩ (.nil _) (by omega) (.inr rfl) rfl)
   ·simp only[h4d,h2];exact i2w hpp hgi.1
   ·subst hS;simp[AC,AL,AF];split<;>omega
  ·have hin:i=n:=by subst hS;simp[AC] at*;omega
   subst hin;cbv;exact b0a (h2.trans hr.symm)
def h6y (n m:Nat)(h:Nat->Int):Prop:=m=n/\ ∀i,i<m->(0<=h i/\h i<=(n:Int)-1)/\ ∀k,k<i->h k≠h i
theorem i0z {n m:Nat}(hn:n<=1000000)(hm:m<=1000000)(g h:Nat->Int)(r:Bool)(hr:r=AE↔h6y n m h):a0j AD AE 87 [isl n g,isl m h] (bool r):=by
 refine a1e (a0k AB okP i7z _ rfl fun E Sg hb hS=> ?_);cbv;split
 ·have hne:m≠n:=by subst hS;simp[AC] at*;omega
  cbv;exact e8z hr fun h=>hne h.1
 have hmn:m=n:=by subst hS;simp[AC] at*;omega
 cbv;refine a7r AB okP hS (fun i=>i<=m/\ ∀j,j<i->(0<=h j/\h j<=(n:Int)-1)/\ ∀k,k<j->h k≠h j) (fun i=>m-i)
  (fun i=>⟨b5r [(0,isl n g),(1,isl m h),(5,int i)] 41,[],[]⟩) 0 ⟨by omega,by omega⟩ ?_ ?_
 ·exact a4c rfl ⟨AA _,AA _,a6c rfl,trivial⟩ (.nil _) (by omega) (.inr rfl) rfl
 ·intro i hi N hN;have hin:=i5t (h i) 0 ((n:Int)-1) (decide (0<=h i/\h i<=(n:Int)-1)) decide_eq_true_iff;generalize hz:decide (0<=h i/\h i<=(n:Int)-1)=z at hin;cbv;split
  ·have hlt:i<m:=by subst hS;simp[AC] at*;omega
   cbv;refine a1g hS (by subst hS;simp[AC];omega) ?_;refine a1g hS (by subst hS;exact b6g (by simp[AC];omega) (by simp[AC];omega)) ?_;refine a0v hS (bool z) (by subst hS;exact hin) ?_;cases z
   ·cbv;exact e8z hr fun hh=>of_decide_eq_false hz (hh.2 i hlt).1
   ·have hz:0<=h i/\h i<=(n:Int)-1:=by simpa using hz
    cbv;refine a7r AB okP hS (fun k=>k<=i/\ ∀j,j<k->h j≠h i) (fun k=>i-k)
     (fun k=>⟨b5r [(0,isl n g),(1,isl m h),(5,int i),(6,int k)] 41,[],[]⟩) 0 ⟨by omega,by omega⟩ ?_ ?_
    ·exact a4c rfl ⟨AA _,AA _,AA _,a6c rfl,trivial⟩ (.nil _) (by omega) (.inr rfl) rfl
    ·intro k hk N2 hN2;cbv;split
     ·have hlk:k<i:=by subst hS;simp[AC] at*;omega
      cbv;refine a1g hS (by subst hS;simp[AC];omega) ?_;refine a1g hS (by subst hS;simp[AC];omega) ?_;split
      ·have hx:h k=h i:=by subst hS;simp[AC,AL,AF] at*;assumption
       cbv;exact e8z hr fun hh=>(hh.2 i hlt).2 k hlk hx
      ·have hx:h k≠h i:=by subst hS;simp[AC,AL,AF] at*;assumption
       cbv;refine a1g hS (by subst hS;exact b6g (by simp[AC];omega) (by simp[AC];omega)) ?_;refine hN2 (k+1) _ ⟨by omega,fun j hj=> ?_⟩ (by omega) (a4c rfl ⟨AA _,AA _,AA _,b0a (by subst hS;simp[AC]),trivial⟩ (.nil _) (by omega) (.inr rfl) rfl);by_cases e:j=k
       ·subst e;exact hx
       ·exact hk.2 j (by omega)
     ·have hki: ∀j,j<i->h j≠h i:=by subst hS;simp[AC] at*;exact fun j hj=>hk.2 j (by omega)
      cbv;refine a1g hS (by subst hS;exact b6g (by simp[AC];omega) (by simp[AC];omega)) ?_;refine hN (i+1) _ ⟨by omega,fun j hj=> ?_⟩ (by omega) (a4c rfl ⟨AA _,AA _,b0a (by subst hS;simp[AC]),trivial⟩ (.nil _) (by omega) (.inr rfl) rfl);by_cases e:j=i
      ·subst e;exact⟨hz,hki⟩
      ·exact hi.2 j (by omega)
  ·have hall:h6y n m h:=⟨hmn,by subst hS;simp[AC] at*;exact fun j hj=>hi.2 j (by omega)⟩;cbv;exact h8e hr hall
open Classical in
noncomputable def h4e (n m:Nat)(g h:Nat->Int):Int:=
 if 6<n then 5 else if¬ ∀i,i<n->1<=g i/\g i<=12 then 3 else if 2000<h4d g n then 5 else if h6y n m h then 0 else 4
theorem h4p {n m:Nat}(hn:n<=1000000)(hm:m<=1000000)(g h:Nat->Int)(r:Int)(hr:h4e n m g h=r):a0j AD AE 39 [isl n g,isl m h] (int r):=by
 refine a4e (a0k AB okP i7p _ rfl fun E Sg hb hS=> ?_);unfold h4e at hr;cbv;split
 ·have h6:6<n:=by subst hS;simp[AC] at*;omega
  cbv;exact a6c (by rw[<-hr,if_pos h6];rfl)
 have h6: ¬6<n:=by subst hS;simp[AC] at*;omega
 rw[if_neg h6] at hr;cbv;refine a7r AB okP hS (fun i=>i<=n/\ ∀j,j<i->1<=g j/\g j<=12) (fun i=>n-i)
  (fun i=>⟨b5r [(0,isl n g),(1,isl m h),(5,int i)] 28,[],[]⟩) 0 ⟨by omega,by omega⟩ ?_ ?_
 ·exact a4c rfl ⟨AA _,AA _,a6c rfl,trivial⟩ (.nil _) (by omega) (.inr rfl) rfl
 ·intro i hi N hN;have hin:=i5t (g i) 1 12 (decide (1<=g i/\g i<=12)) decide_eq_true_iff;generalize hz:decide (1<=g i/\g i<=12)=z at hin;cbv;split
  ·have hlt:i<n:=by subst hS;simp[AC] at*;omega
   cbv;refine a1g hS (by subst hS;simp[AC];omega) ?_;refine a0v hS (bool z) (by subst hS;exact hin) ?_;cases z
   ·cbv;exact a6c (by rw[<-hr,if_pos (fun hh=>of_decide_eq_false hz (hh i hlt))];rfl)
   ·cbv;refine a1g hS (by subst hS;exact b6g (by simp[AC];omega) (by simp[AC];omega)) ?_;refine hN (i+1) _ ⟨by omega,fun j hj=> ?_⟩ (by omega) (a4c rfl ⟨AA _,AA _,b0a (by subst hS;simp[AC]),trivial⟩ (.nil _) (by omega) (.inr rfl) rfl);by_cases e:j=i
    ·subst e;exact of_decide_eq_true hz
    ·exact hi.2 j (by omega)
  ·have hall: ∀j,j<n->1<=g j/\g j<=12:=by subst hS;simp[AC] at*;exact fun j hj=>hi.2 j (by omega)
   rw[if_neg (fun k=>k hall)] at hr;cbv;refine a0v hS _ (h8a hn g hall _ rfl) ?_;generalize hp:min 3000 (h4d g n)=p;cbv;split
   ·have:2000<h4d g n:=by subst hS;simp[AC] at*;omega
    cbv;exact a6c (by rw[<-hr,if_pos this];rfl)
   have hpr: ¬2000<h4d g n:=by subst hS;simp[AC] at*;omega
   rw[if_neg hpr] at hr;obtain⟨z,hz⟩: ∃z:Bool,z=AE↔h6y n m h:=by classical exact⟨decide _,decide_eq_true_iff⟩
   cbv;refine a0v hS _ (i0z hn hm g h z hz) ?_;cases z
   ·cbv;exact a6c (by rw[<-hr,if_neg (fun h=>AK (hz.2 h))];rfl)
   ·cbv;exact a6c (by rw[<-hr,if_pos (hz.1 rfl)];rfl)
theorem i4b {n:Nat}(hn:n<=1000000)(g:Nat->Int)(hg: ∀i,i<n->1<=g i/\g i<=12)(r:Int)(hr:r=min 3000 (h4d g n)):a0j AD AE 72 [isl n g] (int r):=by refine a4e (a0k AB okP i8a _ rfl fun E Sg hb hS=> ?_);cbv;refine a0v hS _ (h8a hn g hg r hr) ?_;cbv;exact AA _
theorem h4s {n m:Nat}{g h:Nat->Int}(e:h4e n m g h=0):n<=6/\(∀i,i<n->1<=g i/\g i<=12)/\h4d g n<=2000/\h6y n m h:=by
 unfold h4e at e;split at e
 ·cases e
 ·split at e
  ·cases e
  ·split at e
   ·cases e
   ·split at e
    ·rename_i a b c d;exact⟨by omega,Classical.not_not.1 b,by omega,d⟩
    ·cases e
structure VaR where
 fault:Int
 n:Int
def VaR.row (v:VaR):List DV:=[.int .u8 (.v v.fault),.int .i64 (.v v.n)]
def VaR.av (v:VaR):AV:= .agg [u8 v.fault,int v.n]
def a1i (v:VaR):Prop:=if v.fault=0 then-9999<=v.n/\v.n<=9999 else v.fault<=4/\v.n=0
theorem i0j (v:VaR)(r:Bool)(hr:r=AE↔a1i v):a0j AD AE 164 [v.av] (bool r):=by
 obtain⟨f,n⟩:=v;simp only[a1i] at hr;refine a1e (a0k AB okP i7d _ rfl fun E Sg hb hS=> ?_);have hin:=i5t n (-9999) 9999 (decide (-9999<=n/\n<=9999)) decide_eq_true_iff;generalize hz:decide (-9999<=n/\n<=9999)=z at hin;cbv;split
 ·have h0:f=0:=by subst hS;simp[AC] at*;assumption
  cbv;refine a0v hS _ hin ?_;cbv;rw[if_pos h0] at hr;exact a0s (by cases r<;>cases z<;>simp at* <;>omega)
 ·have h0:f≠0:=by subst hS;simp[AC] at*;assumption
  rw[if_neg h0] at hr;cbv;split<;>cbv
  all_goals subst hS;simp[AC] at*;exact a0s (by cases r<;>simp at* <;>omega)
structure DiR where
 ns:Nat
 sz:Nat->Int
 no:Nat
 od:Nat->Int
 ne:Nat
 en:Nat->VaR
 nn:Nat
 var:Nat->Int
 nk:Nat->Nat
 kid:Nat->Nat->Int
 root:Int
def vsl (n:Nat)(f:Nat->VaR):AV:= .d (.sl 2 n fun i=>(f i).row)
def bsl (n:Nat)(var:Nat->Int)(nk:Nat->Nat)(kid:Nat->Nat->Int):AV:= .d (.sl 2 n fun i=>[.int .i64 (.v (var i)),.sl 1 (nk i) fun j=>[.int .i64 (.v (kid i j))]])
def DiR.av (d:DiR):AV:= .agg [isl d.ns d.sz,isl d.no d.od,vsl d.ne d.en,bsl d.nn d.var d.nk d.kid,int d.root]
def c5t (z:Int):Prop:= -9223372036854775808<=z/\z<=9223372036854775807
def h5g (d:DiR)(ref below:Int):Prop:=if 0<=ref then ref<below else-1-ref<=(d.ne:Int)-1
theorem i3k (d:DiR)(ref below:Int)(hd:d.ne<=1000000)(hw:c5t ref)(r:Bool)(hr:r=AE↔h5g d ref below):a0j AD AE 165 [d.av,int ref,int below] (bool r):=by
 have hin:=i5t (-1-ref) 0 ((d.ne:Int)-1) (decide (0<= -1-ref/\ -1-ref<=(d.ne:Int)-1)) decide_eq_true_iff;generalize hz:decide (0<= -1-ref/\ -1-ref<=(d.ne:Int)-1)=z at hin;simp only[h5g] at hr;obtain⟨ns,sz,no,od,ne,en,nn,var,nk,kid,root⟩:=d;simp only at hr hd hin hz;simp only[c5t] at hw;refine a1e (a0k AB okP i6o _ rfl fun E Sg hb hS=> ?_);cbv;split
 ·have h0:0<=ref:=by subst hS;simp[AC] at*;assumption
  rw[if_pos h0] at hr;cbv;refine a0s ?_;subst hS;simp[AC] at*;cases r<;>simp at* <;>omega
 ·have h0: ¬0<=ref:=by subst hS;simp[AC] at*;omega
  rw[if_neg h0] at hr;cbv;refine a1g hS (by subst hS;exact b6g (by simp[AC];omega) (by simp[AC];omega)) ?_;refine a1g hS (by subst hS;exact b6g (by simp[AC];omega) (by simp[AC];omega)) ?_;refine a0v hS (bool z) (by subst hS;exact hin) ?_;cbv;refine a0s ?_;cases z
  ·have:=of_decide_eq_false hz;cases r
   ·rfl
   ·have:=hr.1 rfl;omega
  ·have:=of_decide_eq_true hz;cases r
   ·exact absurd (hr.2 this.2) (by simp)
   ·rfl
def pos (od:Nat->Int)(v:Int):Nat->Nat->Nat
 |0,i=>i
 |k+1,i=>if od i=v then i else pos od v k (i+1)
theorem h5n {od:Nat->Int}{v:Int}: ∀{k i j:Nat},i<=j->j<i+k->od j=v->(∀l,i<=l->l<j->od l≠v)->pos od v k i=j
 |0,i,j,h1,h2,_,_=>by omega
 |k+1,i,j,h1,h2,h3,h4=>by
  rw[pos];by_cases e:i=j
  ·subst e;rw[if_pos h3]
  ·rw[if_neg (h4 i (by omega) (by omega))];exact h5n (by omega) (by omega) h3 fun l hl=>h4 l (by omega)
theorem h6w {od:Nat->Int}{v:Int}: ∀{k i:Nat},(∀l,i<=l->l<i+k->od l≠v)->pos od v k i=i+k
 |0,i,_=>by rw[pos];omega
 |k+1,i,h=>by rw[pos,if_neg (h i (by omega) (by omega)),h6w fun l hl hl2=>h l (by omega) (by omega)];omega
def h4t (d:DiR)(ref:Int):Nat:=if 0<=ref then pos d.od (d.var ref.toNat) d.no 0 else d.no
theorem i4l (d:DiR)(ref:Int)(hd:d.no<=1000000)(hr:0<=ref->ref<d.nn)(r:Int)(he:r=h4t d ref):a0j AD AE 166 [d.av,int ref] (int r):=by
 simp only[h4t] at he;obtain⟨ns,sz,no,od,ne,en,nn,var,nk,kid,root⟩:=d;simp only at hd hr he;refine a4e (a0k AB okP i6m _ rfl fun E Sg hb hS=> ?_);have ett: ∀z,Sg.toNat z=z.toNat:=by subst hS;exact fun _=>rfl
 cbv;refine a7r AB okP hS (fun i=>i<=no/\ ∀j,j<i->0<=ref/\od j≠var ref.toNat) (fun i=>no-i)
  (fun i=>⟨b5r [(1,int ref),(2,.ptr 0 0),(5,int i)] 33,[.var [isl ns sz,isl no od,vsl ne en,bsl nn var nk kid,int root]],[]⟩) 0 ⟨by omega,by omega⟩ ?_ ?_
 ·exact a4c rfl ⟨AA _,AA _,a6c rfl,trivial⟩ (.cons (.refl _) (.nil _)) (by simp;omega) (.inr rfl) rfl
 ·intro i hi N hN;cbv;split
  ·have h0:0<=ref:=by subst hS;simp[AC] at*;assumption
   rw[if_pos h0] at he;cbv;split
   ·have hlt:i<no:=by subst hS;simp[AC] at*;omega
    cbv;refine a1g hS (by subst hS;simp[AC];omega) ?_;refine a1g hS (by subst hS;exact⟨h0,hr h0⟩) ?_;simp only[AL,ett,AI,AJ];split
    ·have hx:od i=var ref.toNat:=by subst hS;simp[AC] at*;assumption
     cbv;refine b0a ?_;rw[he,h5n (j:=i) (by omega) (by omega) hx fun l _ hl=>(hi.2 l hl).2];rfl
    ·have hx:od i≠var ref.toNat:=by subst hS;simp[AC] at*;assumption
     cbv;refine a1g hS (by subst hS;exact b6g (by simp[AC];omega) (by simp[AC];omega)) ?_;refine hN (i+1) _ ⟨by omega,fun j hj=> ?_⟩ (by omega) (a4c rfl ⟨AA _,AA _,b0a (by subst hS;simp[AC]),trivial⟩ (.cons (.refl _) (.nil _)) (by simp;omega) (.inr rfl) rfl);by_cases e:j=i
     ·subst e;exact⟨h0,hx⟩
     ·exact hi.2 j (by omega)
   ·have hin:i=no:=by subst hS;simp[AC] at*;omega
    subst hin;cbv;refine b0a ?_;rw[he,h6w fun l _ hl=>(hi.2 l (by omega)).2];subst hS;simp[AC]
  ·have h0: ¬0<=ref:=by subst hS;simp[AC] at*;omega
   rw[if_neg h0] at he;cbv;refine b0a ?_;rw[he];subst hS;rfl
theorem i5i (v:Int){n:Nat}(hn:n<=1000000)(g:Nat->Int)(r:Bool)(hr:r=AE↔ ∀i,i<n->g i=g 0):a0j AD AE 123 [.agg [int v,isl n g]] (bool r):=by
 refine a1e (a0k AB okP f0z _ rfl fun E Sg hb hS=> ?_);have ett: ∀z,Sg.toNat z=z.toNat:=by subst hS;exact fun _=>rfl
 have h00: ∀j,j<1->j<n->g j=g 0:=fun j hj _=>by
  have:j=0:=by omega
  rw[this]
 cbv;refine a7r AB okP hS (fun i=>1<=i/\(i<=n\/n=0/\i=1)/\ ∀j,j<i->j<n->g j=g 0) (fun i=>n-i)
  (fun i=>⟨b5r [(1,.ptr 0 0),(3,int i)] 21,[.var [int v,isl n g]],[]⟩) 1 ⟨by omega,by omega,h00⟩ ?_ ?_
 ·exact a4c rfl ⟨AA _,a6c rfl,trivial⟩ (.cons (.refl _) (.nil _)) (by simp;omega) (.inr rfl) rfl
 ·intro i hi N hN;cbv;split
  ·have hlt:i<n:=by subst hS;simp[AC] at*;omega
   cbv;refine a1g hS (by subst hS;simp[AC];omega) ?_;refine a1g hS (by subst hS;simp[AC];omega) ?_;simp only[AL,ett,AI,AJ];split
   ·have hx:g i≠g 0:=by subst hS;simp[AC] at*;assumption
    cbv;exact e8z hr fun h=>hx (h i hlt)
   ·have hx:g i=g 0:=by subst hS;simp[AC] at*;assumption
    cbv;refine a1g hS (by subst hS;exact b6g (by simp[AC];omega) (by simp[AC];omega)) ?_;refine hN (i+1) _ ⟨by omega,by omega,fun j hj hjn=> ?_⟩ (by omega) (a4c rfl ⟨AA _,b0a (by subst hS;simp[AC]),trivial⟩ (.cons (.refl _) (.nil _)) (by simp;omega) (.inr rfl) rfl);by_cases e:j=i
    ·subst e;exact hx
    ·exact hi.2.2 j (by omega) hjn
  ·have hall: ∀j,j<n->g j=g 0:=by
    have:n<=i:=by subst hS;simp[AC] at*;omega
    exact fun j hj=>hi.2.2 j (by omega) hj
   cbv;exact h8e hr hall
end Go.Proofs.Tryz.Run
