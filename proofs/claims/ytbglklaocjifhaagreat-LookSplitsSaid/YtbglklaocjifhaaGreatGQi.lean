/- Thin families. Conditions: none. -/
import Derived.Test.YtbglklaocjifhaaGreatGNe
import Derived.Test.YtbglklaocjifhaaGreatGJz
open List renaming prefix_refl->AA,getElem?_eq_some_iff->AI,pairwise_iff_getElem->AK,prefix_append->AM,getElem?_eq_getElem->AN,mem_of_getElem?->AP,nodup_append->AU,length->AW,getElem?_append_right->AY,getElem?_take->Ac,append_assoc->Ad,length_cons->Ae,length_nil->Af
open Go.Vf.ab renaming refl->AB
open Go.Proofs.YtbglklaocjifhaaGreat.Tryz renaming mixed->AC
open Int renaming toNat_natCast->AD,ofNat_eq_natCast->AE,lt_or_le->AO,min_eq_left->AX,mul_le_mul->AZ,ofNat_lt->Aa
open Go.Vf renaming ms->AF,nat->Ab,rowAt->Ag
open Bool renaming noConfusion->AG,true->AJ,false->AL
open Go.Proofs.Tryz renaming prog->AH
open Option renaming none->AQ,some->AT
open Classical renaming not_not->AR
open Go.Vf.IX renaming val->AS
set_option linter.unusedSimpArgs false
set_option linter.unusedVariables false
set_option maxHeartbeats 0
namespace Go.Proofs.Tryz.Run
open Go Go.Vf Go.Proofs
theorem xA{α:Sort _}(a:α):∃n,a=n:=⟨a,rfl⟩
theorem xB{α β:Sort _}(f:α->β):∃g:α->β,∀x,f x=g x:=⟨f,fun _=>rfl⟩
open Go.Proofs.YtbglklaocjifhaaGreat
theorem i5f (n m:Nat)(g h:Nat->Int)(hn:n<=1000000):au AH AL 33 [ac n g,ac m h] (.d (.bool (decide (n=m/\ ∀i,i<n->g i=h i)))):=by
 refine cr AC ci g6f _ rfl fun E Sg hb hS=> ?_;generalize hr:decide (n=m/\ ∀i,i<n->g i=h i)=r;unfold ac;cbv;split
 ·cbv;rename_i hc;subst hS;simp[AF] at hc;rw[<-hr,decide_eq_false (by omega)];exact fun _ _ _ _ h=>h
 ·rename_i hc;cbv;have kp:n=m:=by subst hS;simp[AF] at hc;omega
  refine gg AC ci hS (fun i=>i<=n/\ ∀j,j<i->g j=h j) (fun i=>n-i)
   (fun i=>⟨dn [(0,.d (.sl 1 n fun i=>[.int .i64 (.v (g i))])),(1,.d (.sl 1 m fun i=>[.int .i64 (.v (h i))])),(5,.d (.int .i64 (.v (i:Int))))] 26,[],[]⟩) 0 ⟨by omega,by omega⟩ ?_ ?_
  ·exact bq rfl ⟨AB _,AB _,ab.int rfl,trivial⟩ (.nil _) (by omega) (.inr rfl) rfl
  ·intro i hi N hN;cbv;split
   ·rename_i j9;cbv;refine ad hS ?_ (ad hS ?_ ?_)
    ·subst hS;simp[AF] at j9⊢;omega
    ·subst hS;simp[AF] at j9⊢;omega
    split
    ·rename_i k8;cbv;subst hS;simp[AF] at k8;rw[<-hr,decide_eq_false]
     ·exact fun _ _ _ _ h=>h
     ·simp[AF] at j9;intro hh;exact k8 (hh.2 i j9)
    ·rename_i k8;cbv;refine ad hS ?_ ?_
     ·subst hS;simp[AF] at j9;exact e7 (by simp[AF];omega) (by simp[AF];omega)
     ·refine hN (i+1) _ ?_ ?_ (bq rfl ⟨AB _,AB _,ab.int ?_,trivial⟩ (.nil _) (by omega) (.inr rfl) rfl)
      ·subst hS;simp[AF] at j9 k8;refine⟨by omega,fun j hj=> ?_⟩;by_cases e:j=i
       ·subst e;exact k8
       ·exact hi.2 j (by omega)
      ·subst hS;simp[AF] at j9;omega
      ·subst hS;simp[AF]
   ·rename_i j9;cbv;subst hS;simp[AF] at j9;rw[<-hr,decide_eq_true]
    ·exact fun _ _ _ _ h=>h
    ·exact⟨kp,fun j hj=>hi.2 j (by omega)⟩
def uq (n:Nat)(p:Nat->Bool)(r:Int):Prop:=
 ((∀i,i<n->p i=AL)->r= -1)/\ ∀i,i<n->p i=AJ->(∀j,j<i->p j=AL)->r=i
theorem JS (n:Nat)(p:Nat->Bool): ∃z,uq n p z/\(0<=z-> ∃i,i<n/\p i=AJ)/\((∃i,i<n/\p i=AJ)->0<=z):=by
 induction n with
 |zero=>
  refine⟨-1,⟨fun _=>rfl,fun i hi=> ?_⟩,fun h=> ?_,fun h=> ?_⟩
  ·omega
  ·omega
  ·obtain⟨i,h,_⟩:=h;omega
 |succ n ih=>
  by_cases h: ∃i,i<n/\p i=AJ
  ·obtain⟨z,⟨h1,h2⟩,h3,h4⟩:=ih;have:=h4 h;obtain⟨k,hk,cp⟩:=h3 this;refine⟨z,⟨fun ha=>absurd cp (by rw[ha k (by omega)];simp),fun i hi hp hj=> ?_⟩,fun _=>⟨k,by omega,cp⟩,fun _=>this⟩;by_cases e:i=n
   ·subst e;exact absurd cp (by rw[hj k hk];simp)
   ·exact h2 i (by omega) hp hj
  ·by_cases hn:p n=AJ
   ·refine⟨n,⟨fun ha=>(by rw[ha n (by omega)] at hn;exact AG hn),fun i hi hp hj=> ?_⟩,fun _=>⟨n,by omega,hn⟩,fun _=>by omega⟩;by_cases e:i=n
    ·subst e;rfl
    ·exact absurd ⟨i,by omega,hp⟩ h
   ·refine⟨-1,⟨fun _=>rfl,fun i hi hp hj=> ?_⟩,by omega,fun⟨i,hi,hp⟩=> ?_⟩
    ·by_cases e:i=n
     ·subst e;exact absurd hp hn
     ·exact absurd ⟨i,by omega,hp⟩ h
    ·by_cases e:i=n
     ·subst e;exact absurd hp hn
     ·exact absurd ⟨i,by omega,hp⟩ h
theorem d2a {n:Nat}(hn:n<=1000000)(g:Nat->Int)(o1 o2:ae)(gid:FuncId)(p:Nat->Bool)
 (hp: ∀i,i<n->ay AH gid [int (g i),.ptr 0 0,.ptr 1 0] [o1,o2] (ro [o1,o2] (bool (p i)))) (r:Int) (hr:uq n p r):
 ay AH 215 [ac n g,.fn gid [] [.ptr 0 0,.ptr 1 0]] [o1,o2] (ro [o1,o2] (int r)):=by
 refine l7 AC ci Tz _ rfl fun E Sg hb hS=> ?_;cbv;refine gg AC ci hS (fun i=>i<=n/\ ∀j,j<i->p j=AL) (fun i=>n-i)
  (fun i=>⟨dn [(0,ac n g),(1,.fn gid [] [.ptr 0 0,.ptr 1 0]),(7,int n),(8,int i)] 19,[o1,o2],[]⟩) 0 ⟨by omega,by omega⟩ ?_ ?_
 ·exact bq rfl ⟨AB _,AB _,br (by subst hS;rfl),bg rfl,trivial⟩ (.same _) (by omega) (.inr rfl) rfl
 ·intro i hi N hN;cbv;split
  ·cbv;have hlt:i<n:=by subst hS;simp[AF] at*;omega
   have aq:=hp i hlt;generalize hz:p i=z at aq
   repeat' ((first|(with_reducible apply ad hS)|split|(refine lu hS (r:=bool z) (by subst hS;exact aq) ?_;cases z))<;>cbv)
   all_goals try (subst hS;simp[AF,Ab,AS] at* <;>first|omega|exact e7 (by omega) (by omega))
   ·refine hN (i+1) _ ⟨by omega,fun j hj=> ?_⟩ (by omega) (bq rfl ⟨AB _,AB _,AB _,br ?_,trivial⟩ (.same _) (by omega) (.inr rfl) rfl)
    ·by_cases e:j=i
     ·subst e;exact hz
     ·exact hi.2 j (by omega)
    ·subst hS;simp[AF]
   ·exact j7 (br (hr.2 i hlt hz hi.2).symm) (.same _) (.inr rfl)
  ·cbv;exact j7 (bg (hr.1 (by subst hS;simp[AF] at*;exact fun j hj=>hi.2 j (by omega))).symm) (.same _) (.inr rfl)
theorem c0u {n:Nat}(hn:n<=1000000)(g:Nat->Int)(o1 o2:ae)(gid:FuncId)(p:Nat->Bool)
 (hp: ∀i,i<n->ay AH gid [int (g i),.ptr 0 0,.ptr 1 0] [o1,o2] (ro [o1,o2] (bool (p i)))) (r:Bool) (hr:r=AJ↔ ∃i,i<n/\p i=AJ):
 ay AH 188 [ac n g,.fn gid [] [.ptr 0 0,.ptr 1 0]] [o1,o2] (ro [o1,o2] (bool r)):=by
 obtain⟨z,hz,jl,eb⟩: ∃z,uq n p z/\(0<=z-> ∃i,i<n/\p i=AJ)/\((∃i,i<n/\p i=AJ)->0<=z):=JS n p;have aq:=d2a hn g o1 o2 gid p hp z hz;refine l7 AC ci Tx _ rfl fun E Sg hb hS=> ?_;cbv;refine lu hS aq ?_;cbv;refine j7 (ga ?_) (.same _) (.inr rfl);subst hS;simp[AF];cases r
 ·simp at hr⊢;by_cases h:z<0
  ·exact h
  ·obtain⟨i,h1,h2⟩:=jl (by omega);rw[hr i h1] at h2;cases h2
 ·simp at hr⊢;exact eb hr
theorem d0a {x:Int}:ab (.d (.sl 1 1 (Ag [[.int .i64 (.v x)]]))) (ac 1 fun _=>x):=
 ab.Yf rfl fun i hi=>by
  match i,hi with
  |0,_=>rfl
def two (x y:Int):Nat->Int
 |0=>x
 |_=>y
theorem c8h {x y:Int}:ab (.d (.sl 1 2 (Ag [[.int .i64 (.v x)],[.int .i64 (.v y)]]))) (ac 2 (two x y)):=
 ab.Yf rfl fun i hi=>by
  match i,hi with
  |0,_=>rfl
  |1,_=>rfl
theorem QC (a b c:Int)(r:Bool)(hr:r=AJ↔b<=a/\a<=c):au AH AJ 85 [int a,int b,int c] (bool r):=by
 refine j6 (cr AC ci i8p _ rfl fun E Sg hb hS=> ?_);cbv;split<;>cbv
 all_goals subst hS;simp[AF] at*;exact ga (by cases r<;>simp at* <;>omega)
theorem i3v {n:Nat}(hn:n<=1000000)(g:Nat->Int)(x:Int)(r:Bool)(hr:r=AJ↔ ∃i,i<n/\g i=x):au AH AJ 167 [ac n g,int x] (bool r):=by
 refine j6 (cr AC ci i6n _ rfl fun E Sg hb hS=> ?_);cbv;refine gg AC ci hS (fun i=>i<=n/\ ∀j,j<i->g j≠x) (fun i=>n-i)
  (fun i=>⟨dn [(0,ac n g),(1,int x),(5,int i)] 18,[],[]⟩) 0 ⟨by omega,by omega⟩ ?_ ?_
 ·exact bq rfl ⟨AB _,AB _,bg rfl,trivial⟩ (.nil _) (by omega) (.inr rfl) rfl
 ·intro i hi N hN;cbv;split
  ·have hlt:i<n:=by subst hS;simp[AF] at*;omega
   cbv;refine ad hS (by subst hS;simp[AF];omega) ?_;split
   ·have hx:g i=x:=by subst hS;simp[AF,Ab,AS] at*;assumption
    cbv;exact Ir hr ⟨i,hlt,hx⟩
   ·have hx:g i≠x:=by subst hS;simp[AF,Ab,AS] at*;assumption
    cbv;refine ad hS (by subst hS;exact e7 (by simp[AF];omega) (by simp[AF];omega)) ?_;refine hN (i+1) _ ⟨by omega,fun j hj=> ?_⟩ (by omega) (bq rfl ⟨AB _,AB _,br (by subst hS;simp[AF]),trivial⟩ (.nil _) (by omega) (.inr rfl) rfl);by_cases e:j=i
    ·subst e;exact hx
    ·exact hi.2 j (by omega)
  ·have cd: ∀j,j<n->g j≠x:=by subst hS;simp[AF] at*;exact fun j hj=>hi.2 j (by omega)
   cbv;exact jq hr fun⟨i,h1,h2⟩=>cd i h1 h2
theorem h8b {n:Nat}(hn:n<=1000000)(g:Nat->Int)(m:Int)(r:Bool)(hr:r=AJ↔(∀i,i<n->g i=i)/\(n:Int)=m):au AH AJ 127 [ac n g,int m] (bool r):=by
 refine j6 (cr AC ci i6s _ rfl fun E Sg hb hS=> ?_);cbv;refine gg AC ci hS (fun i=>i<=n/\ ∀j,j<i->g j=j) (fun i=>n-i)
  (fun i=>⟨dn [(0,ac n g),(1,int m),(5,int i)] 22,[],[]⟩) 0 ⟨by omega,by omega⟩ ?_ ?_
 ·exact bq rfl ⟨AB _,AB _,bg rfl,trivial⟩ (.nil _) (by omega) (.inr rfl) rfl
 ·intro i hi N hN;cbv;split
  ·have hlt:i<n:=by subst hS;simp[AF] at*;omega
   cbv;refine ad hS (by subst hS;simp[AF];omega) ?_;split
   ·have hx:g i≠i:=by subst hS;simp[AF,Ab,AS] at*;assumption
    cbv;exact jq hr fun h=>hx (h.1 i hlt)
   ·have hx:g i=i:=by subst hS;simp[AF,Ab,AS] at*;assumption
    cbv;refine ad hS (by subst hS;exact e7 (by simp[AF];omega) (by simp[AF];omega)) ?_;refine hN (i+1) _ ⟨by omega,fun j hj=> ?_⟩ (by omega) (bq rfl ⟨AB _,AB _,br (by subst hS;simp[AF]),trivial⟩ (.nil _) (by omega) (.inr rfl) rfl);by_cases e:j=i
    ·subst e;exact hx
    ·exact hi.2 j (by omega)
  ·have cd: ∀j,j<n->g j=j:=by subst hS;simp[AF] at*;exact fun j hj=>hi.2 j (by omega)
   cbv;refine ga ?_;subst hS;simp[AF];cases r
   ·have: ¬((n:Int)=m):=fun h=>AG (hr.2 ⟨cd,h⟩);simpa using this
   ·simpa using (hr.1 rfl).2
def dv (g:Nat->Int):Nat->Int
 |0=>1
 |n+1=>dv g n*g n
theorem Ky {g:Nat->Int}: ∀{n:Nat},(∀i,i<n->1<=g i)->1<=dv g n
 |0,_=>by simp[dv]
 |n+1,h=>by have h1:=Ky (g:=g) (n:=n) fun i hi=>h i (by omega);have h2:=h n (by omega);have:1*1<=dv g n*g n:=AZ h1 h2 (by omega) (by omega);simpa [dv] using this
theorem i2w {p s:Int}(hp:1<=p)(hs:1<=s):min 3000 (min 3000 p*s)=min 3000 (p*s):=by
 by_cases h:p<=3000
 ·rw[Int.min_eq_right h]
 ·rw[AX (a:=3000) (b:=p) (by omega)];have h1:3000*1<=3000*s:=Int.mul_le_mul_of_nonneg_left hs (by omega);have h2:3000*s<=p*s:=Int.mul_le_mul_of_nonneg_right (by omega) (by omega);rw[AX (by omega),AX (by omega)]
theorem h8a {n:Nat}(hn:n<=1000000)(g:Nat->Int)(hg: ∀i,i<n->1<=g i/\g i<=12)(r:Int)(hr:r=min 3000 (dv g n)):au AH AJ 86 [ac n g,int 0] (int r):=by
 refine su (cr AC ci i8q _ rfl fun E Sg hb hS=> ?_);cbv;refine gg AC ci hS (fun (s:Nat×Int)=>s.1<=n/\s.2=min 3000 (dv g s.1)/\1<=s.2/\s.2<=3000) (fun s=>n-s.1)
  (fun s=>⟨dn [(0,ac n g),(5,int s.2),(6,int s.1)] 22,[],[]⟩) (0,1) ⟨by simp,by simp only[dv];decide,by simp,by simp⟩ ?_ ?_
 ·exact bq rfl ⟨AB _,bg rfl,br rfl,trivial⟩ (.nil _) (by omega) (.inr rfl) rfl
 ·rintro⟨i,p⟩ ⟨h1,h2,h3,h4⟩ N hN;simp only at h1 h2 h3 h4 hN;cbv;split
  ·have hlt:i<n:=by subst hS;simp[AF] at*;omega
   have hgi:=hg i hlt;have hmul:1<=p*g i/\p*g i<=36000:=by have q1:1*1<=p*g i:=AZ h3 hgi.1 (by omega) (by omega);have q2:p*g i<=3000*12:=AZ h4 hgi.2 (by omega) (by omega);omega
   have SP:=Ky (g:=g) (n:=i) fun j hj=>(hg j (by omega)).1;cbv;refine ad hS (by subst hS;simp[AF];omega) ?_;refine ad hS (by subst hS;exact e7 (by simp[AF,Ab,AS];omega) (by simp[AF,Ab,AS];omega)) ?_;refine ad hS (by subst hS;exact e7 (by simp[AF];omega) (by simp[AF];omega)) ?_;refine hN (i+1,min 3000 (p*g i)) _ ⟨by simp;omega,?_,by simp only;omega,by simp only;omega⟩ (by simp;omega) (bq rfl ⟨AB _,br ?_,br (by subst hS;simp[AF]),trivial⟩ (.nil _) (by omega) (.inr rfl) rfl)
   ·simp only[dv,h2];exact i2w SP hgi.1
   ·subst hS;simp[AF,Ab,AS];split<;>omega
  ·have aq:i=n:=by subst hS;simp[AF] at*;omega
   subst aq;cbv;exact br (h2.trans hr.symm)
def y5 (n m:Nat)(h:Nat->Int):Prop:=m=n/\ ∀i,i<m->(0<=h i/\h i<=(n:Int)-1)/\ ∀k,k<i->h k≠h i
theorem i0z {n m:Nat}(hn:n<=1000000)(hm:m<=1000000)(g h:Nat->Int)(r:Bool)(hr:r=AJ↔y5 n m h):au AH AJ 87 [ac n g,ac m h] (bool r):=by
 refine j6 (cr AC ci i7z _ rfl fun E Sg hb hS=> ?_);cbv;split
 ·have ck:m≠n:=by subst hS;simp[AF] at*;omega
  cbv;exact jq hr fun h=>ck h.1
 have hmn:m=n:=by subst hS;simp[AF] at*;omega
 cbv;refine gg AC ci hS (fun i=>i<=m/\ ∀j,j<i->(0<=h j/\h j<=(n:Int)-1)/\ ∀k,k<j->h k≠h j) (fun i=>m-i)
  (fun i=>⟨dn [(0,ac n g),(1,ac m h),(5,int i)] 41,[],[]⟩) 0 ⟨by omega,by omega⟩ ?_ ?_
 ·exact bq rfl ⟨AB _,AB _,bg rfl,trivial⟩ (.nil _) (by omega) (.inr rfl) rfl
 ·intro i hi N hN;have aq:=QC (h i) 0 ((n:Int)-1) (decide (0<=h i/\h i<=(n:Int)-1)) decide_eq_true_iff;generalize hz:decide (0<=h i/\h i<=(n:Int)-1)=z at aq;cbv;split
  ·have hlt:i<m:=by subst hS;simp[AF] at*;omega
   cbv;refine ad hS (by subst hS;simp[AF];omega) ?_;refine ad hS (by subst hS;exact e7 (by simp[AF];omega) (by simp[AF];omega)) ?_;refine bf hS (bool z) (by subst hS;exact aq) ?_;cases z
   ·cbv;exact jq hr fun hh=>of_decide_eq_false hz (hh.2 i hlt).1
   ·have hz:0<=h i/\h i<=(n:Int)-1:=by simpa using hz
    cbv;refine gg AC ci hS (fun k=>k<=i/\ ∀j,j<k->h j≠h i) (fun k=>i-k)
     (fun k=>⟨dn [(0,ac n g),(1,ac m h),(5,int i),(6,int k)] 41,[],[]⟩) 0 ⟨by omega,by omega⟩ ?_ ?_
    ·exact bq rfl ⟨AB _,AB _,AB _,bg rfl,trivial⟩ (.nil _) (by omega) (.inr rfl) rfl
    ·intro k hk N2 yu;cbv;split
     ·have ny:k<i:=by subst hS;simp[AF] at*;omega
      cbv;refine ad hS (by subst hS;simp[AF];omega) ?_;refine ad hS (by subst hS;simp[AF];omega) ?_;split
      ·have hx:h k=h i:=by subst hS;simp[AF,Ab,AS] at*;assumption
       cbv;exact jq hr fun hh=>(hh.2 i hlt).2 k ny hx
      ·have hx:h k≠h i:=by subst hS;simp[AF,Ab,AS] at*;assumption
       cbv;refine ad hS (by subst hS;exact e7 (by simp[AF];omega) (by simp[AF];omega)) ?_;refine yu (k+1) _ ⟨by omega,fun j hj=> ?_⟩ (by omega) (bq rfl ⟨AB _,AB _,AB _,br (by subst hS;simp[AF]),trivial⟩ (.nil _) (by omega) (.inr rfl) rfl);by_cases e:j=k
       ·subst e;exact hx
       ·exact hk.2 j (by omega)
     ·have rp: ∀j,j<i->h j≠h i:=by subst hS;simp[AF] at*;exact fun j hj=>hk.2 j (by omega)
      cbv;refine ad hS (by subst hS;exact e7 (by simp[AF];omega) (by simp[AF];omega)) ?_;refine hN (i+1) _ ⟨by omega,fun j hj=> ?_⟩ (by omega) (bq rfl ⟨AB _,AB _,br (by subst hS;simp[AF]),trivial⟩ (.nil _) (by omega) (.inr rfl) rfl);by_cases e:j=i
      ·subst e;exact⟨hz,rp⟩
      ·exact hi.2 j (by omega)
  ·have cd:y5 n m h:=⟨hmn,by subst hS;simp[AF] at*;exact fun j hj=>hi.2 j (by omega)⟩;cbv;exact Ir hr cd
open Classical in
noncomputable def pr (n m:Nat)(g h:Nat->Int):Int:=
 if 6<n then 5 else if¬ ∀i,i<n->1<=g i/\g i<=12 then 3 else if 2000<dv g n then 5 else if y5 n m h then 0 else 4
theorem U2 {n m:Nat}(hn:n<=1000000)(hm:m<=1000000)(g h:Nat->Int)(r:Int)(hr:pr n m g h=r):au AH AJ 39 [ac n g,ac m h] (int r):=by
 refine su (cr AC ci i7p _ rfl fun E Sg hb hS=> ?_);unfold pr at hr;cbv;split
 ·have h6:6<n:=by subst hS;simp[AF] at*;omega
  cbv;exact bg (by rw[<-hr,if_pos h6];rfl)
 have h6: ¬6<n:=by subst hS;simp[AF] at*;omega
 rw[if_neg h6] at hr;cbv;refine gg AC ci hS (fun i=>i<=n/\ ∀j,j<i->1<=g j/\g j<=12) (fun i=>n-i)
  (fun i=>⟨dn [(0,ac n g),(1,ac m h),(5,int i)] 28,[],[]⟩) 0 ⟨by omega,by omega⟩ ?_ ?_
 ·exact bq rfl ⟨AB _,AB _,bg rfl,trivial⟩ (.nil _) (by omega) (.inr rfl) rfl
 ·intro i hi N hN;have aq:=QC (g i) 1 12 (decide (1<=g i/\g i<=12)) decide_eq_true_iff;generalize hz:decide (1<=g i/\g i<=12)=z at aq;cbv;split
  ·have hlt:i<n:=by subst hS;simp[AF] at*;omega
   cbv;refine ad hS (by subst hS;simp[AF];omega) ?_;refine bf hS (bool z) (by subst hS;exact aq) ?_;cases z
   ·cbv;exact bg (by rw[<-hr,if_pos (fun hh=>of_decide_eq_false hz (hh i hlt))];rfl)
   ·cbv;refine ad hS (by subst hS;exact e7 (by simp[AF];omega) (by simp[AF];omega)) ?_;refine hN (i+1) _ ⟨by omega,fun j hj=> ?_⟩ (by omega) (bq rfl ⟨AB _,AB _,br (by subst hS;simp[AF]),trivial⟩ (.nil _) (by omega) (.inr rfl) rfl);by_cases e:j=i
    ·subst e;exact of_decide_eq_true hz
    ·exact hi.2 j (by omega)
  ·have cd: ∀j,j<n->1<=g j/\g j<=12:=by subst hS;simp[AF] at*;exact fun j hj=>hi.2 j (by omega)
   rw[if_neg (fun k=>k cd)] at hr;cbv;refine bf hS _ (h8a hn g cd _ rfl) ?_;generalize hp:min 3000 (dv g n)=p;cbv;split
   ·have:2000<dv g n:=by subst hS;simp[AF] at*;omega
    cbv;exact bg (by rw[<-hr,if_pos this];rfl)
   have hpr: ¬2000<dv g n:=by subst hS;simp[AF] at*;omega
   rw[if_neg hpr] at hr;obtain⟨z,hz⟩: ∃z:Bool,z=AJ↔y5 n m h:=by classical exact⟨decide _,decide_eq_true_iff⟩
   cbv;refine bf hS _ (i0z hn hm g h z hz) ?_;cases z
   ·cbv;exact bg (by rw[<-hr,if_neg (fun h=>AG (hz.2 h))];rfl)
   ·cbv;exact bg (by rw[<-hr,if_pos (hz.1 rfl)];rfl)
theorem i4b {n:Nat}(hn:n<=1000000)(g:Nat->Int)(hg: ∀i,i<n->1<=g i/\g i<=12)(r:Int)(hr:r=min 3000 (dv g n)):au AH AJ 72 [ac n g] (int r):=by refine su (cr AC ci i8a _ rfl fun E Sg hb hS=> ?_);cbv;refine bf hS _ (h8a hn g hg r hr) ?_;cbv;exact AB _
theorem IU {n m:Nat}{g h:Nat->Int}(e:pr n m g h=0):n<=6/\(∀i,i<n->1<=g i/\g i<=12)/\dv g n<=2000/\y5 n m h:=by
 unfold pr at e;split at e
 ·cases e
 ·split at e
  ·cases e
  ·split at e
   ·cases e
   ·split at e
    ·rename_i a b c d;exact⟨by omega,AR.1 b,by omega,d⟩
    ·cases e
structure g8 where
 fault:Int
 n:Int
def g8.row (v:g8):List DV:=[.int .u8 (.v v.fault),.int .i64 (.v v.n)]
def g8.av (v:g8):AV:= .agg [u8 v.fault,int v.n]
def gb (v:g8):Prop:=if v.fault=0 then-9999<=v.n/\v.n<=9999 else v.fault<=4/\v.n=0
theorem i0j (v:g8)(r:Bool)(hr:r=AJ↔gb v):au AH AJ 164 [v.av] (bool r):=by
 obtain⟨f,n⟩:=v;simp only[gb] at hr;refine j6 (cr AC ci i7d _ rfl fun E Sg hb hS=> ?_);have aq:=QC n (-9999) 9999 (decide (-9999<=n/\n<=9999)) decide_eq_true_iff;generalize hz:decide (-9999<=n/\n<=9999)=z at aq;cbv;split
 ·have h0:f=0:=by subst hS;simp[AF] at*;assumption
  cbv;refine bf hS _ aq ?_;cbv;rw[if_pos h0] at hr;exact ga (by cases r<;>cases z<;>simp at* <;>omega)
 ·have h0:f≠0:=by subst hS;simp[AF] at*;assumption
  rw[if_neg h0] at hr;cbv;split<;>cbv
  all_goals subst hS;simp[AF] at*;exact ga (by cases r<;>simp at* <;>omega)
structure g7 where
 ns:Nat
 sz:Nat->Int
 no:Nat
 od:Nat->Int
 ne:Nat
 en:Nat->g8
 nn:Nat
 var:Nat->Int
 nk:Nat->Nat
 dq:Nat->Nat->Int
 root:Int
def d7 (n:Nat)(f:Nat->g8):AV:= .d (.sl 2 n fun i=>(f i).row)
def WD (n:Nat)(var:Nat->Int)(nk:Nat->Nat)(dq:Nat->Nat->Int):AV:= .d (.sl 2 n fun i=>[.int .i64 (.v (var i)),.sl 1 (nk i) fun j=>[.int .i64 (.v (dq i j))]])
def g7.av (d:g7):AV:= .agg [ac d.ns d.sz,ac d.no d.od,d7 d.ne d.en,WD d.nn d.var d.nk d.dq,int d.root]
def rq (z:Int):Prop:= -9223372036854775808<=z/\z<=9223372036854775807
def xz (d:g7)(ref below:Int):Prop:=if 0<=ref then ref<below else-1-ref<=(d.ne:Int)-1
theorem i3k (d:g7)(ref below:Int)(hd:d.ne<=1000000)(hw:rq ref)(r:Bool)(hr:r=AJ↔xz d ref below):au AH AJ 165 [d.av,int ref,int below] (bool r):=by
 have aq:=QC (-1-ref) 0 ((d.ne:Int)-1) (decide (0<= -1-ref/\ -1-ref<=(d.ne:Int)-1)) decide_eq_true_iff;generalize hz:decide (0<= -1-ref/\ -1-ref<=(d.ne:Int)-1)=z at aq;simp only[xz] at hr;obtain⟨ns,sz,no,od,ne,en,nn,var,nk,dq,root⟩:=d;simp only at hr hd aq hz;simp only[rq] at hw;refine j6 (cr AC ci i6o _ rfl fun E Sg hb hS=> ?_);cbv;split
 ·have h0:0<=ref:=by subst hS;simp[AF] at*;assumption
  rw[if_pos h0] at hr;cbv;refine ga ?_;subst hS;simp[AF] at*;cases r<;>simp at* <;>omega
 ·have h0: ¬0<=ref:=by subst hS;simp[AF] at*;omega
  rw[if_neg h0] at hr;cbv;refine ad hS (by subst hS;exact e7 (by simp[AF];omega) (by simp[AF];omega)) ?_;refine ad hS (by subst hS;exact e7 (by simp[AF];omega) (by simp[AF];omega)) ?_;refine bf hS (bool z) (by subst hS;exact aq) ?_;cbv;refine ga ?_;cases z
  ·have:=of_decide_eq_false hz;cases r
   ·rfl
   ·have:=hr.1 rfl;omega
  ·have:=of_decide_eq_true hz;cases r
   ·exact absurd (hr.2 this.2) (by simp)
   ·rfl
def pos (od:Nat->Int)(v:Int):Nat->Nat->Nat
 |0,i=>i
 |k+1,i=>if od i=v then i else pos od v k (i+1)
theorem TM {od:Nat->Int}{v:Int}: ∀{k i j:Nat},i<=j->j<i+k->od j=v->(∀l,i<=l->l<j->od l≠v)->pos od v k i=j
 |0,i,j,h1,h2,_,_=>by omega
 |k+1,i,j,h1,h2,h3,h4=>by
  rw[pos];by_cases e:i=j
  ·subst e;rw[if_pos h3]
  ·rw[if_neg (h4 i (by omega) (by omega))];exact TM (by omega) (by omega) h3 fun l hl=>h4 l (by omega)
theorem h6w {od:Nat->Int}{v:Int}: ∀{k i:Nat},(∀l,i<=l->l<i+k->od l≠v)->pos od v k i=i+k
 |0,i,_=>by rw[pos];omega
 |k+1,i,h=>by rw[pos,if_neg (h i (by omega) (by omega)),h6w fun l hl qt=>h l (by omega) (by omega)];omega
def rv (d:g7)(ref:Int):Nat:=if 0<=ref then pos d.od (d.var ref.toNat) d.no 0 else d.no
theorem i4l (d:g7)(ref:Int)(hd:d.no<=1000000)(hr:0<=ref->ref<d.nn)(r:Int)(he:r=rv d ref):au AH AJ 166 [d.av,int ref] (int r):=by
 simp only[rv] at he;obtain⟨ns,sz,no,od,ne,en,nn,var,nk,dq,root⟩:=d;simp only at hd hr he;refine su (cr AC ci i6m _ rfl fun E Sg hb hS=> ?_);have e8: ∀z,Sg.toNat z=z.toNat:=by subst hS;exact fun _=>rfl
 cbv;refine gg AC ci hS (fun i=>i<=no/\ ∀j,j<i->0<=ref/\od j≠var ref.toNat) (fun i=>no-i)
  (fun i=>⟨dn [(1,int ref),(2,.ptr 0 0),(5,int i)] 33,[.var [ac ns sz,ac no od,d7 ne en,WD nn var nk dq,int root]],[]⟩) 0 ⟨by omega,by omega⟩ ?_ ?_
 ·exact bq rfl ⟨AB _,AB _,bg rfl,trivial⟩ (.cons (.refl _) (.nil _)) (by simp;omega) (.inr rfl) rfl
 ·intro i hi N hN;cbv;split
  ·have h0:0<=ref:=by subst hS;simp[AF] at*;assumption
   rw[if_pos h0] at he;cbv;split
   ·have hlt:i<no:=by subst hS;simp[AF] at*;omega
    cbv;refine ad hS (by subst hS;simp[AF];omega) ?_;refine ad hS (by subst hS;exact⟨h0,hr h0⟩) ?_;simp only[Ab,e8,AE,AD];split
    ·have hx:od i=var ref.toNat:=by subst hS;simp[AF] at*;assumption
     cbv;refine br ?_;rw[he,TM (j:=i) (by omega) (by omega) hx fun l _ hl=>(hi.2 l hl).2];rfl
    ·have hx:od i≠var ref.toNat:=by subst hS;simp[AF] at*;assumption
     cbv;refine ad hS (by subst hS;exact e7 (by simp[AF];omega) (by simp[AF];omega)) ?_;refine hN (i+1) _ ⟨by omega,fun j hj=> ?_⟩ (by omega) (bq rfl ⟨AB _,AB _,br (by subst hS;simp[AF]),trivial⟩ (.cons (.refl _) (.nil _)) (by simp;omega) (.inr rfl) rfl);by_cases e:j=i
     ·subst e;exact⟨h0,hx⟩
     ·exact hi.2 j (by omega)
   ·have aq:i=no:=by subst hS;simp[AF] at*;omega
    subst aq;cbv;refine br ?_;rw[he,h6w fun l _ hl=>(hi.2 l (by omega)).2];subst hS;simp[AF]
  ·have h0: ¬0<=ref:=by subst hS;simp[AF] at*;omega
   rw[if_neg h0] at he;cbv;refine br ?_;rw[he];subst hS;rfl
theorem i5i (v:Int){n:Nat}(hn:n<=1000000)(g:Nat->Int)(r:Bool)(hr:r=AJ↔ ∀i,i<n->g i=g 0):au AH AJ 123 [.agg [int v,ac n g]] (bool r):=by
 refine j6 (cr AC ci f0z _ rfl fun E Sg hb hS=> ?_);have e8: ∀z,Sg.toNat z=z.toNat:=by subst hS;exact fun _=>rfl
 have h00: ∀j,j<1->j<n->g j=g 0:=fun j hj _=>by
  have:j=0:=by omega
  rw[this]
 cbv;refine gg AC ci hS (fun i=>1<=i/\(i<=n\/n=0/\i=1)/\ ∀j,j<i->j<n->g j=g 0) (fun i=>n-i)
  (fun i=>⟨dn [(1,.ptr 0 0),(3,int i)] 21,[.var [int v,ac n g]],[]⟩) 1 ⟨by omega,by omega,h00⟩ ?_ ?_
 ·exact bq rfl ⟨AB _,bg rfl,trivial⟩ (.cons (.refl _) (.nil _)) (by simp;omega) (.inr rfl) rfl
 ·intro i hi N hN;cbv;split
  ·have hlt:i<n:=by subst hS;simp[AF] at*;omega
   cbv;refine ad hS (by subst hS;simp[AF];omega) ?_;refine ad hS (by subst hS;simp[AF];omega) ?_;simp only[Ab,e8,AE,AD];split
   ·have hx:g i≠g 0:=by subst hS;simp[AF] at*;assumption
    cbv;exact jq hr fun h=>hx (h i hlt)
   ·have hx:g i=g 0:=by subst hS;simp[AF] at*;assumption
    cbv;refine ad hS (by subst hS;exact e7 (by simp[AF];omega) (by simp[AF];omega)) ?_;refine hN (i+1) _ ⟨by omega,by omega,fun j hj xt=> ?_⟩ (by omega) (bq rfl ⟨AB _,br (by subst hS;simp[AF]),trivial⟩ (.cons (.refl _) (.nil _)) (by simp;omega) (.inr rfl) rfl);by_cases e:j=i
    ·subst e;exact hx
    ·exact hi.2.2 j (by omega) xt
  ·have cd: ∀j,j<n->g j=g 0:=by
    have:n<=i:=by subst hS;simp[AF] at*;omega
    exact fun j hj=>hi.2.2 j (by omega) hj
   cbv;exact Ir hr cd
def L {α:Type}(n:Nat)(g:Nat->α):List α:=(List.range n).map g
theorem jt {α:Type}(n:Nat)(g:Nat->α):(L n g).length=n:=by simp[L]
theorem Mw {α:Type}(n:Nat)(g:Nat->α):L (n+1) g=L n g++[g n]:=by simp[L,List.range_succ]
theorem JH {α:Type}{n:Nat}{g h:Nat->α}(e: ∀i,i<n->g i=h i):L n g=L n h:=by unfold L;exact List.map_congr_left fun i hi=>e i (by simpa using hi)
theorem yd {α:Type}{n:Nat}{g:Nat->α}{x:α}:x∈L n g↔ ∃i,i<n/\g i=x:=by simp[L]
def g9 (n:Nat)(g:Nat->Int):ae:= .arr 1 n fun i=>[.int .i64 (.v (g i))]
theorem bx.g9 {n m:Nat}{e:Nat->List DV}{g:Nat->Int}(hn:n=m)(h: ∀i,i<n->e i=[.int .i64 (.v (g i))]):bx (.arr 1 n e) (g9 m g):=bx.Yc hn h
def zd (l:List Int)(x:Int):List Int:=if x∈l then l else l++[x]
instance:DecidableEq g8:=fun a b=>match a,b with
 |⟨x,y⟩,⟨u,v⟩=>if h:x=u/\y=v then isTrue (by rw[h.1,h.2]) else isFalse fun e=>h (by cases e;exact⟨rfl,rfl⟩)
structure Xs where
 var:Int
 kids:List Int
instance:DecidableEq Xs:=fun a b=>match a,b with
 |⟨x,y⟩,⟨u,v⟩=>if h:x=u/\y=v then isTrue (by rw[h.1,h.2]) else isFalse fun e=>h (by cases e;exact⟨rfl,rfl⟩)
namespace Law
section
variable (E:List g8) (N:List Xs)
def n5:Nat->Int->List Int×List Int->List Int×List Int
 |0,ref,s=>if ref<0 then (s.1,zd s.2 (-1-ref)) else s
 |f+1,ref,s=>if ref<0 then (s.1,zd s.2 (-1-ref)) else if ref∈s.1 then s else
  match N[ref.toNat]? with
  |none=>s
  |some b=>let t:=b.kids.foldl (fun s k=>n5 f k s) s;(t.1++[ref],t.2)
structure Mk where
 oe:List g8
 on:List Xs
 kn:Nat->Option Int
def v5 {α:Type}[DecidableEq α](l:List α)(x:α):List α:=if x∈l then l else l++[x]
def Xe {α:Type}[DecidableEq α]:List α->α->Nat
 |[],_=>0
 |y::l,x=>if y=x then 0 else Xe l x+1
def Vq (l:List Int):Prop:= ∀k,k∈l->k=l.headD 0
instance (l:List Int):Decidable (Vq l):=by unfold Vq;infer_instance
def ol (s:Mk)(v:g8):Mk×Int:=({s with oe:=v5 s.oe v},-1-(Xe s.oe v:Int))
def mkNode (s:Mk)(b:Xs):Mk×Int:=
 if Vq b.kids then (s,b.kids.headD 0) else ({s with on:=v5 s.on b},Xe s.on b)
def Vr (s:Mk)(i:Nat)(z:Int):Mk:={s with kn:=fun j=>if j=i then AT z else s.kn j}
def Vt:Nat->Int->Mk->Mk×Int
 |0,ref,s=>if ref<0 then match E[(-1-ref).toNat]? with|some v=>ol s v|none=>(s,0) else (s,0)
 |f+1,ref,s=>if ref<0 then match E[(-1-ref).toNat]? with|some v=>ol s v|none=>(s,0) else
  match s.kn ref.toNat with
  |some t=>(s,t)
  |none=>match N[ref.toNat]? with
   |none=>(s,0)
   |some b=>
    let r:=b.kids.foldl (fun (p:Mk×List Int) k=>let q:=Vt f k p.1;(q.1,p.2++[q.2])) (s,[])
    let q:=mkNode r.1 ⟨b.var,r.2⟩
    (Vr q.1 ref.toNat q.2,q.2)
def Rd (n:Nat):List Int:=L n fun k=>(k:Int)
def Wi (n e:Nat):Mk:=⟨E.take e,N.take n,fun i=>if i<n then AT (i:Int) else AQ⟩
def t9 (ref:Int)(below:Nat):Prop:=(0<=ref->ref<below)/\(ref<0->(-1-ref).toNat<E.length)
theorem QP {n:Nat}{x:Int}:x∈Rd n↔0<=x/\x<n:=by
 unfold Rd;rw[yd];constructor
 ·rintro⟨i,hi,rfl⟩;omega
 ·intro h;exact⟨x.toNat,by omega,by omega⟩
theorem h9c (n:Nat):Rd (n+1)=Rd n++[(n:Int)]:=Mw _ _
theorem UO {α:Type}[DecidableEq α]: ∀{l:List α} {x:α} {i:Nat},l.Nodup->l[i]? =AT x->Xe l x=i
 |[],x,i,_,h=>by simp at h
 |y::l,x,0,_,h=>by simp at h;simp[Xe,h]
 |y::l,x,i+1,hn,h=>by simp at h;have h1:=List.nodup_cons.1 hn;have:y≠x:=fun e=>h1.1 (e▸AP h);simp[Xe,this,UO h1.2 h]
theorem VT {α:Type}[DecidableEq α]: ∀{l:List α} {x:α},x∉l->Xe l x=l.length
 |[],_,_=>rfl
 |y::l,x,h=>by have h1:y≠x:=fun e=>h (by simp[e]);simp[Xe,h1,VT (fun h2=>h (by simp[h2]):x∉l)]
theorem Wo {α:Type}[DecidableEq α]: ∀(l:List α) (x:α),Xe l x<=l.length
 |[],_=>Nat.le_refl _
 |y::l,x=>by rw[Xe];split<;>simp;exact Wo l x
theorem Xz {α:Type}[DecidableEq α]{l:List α}{x:α}(h:x∈l):v5 l x=l:=if_pos h
theorem WN {α:Type}[DecidableEq α]{l:List α}{x:α}(h:x∉l):v5 l x=l++[x]:=if_neg h
theorem i3g {α:Type}{l:List α}{e j:Nat}{v:α}(h:l[j]? =AT v)(hj:j<e):(l.take e)[j]? =AT v:=by rw[Ac];simp[hj,h]
theorem h9x {α:Type}{l:List α}(h:l.Nodup)(e:Nat):(l.take e).Nodup:=h.sublist (List.take_sublist _ _)
theorem h9b {α:Type}{l:List α}(hn:l.Nodup){e j:Nat}{v:α}(h:l[j]? =AT v)(hj:e<=j):v∉l.take e:=by
 intro hm;obtain⟨i,hi⟩:=List.getElem?_of_mem hm;rw[Ac] at hi;split at hi
 ·have hl:i<l.length:=(AI.1 hi).1;have qt:j<l.length:=(AI.1 h).1;have e1:=(AI.1 hi).2;have e2:=(AI.1 h).2;have:=(AK.1 hn) i j hl qt (by omega);exact this (e1.trans e2.symm)
 ·cases hi
theorem h7r {α:Type}{l:List α}{e:Nat}{v:α}(h:l[e]? =AT v):l.take (e+1)=l.take e++[v]:=by rw[List.take_add_one,h];rfl
def YP (l:List Int×List Int)(s:Mk)(nn ne:Nat):Prop:= ¬(l.1<+:Rd nn/\l.2<+:Rd ne)/\ ¬(s.oe<+:E/\s.on<+:N)
theorem YP.mono {l l':List Int×List Int}{s s':Mk}{nn ne:Nat}(h:YP E N l s nn ne)(h1:l.1<+:l'.1)(h2:l.2<+:l'.2)(h3:s.oe<+:s'.oe)(h4:s.on<+:s'.on):YP E N l' s' nn ne:=
 ⟨fun h5=>h.1 ⟨h1.trans h5.1,h2.trans h5.2⟩,fun h5=>h.2 ⟨h3.trans h5.1,h4.trans h5.2⟩⟩
theorem h7n (l:List Int)(x:Int):l<+:zd l x:=by unfold zd;split;exact AA _;exact AM _ _
theorem h7x {α:Type}[DecidableEq α](l:List α)(x:α):l<+:v5 l x:=by unfold v5;split;exact AA _;exact AM _ _
theorem h9g: ∀(f:Nat) (ref:Int) (s:List Int×List Int),s.1<+:(n5 N f ref s).1/\s.2<+:(n5 N f ref s).2
 |0,ref,s=>by
  unfold n5;split
  ·exact⟨AA _,h7n _ _⟩
  ·exact⟨AA _,AA _⟩
 |f+1,ref,s=>by
  unfold n5;split
  ·exact⟨AA _,h7n _ _⟩
  ·split
   ·exact⟨AA _,AA _⟩
   ·split
    ·exact⟨AA _,AA _⟩
    ·rename_i b _;have: ∀(l:List Int) (s:List Int×List Int),s.1<+:(l.foldl (fun s k=>n5 N f k s) s).1/\s.2<+:(l.foldl (fun s k=>n5 N f k s) s).2:=by
      intro l
      induction l with
      |nil=>intro s;exact⟨AA _,AA _⟩
      |cons k l ih=>intro s;have h1:=h9g f k s;have h2:=ih (n5 N f k s);exact⟨h1.1.trans h2.1,h1.2.trans h2.2⟩
     have h:=this b.kids s;exact⟨h.1.trans (AM _ _),h.2⟩
theorem h7u (s:Mk)(v:g8):s.oe<+:(ol s v).1.oe/\s.on<+:(ol s v).1.on:=⟨h7x _ _,AA _⟩
theorem h6r (s:Mk)(b:Xs):s.oe<+:(mkNode s b).1.oe/\s.on<+:(mkNode s b).1.on:=by
 unfold mkNode;split
 ·exact⟨AA _,AA _⟩
 ·exact⟨AA _,h7x _ _⟩
def i9 (f:Nat)(l:List Int)(p:Mk×List Int):Mk×List Int:=l.foldl (fun (p:Mk×List Int) k=>let q:=Vt E N f k p.1;(q.1,p.2++[q.2])) p
theorem h7p {f:Nat}(h: ∀ref s,s.oe<+:(Vt E N f ref s).1.oe/\s.on<+:(Vt E N f ref s).1.on): ∀(l:List Int) (p:Mk×List Int),p.1.oe<+:(i9 E N f l p).1.oe/\p.1.on<+:(i9 E N f l p).1.on:=by
 intro l
 induction l with
 |nil=>intro p;exact⟨AA _,AA _⟩
 |cons k l ih=>intro p;have h1:=h k p.1;have h2:=ih ((Vt E N f k p.1).1,p.2++[(Vt E N f k p.1).2]);exact⟨h1.1.trans h2.1,h1.2.trans h2.2⟩
theorem i1e: ∀(f:Nat) (ref:Int) (s:Mk),s.oe<+:(Vt E N f ref s).1.oe/\s.on<+:(Vt E N f ref s).1.on
 |0,ref,s=>by
  unfold Vt
  (repeat' split)<;>first|exact h7u _ _|exact⟨AA _,AA _⟩
 |f+1,ref,s=>by
  unfold Vt
  (repeat' split)<;>first|exact h7u _ _|exact⟨AA _,AA _⟩|skip
  rename_i b _;have h1:=h7p E N (i1e f) b.kids (s,[]);have h2:=h6r (i9 E N f b.kids (s,[])).1 ⟨b.var,(i9 E N f b.kids (s,[])).2⟩;exact⟨h1.1.trans h2.1,h1.2.trans h2.2⟩
def i7l (n e:Nat)(ref:Int)(l:List Int×List Int)(q:Mk×Int):Prop:=
 (∃n' e',n<=n'/\e<=e'/\n'<=N.length/\e'<=E.length/\(n':Int)<=max (n:Int) (ref+1)/\l=(Rd n',Rd e')/\q=(Wi E N n' e',ref))\/YP E N l q.1 N.length E.length
theorem i1z {n m:Nat}{x:Int}(h:Rd n++[x]<+:Rd m):x=n:=by
 obtain⟨t,ht⟩:=h;have h1:(Rd n++[x]++t)[n]? =(Rd m)[n]? :=by rw[ht]
 have hl:(Rd n).length=n:=jt _ _;rw[Ad,AY (by omega),hl] at h1;simp at h1;have hm:n<m:=by
  rcases Nat.lt_or_ge n m with h2|h2
  ·exact h2
  ·rw[List.getElem?_eq_none (by simpa [Rd,jt] using h2)] at h1;cases h1
 simp[Rd,L,hm] at h1;exact h1
theorem h9q {α:Type}{l:List α}(hn:l.Nodup){n i:Nat}{v:α}(hi:l[i]? =AT v)(hlen:n<=l.length)(h:l.take n++[v]<+:l):i=n:=by
 obtain⟨t,ht⟩:=h;have h1:(l.take n++[v]++t)[n]? =l[n]? :=by rw[ht]
 have hl:(l.take n).length=n:=by simp;omega
 rw[Ad,AY (by omega),hl] at h1;simp at h1;have h2:=h1.symm;obtain⟨a1,b1⟩:=AI.1 h2;obtain⟨a2,b2⟩:=AI.1 hi;rcases Nat.lt_trichotomy i n with h3|h3|h3
 ·exact absurd (b2.trans b1.symm) ((AK.1 hn) i n a2 a1 h3)
 ·exact h3
 ·exact absurd (b1.trans b2.symm) ((AK.1 hn) n i a1 a2 h3)
variable {E N}
theorem h9l (hE:E.Nodup){n e:Nat}(hn:n<=N.length)(he:e<=E.length){ref:Int}(h0:ref<0){v:g8}(hv:E[(-1-ref).toNat]? =AT v):
 i7l E N n e ref (Rd n,zd (Rd e) (-1-ref)) (ol (Wi E N n e) v):=by
 obtain⟨j,hj⟩: ∃j:Nat,-1-ref=j:=⟨(-1-ref).toNat,by omega⟩;rw[hj] at hv⊢;simp only[AD] at hv;have Jh:j<E.length:=(AI.1 hv).1;have hrj:ref= -1-(j:Int):=by omega
 subst hrj;rcases Nat.lt_or_ge j e with h1|h1
 ·left;refine⟨n,e,by omega,by omega,hn,he,by omega,?_,?_⟩
  ·rw[zd,if_pos (QP.2 (by omega))]
  ·have hm:(E.take e)[j]? =AT v:=i3g hv h1;unfold ol v5 Wi;simp only;rw[if_pos (AP hm),UO (h9x hE e) hm]
 ·have kp:v∉E.take e:=h9b hE hv h1;have hlen:(E.take e).length=e:=by simp;omega
  by_cases h2:j=e
  ·left;subst h2;refine⟨n,j+1,by omega,by omega,hn,by omega,by omega,?_,?_⟩
   ·rw[zd,if_neg (fun h=>by have:=QP.1 h;omega),h9c]
   ·unfold ol v5 Wi;simp only;rw[if_neg kp,VT kp,hlen,h7r hv]
  ·right;constructor
   ·rintro⟨_,h3⟩;rw[zd,if_neg (fun h=>by have:=QP.1 h;omega)] at h3;have:=i1z h3;omega
   ·rintro⟨h3,_⟩;unfold ol v5 Wi at h3;simp only at h3;rw[if_neg kp] at h3;exact h2 (h9q hE hv he h3)
theorem h9o (hE:E.Nodup)(hN:N.Nodup)(mm: ∀b,b∈N-> ¬Vq b.kids)(j4: ∀i b,N[i]? =AT b-> ∀k,k∈b.kids->t9 E k i):
 ∀(f:Nat) (ref:Int) (n e:Nat),n<=N.length->e<=E.length->ref<f->t9 E ref N.length->i7l E N n e ref (n5 N f ref (Rd n,Rd e)) (Vt E N f ref (Wi E N n e))
 |0,ref,n,e,hn,he,hf,hr=>by
  have h0:ref<0:=by omega
  obtain⟨v,hv⟩: ∃v,E[(-1-ref).toNat]? =AT v:=⟨_,AN (hr.2 h0)⟩;rw[n5,Vt,if_pos h0,if_pos h0,hv];exact h9l hE hn he h0 hv
 |f+1,ref,n,e,hn,he,hf,hr=>by
  by_cases h0:ref<0
  ·obtain⟨v,hv⟩: ∃v,E[(-1-ref).toNat]? =AT v:=⟨_,AN (hr.2 h0)⟩;rw[n5,Vt,if_pos h0,if_pos h0,hv];exact h9l hE hn he h0 hv
  obtain⟨i,rfl⟩: ∃i:Nat,ref=i:=⟨ref.toNat,by omega⟩;have hi:i<N.length:=by have:=hr.1 (by omega);omega
  obtain⟨b,hb⟩: ∃b,N[i]? =AT b:=⟨_,AN hi⟩;rw[n5,Vt,if_neg h0,if_neg h0];simp only[AD,hb];by_cases aq:i<n
  ·left;refine⟨n,e,by omega,by omega,hn,he,by omega,?_,?_⟩
   ·rw[if_pos (QP.2 (by omega))]
   ·simp[Wi,aq]
  rw[if_neg (fun h=>by have:=QP.1 h;omega)];have hk:(Wi E N n e).kn i=AQ:=by simp[Wi,aq]
  rw[hk];simp only;have key: ∀(l:List Int),(∀k,k∈l->t9 E k i)-> ∀(n e:Nat) (ks:List Int),n<=i->e<=E.length->
   (∃n' e',n<=n'/\e<=e'/\n'<=i/\e'<=E.length/\l.foldl (fun s k=>n5 N f k s) (Rd n,Rd e)=(Rd n',Rd e')/\i9 E N f l (Wi E N n e,ks)=(Wi E N n' e',ks++l))\/
   YP E N (l.foldl (fun s k=>n5 N f k s) (Rd n,Rd e)) (i9 E N f l (Wi E N n e,ks)).1 N.length E.length:=by
   intro l
   induction l with
   |nil=>intro _ n e ks hn he;exact .inl ⟨n,e,by omega,by omega,hn,he,rfl,by simp[i9]⟩
   |cons k l ih=>
    intro hl n e ks hn he;have hk:=hl k (by simp);have km:k<f:=by
     rcases AO k 0 with h1|h1
     ·omega
     ·have:=hk.1 h1;omega
    have sj:t9 E k N.length:=⟨fun h1=>by have:=hk.1 h1;omega,hk.2⟩;rcases h9o hE hN mm j4 f k n e (by omega) he km sj with⟨n1,e1,a1,a2,a3,a4,a5,a6,a7⟩|Hf
    ·have ky:n1<=i:=by
      rcases AO k 0 with h1|h1
      ·omega
      ·have:=hk.1 h1;omega
     have:=ih (fun k hk=>hl k (by simp[hk])) n1 e1 (ks++[k]) ky a4;simp only[List.foldl_cons,a6];rw[show i9 E N f (k::l) (Wi E N n e,ks)=i9 E N f l (Wi E N n1 e1,ks++[k]) from by simp[i9,a7]];rcases this with⟨n2,e2,b1,b2,b3,b4,b5,b6⟩|Hf
     ·exact .inl ⟨n2,e2,by omega,by omega,b3,b4,b5,by rw[b6];simp⟩
     ·exact .inr Hf
    ·right;have h1: ∀(l:List Int) (s:List Int×List Int),s.1<+:(l.foldl (fun s k=>n5 N f k s) s).1/\s.2<+:(l.foldl (fun s k=>n5 N f k s) s).2:=by
      intro l
      induction l with
      |nil=>intro s;exact⟨AA _,AA _⟩
      |cons k l ih=>intro s;have h1:=h9g N f k s;have h2:=ih (n5 N f k s);exact⟨h1.1.trans h2.1,h1.2.trans h2.2⟩
     have h2:=h7p E N (i1e E N f) l ((Vt E N f k (Wi E N n e)).1,ks++[(Vt E N f k (Wi E N n e)).2]);exact Hf.mono E N (h1 l _).1 (h1 l _).2 h2.1 h2.2
  rcases key b.kids (j4 i b hb) n e [] (by omega) he with⟨n1,e1,a1,a2,a3,a4,a5,a6⟩|Hf
  ·have tc: ¬Vq b.kids:=mm b (AP hb);have kp:b∉N.take n1:=h9b hN hb a3;have hlen:(N.take n1).length=n1:=by simp;omega
   have e6:(b.kids.foldl (fun (p:Mk×List Int) k=>let q:=Vt E N f k p.1;(q.1,p.2++[q.2])) (Wi E N n e,[]))=(Wi E N n1 e1,b.kids):=by rw[<-i9,a6];simp
   rw[a5,e6];simp only[mkNode,if_neg tc];obtain⟨bv,bk⟩:=b;simp only[Vr,Wi,WN kp,VT kp,hlen];by_cases h2:i=n1
   ·left;subst h2;refine⟨i+1,e1,by omega,by omega,by omega,a4,by omega,?_,?_⟩
    ·rw[h9c]
    ·simp only[Wi];rw[h7r hb];congr 1;congr 1;funext j;by_cases e1:j=i
     ·subst e1;simp
     ·have:(j<i+1)=(j<i):=by simp;omega
      simp[e1,this]
   ·right;constructor
    ·rintro⟨h3,_⟩;have:=i1z h3;omega
    ·rintro⟨_,h3⟩;exact h2 (h9q hN hb (by omega) h3)
  ·right;have h2:=h6r (i9 E N f b.kids (Wi E N n e,[])).1 ⟨b.var,(i9 E N f b.kids (Wi E N n e,[])).2⟩;exact Hf.mono E N (AM _ _) (AA _) h2.1 h2.2
def u9 (s:Mk):Prop:=s.oe.Nodup/\s.on.Nodup/\ ∀b,b∈s.on-> ¬Vq b.kids
theorem h5i {α:Type}[DecidableEq α]{l:List α}(h:l.Nodup)(x:α):(v5 l x).Nodup:=by
 unfold v5;split
 ·exact h
 ·rename_i hx;rw[AU];exact⟨h,by simp,fun a ha b hb=>by simp at hb;subst hb;rintro rfl;exact hx ha⟩
theorem u9.ol {s:Mk}(h:u9 s)(v:g8):u9 (ol s v).1:=⟨h5i h.1 v,h.2⟩
theorem u9.mkNode {s:Mk}(h:u9 s)(b:Xs):u9 (mkNode s b).1:=by
 unfold Law.mkNode;split
 ·exact h
 ·rename_i hb;refine⟨h.1,h5i h.2.1 b,fun c hc=> ?_⟩;simp only[v5] at hc;split at hc
  ·exact h.2.2 c hc
  ·simp at hc;rcases hc with hc|rfl
   ·exact h.2.2 c hc
   ·exact hb
theorem u9.i9 {f:Nat}(hf: ∀ref s,u9 s->u9 (Vt E N f ref s).1): ∀(l:List Int) (p:Mk×List Int),u9 p.1->u9 (i9 E N f l p).1:=by
 intro l
 induction l with
 |nil=>intro p h;exact h
 |cons k l ih=>intro p h;exact ih _ (hf k p.1 h)
theorem u9.Vt: ∀(f:Nat) (ref:Int) (s:Mk),u9 s->u9 (Vt E N f ref s).1
 |0,ref,s,h=>by
  unfold Law.Vt
  (repeat' split)<;>first|exact h.ol _|exact h
 |f+1,ref,s,h=>by
  unfold Law.Vt
  (repeat' split)<;>first|exact h.ol _|exact h|skip
  rename_i b _;exact (u9.i9 (u9.Vt f) b.kids (s,[]) h).mkNode _
def Wm (E:List g8)(N:List Xs)(root:Int):Prop:=
 let r:=Vt E N (N.length+1) root ⟨[],[],fun _=>AQ⟩
 r.1.oe=E/\r.1.on=N/\r.2=root
def XL (E:List g8)(N:List Xs)(root:Int):Prop:=
 E.Nodup/\(∀b,b∈N-> ¬Vq b.kids)/\N.Nodup/\n5 N (N.length+1) root ([],[])=(Rd N.length,Rd E.length)
theorem Xu (j4: ∀i b,N[i]? =AT b-> ∀k,k∈b.kids->t9 E k i){root:Int}(Kh:t9 E root N.length):Wm E N root↔XL E N root:=by
 have main:E.Nodup->N.Nodup->(∀b,b∈N-> ¬Vq b.kids)->(Wm E N root↔n5 N (N.length+1) root ([],[])=(Rd N.length,Rd E.length)):=by
  intro hE hN mm;have hs:=h9o hE hN mm j4 (N.length+1) root 0 0 (by omega) (by omega) (by rcases AO root 0 with h|h;omega;have:=Kh.1 h;omega) Kh;have e0:Wi E N 0 0=⟨[],[],fun _=>AQ⟩:=by simp[Wi]
  rw[e0] at hs;have e1:(Rd 0,Rd 0)=(([],[]):List Int×List Int):=rfl;rw[e1] at hs;rcases hs with⟨n',e',_,_,h1,h2,_,h3,h4⟩|⟨h1,h2⟩
  ·unfold Wm;rw[h3,h4];simp only[Wi];constructor
   ·rintro⟨a1,a2,_⟩;have b1:e'=E.length:=by have:=congrArg AW a1;simp at this;omega
    have b2:n'=N.length:=by have:=congrArg AW a2;simp at this;omega
    rw[b1,b2]
   ·intro h;have b1:n'=N.length:=by have:=congrArg (fun p=>p.1.length) h;simpa [Rd,jt] using this
    have b2:e'=E.length:=by have:=congrArg (fun p=>p.2.length) h;simpa [Rd,jt] using this
    rw[b1,b2];simp
  ·constructor
   ·intro h;exact absurd ⟨by rw[h.1];exact AA _,by rw[h.2.1];exact AA _⟩ h2
   ·intro h;exact absurd (by rw[h];exact⟨AA _,AA _⟩) h1
 constructor
 ·intro h;have hg:u9 (Vt E N (N.length+1) root ⟨[],[],fun _=>AQ⟩).1:=u9.Vt _ _ _ ⟨by simp,by simp,by simp⟩;obtain⟨a1,a2,a3⟩:=hg;rw[h.1] at a1;rw[h.2.1] at a2 a3;exact⟨a1,a3,a2,(main a1 a2 a3).1 h⟩
 ·rintro⟨a1,a3,a2,h⟩;exact (main a1 a2 a3).2 h
end
end Law
theorem QR: ∀(m:Nat) (l:List Int),l.Nodup->(∀x,x∈l->0<=x/\x<m)->l.length<=m
 |0,l,_,h=>by
  cases l with
  |nil=>simp
  |cons x l=>have:=h x (by simp);omega
 |m+1,l,hn,h=>by
  by_cases hm:(m:Int)∈l
  ·have h1:=QR m (l.erase (m:Int)) (hn.erase _) fun x hx=>by have h2:=(hn.mem_erase_iff).1 hx;have h3:=h x h2.2;have h4:=h2.1;omega
   rw[List.length_erase_of_mem hm] at h1;omega
  ·have h1:=QR m l hn fun x hx=>by have h2:=h x hx;have h3:x≠m:=fun e=>hm (e▸hx);omega
   omega
namespace Law
def IO (nn ne:Nat)(s:List Int×List Int):Prop:=(s.1.Nodup/\ ∀x,x∈s.1->0<=x/\x<nn)/\s.2.Nodup/\ ∀x,x∈s.2->0<=x/\x<ne
theorem IO.len {nn ne:Nat}{s:List Int×List Int}(h:IO nn ne s):s.1.length<=nn/\s.2.length<=ne:=⟨QR _ _ h.1.1 h.1.2,QR _ _ h.2.1 h.2.2⟩
theorem IO.end {nn ne:Nat}{s:List Int×List Int}(h:IO nn ne s){x:Int}(hx:0<=x/\x<ne):IO nn ne (s.1,zd s.2 x):=by
 refine⟨h.1,?_⟩;simp only[zd];split
 ·exact h.2
 ·rename_i hm;refine⟨?_,fun y hy=> ?_⟩
  ·rw[AU];exact⟨h.2.1,by simp,fun a ha b hb=>by simp at hb;subst hb;rintro rfl;exact hm ha⟩
  ·simp at hy;rcases hy with hy|rfl
   ·exact h.2.2 y hy
   ·exact hx
theorem V9 {E:List g8}{N:List Xs}(j4: ∀i b,N[i]? =AT b-> ∀k,k∈b.kids->t9 E k i):
 ∀(f:Nat) (ref:Int) (s:List Int×List Int),t9 E ref N.length->IO N.length E.length s->
  IO N.length E.length (n5 N f ref s)/\ ∀x,x∈(n5 N f ref s).1->x∈s.1\/(0<=ref/\x<=ref)
 |0,ref,s,hr,hs=>by
  unfold n5;split
  ·rename_i h0;have:=hr.2 h0;exact⟨hs.end (by omega),fun x hx=> .inl hx⟩
  ·exact⟨hs,fun x hx=> .inl hx⟩
 |f+1,ref,s,hr,hs=>by
  unfold n5;split
  ·rename_i h0;have:=hr.2 h0;exact⟨hs.end (by omega),fun x hx=> .inl hx⟩
  ·rename_i h0;split
   ·exact⟨hs,fun x hx=> .inl hx⟩
   ·rename_i kp;split
    ·exact⟨hs,fun x hx=> .inl hx⟩
    ·rename_i b hb;have hi:=(AI.1 hb).1;have key: ∀(l:List Int),(∀k,k∈l->t9 E k ref.toNat)-> ∀(s:List Int×List Int),IO N.length E.length s->
      IO N.length E.length (l.foldl (fun s k=>n5 N f k s) s)/\ ∀x,x∈(l.foldl (fun s k=>n5 N f k s) s).1->x∈s.1\/x<ref:=by
      intro l
      induction l with
      |nil=>intro _ s hs;exact⟨hs,fun x hx=> .inl hx⟩
      |cons k l ih=>
       intro hl s hs;have hk:=hl k (by simp);have h1:=V9 j4 f k s ⟨fun h=>by have:=hk.1 h;omega,hk.2⟩ hs;have h2:=ih (fun k hk=>hl k (by simp[hk])) _ h1.1;refine⟨h2.1,fun x hx=> ?_⟩;rcases h2.2 x hx with h3|h3
       ·rcases h1.2 x h3 with h4|⟨h4,h5⟩
        ·exact .inl h4
        ·have:=hk.1 h4;exact .inr (by omega)
       ·exact .inr h3
     have hk:=key b.kids (j4 _ b hb) s hs;refine⟨⟨⟨?_,fun x hx=> ?_⟩,hk.1.2⟩,fun x hx=> ?_⟩
     ·rw[AU];refine⟨hk.1.1.1,by simp,fun a ha c hc=> ?_⟩;simp at hc;subst hc;rintro rfl;rcases hk.2 a ha with h3|h3
      ·exact kp h3
      ·omega
     ·simp at hx;rcases hx with hx|rfl
      ·exact hk.1.1.2 x hx
      ·omega
     ·simp at hx;rcases hx with hx|rfl
      ·rcases hk.2 x hx with h3|h3
       ·exact .inl h3
       ·exact .inr ⟨by omega,by omega⟩
      ·exact .inr ⟨by omega,by omega⟩
end Law
def g7.nd (d:g7)(i:Nat):Xs:=⟨d.var i,L (d.nk i) (d.dq i)⟩
def g7.E (d:g7):List g8:=L d.ne d.en
def g7.N (d:g7):List Xs:=L d.nn d.nd
def sv (ne:Nat)(ref below:Int):Prop:=(0<=ref->ref<below)/\(ref<0-> -1-ref<ne)
def Nv (d:g7):Prop:= ∀i,i<d.nn-> ∀j,j<d.nk i->sv d.ne (d.dq i j) i
theorem Mv {α:Type}{n:Nat}{g:Nat->α}{i:Nat}:(L n g)[i]? =if i<n then AT (g i) else AQ:=by
 unfold L;by_cases h:i<n
 ·simp[h]
 ·simp[h]
theorem Nv.loose {d:g7}(h:Nv d): ∀i b,(d.N)[i]? =AT b-> ∀k,k∈b.kids->Law.t9 d.E k i:=fun i b hb k hk=>by
 rw[g7.N,Mv] at hb;split at hb
 ·rename_i hi;cases hb;obtain⟨j,hj,rfl⟩:=yd.1 hk;have h1:=h i hi j hj;refine⟨h1.1,fun h0=> ?_⟩;have h2:=h1.2 h0;simp only[g7.E,jt];omega
 ·cases hb
theorem sv.ok {d:g7}{ref:Int}{n:Nat}(h:sv d.ne ref n):Law.t9 d.E ref n:=⟨h.1,fun h0=>by
 have:=h.2 h0;simp only[g7.E,jt];omega⟩
theorem sv.ZO {d:g7}{ref:Int}(h:sv d.ne ref d.nn):Law.t9 d.E ref d.N.length:=by rw[show d.N.length=d.nn from jt _ _];exact h.ok
theorem h9e {N:List Xs}{f:Nat}{ref:Int}(h:ref<0)(s:List Int×List Int):Law.n5 N f ref s=(s.1,zd s.2 (-1-ref)):=by cases f<;>rw[Law.n5,if_pos h]
theorem Ub: ∀l:Nat,l<2->l∈[0,1]
 |0,_=>by simp
 |1,_=>by simp
 |n+2,h=>by omega
def i5q (l:List Int×List Int)(pg:List Nat)(v:AV)(h':List ae):Prop:=
 pg=[0,1]/\ ∃n' gn' e' ge',l=(L n' gn',L e' ge')/\v= .tuple [.bi 0 1 AQ n' AL,.bi 1 1 AQ e' AL]/\h'=[g9 n' gn',g9 e' ge']
theorem i3x {n:Nat}{g:Nat->Int}{x:Int}:L (n+1) (fun j=>if j<n then g j else x)=L n g++[x]:=by
 rw[Mw];congr 1
 ·exact JH fun j hj=>if_pos hj
 ·simp
theorem h6q (d:g7)(ck:d.ne<=1000000)(ref:Int)(h0:ref<0)(hr: -1-ref<d.ne){n e:Nat}(gn ge:Nat->Int)(he:e<=1000000):
 ay AH 126 [d.av,int ref,.bi 0 1 AQ n AL,.bi 1 1 AQ e AL] [g9 n gn,g9 e ge] (i5q (L n gn,zd (L e ge) (-1-ref))):=by
 obtain⟨z,hz⟩: ∃z:Bool,z=AJ↔ ∃i,i<e/\ge i= -1-ref:=by classical exact⟨decide _,decide_eq_true_iff⟩
 have hh:=i3v he ge (-1-ref) z hz;have kv: -1000001<=ref:=by omega
 clear hr;obtain⟨ns,sz,no,od,ne,en,nn,var,nk,dq,root⟩:=d;simp only at ck;refine mh AC ci i6g rfl fun E Sg hb hS F hF=> ?_;simp only[Ae,Af] at hb;cbv;split
 rotate_left
 ·rename_i h;exfalso;subst hS;simp[AF] at h;omega
 cbv;refine ad hS (by subst hS;exact e7 (by simp[AF];omega) (by simp[AF];omega)) ?_;refine ad hS (by subst hS;simp[AF]) ?_;refine bf hS (bool z) (by subst hS;exact hh) ?_;cases z
 ·have kp: ¬(-1-ref)∈L e ge:=fun h=>AG (hz.2 (yd.1 h));cbv;refine ad hS (by subst hS;exact e7 (by simp[AF];omega) (by simp[AF];omega)) ?_;refine ad hS trivial ?_;refine ad hS (by subst hS;simp[AF];omega) ?_;refine⟨[0,1],fun l h1 _=>Ub l h1,hF (h1:=[g9 n gn,g9 (e+1) (fun j=>if j<e then ge j else-1-ref)]) (.cons (.refl _) (.cons (bx.g9 (by subst hS;rfl) fun j hj=> ?_) (.nil _))) (v0:= .tuple [.bi 0 1 AQ n AL,.bi 1 1 AQ (e+1) AL]) (by subst hS;exact AB _) (by simp) (.inl ⟨rfl,rfl⟩) ⟨rfl,n,gn,e+1,_,?_,rfl,rfl⟩⟩
  ·subst hS;simp only[AF] at hj⊢;split
   ·rfl
   ·have:j-e=0:=by omega
    rw[this];rfl
  ·rw[i3x,zd,if_neg kp]
 ·have kp:(-1-ref)∈L e ge:=yd.2 (hz.1 rfl);cbv;refine⟨[0,1],fun l h1 _=>Ub l h1,hF (h1:=[g9 n gn,g9 e ge]) (.cons (.refl _) (.cons (.refl _) (.nil _))) (AB _) (by simp) (.inl ⟨rfl,rfl⟩) ⟨rfl,n,gn,e,ge,?_,rfl,rfl⟩⟩;rw[zd,if_pos kp]
theorem i1g (d:g7)(wz:d.nn<=1000000)(ck:d.ne<=1000000)(hnk: ∀i,i<d.nn->d.nk i<=1000000)(PQ:Nv d): ∀(f:Nat) (ref:Int) (n e:Nat) (gn ge:Nat->Int),ref<f->sv d.ne ref d.nn->
 Law.IO d.nn d.ne (L n gn,L e ge)->ay AH 126 [d.av,int ref,.bi 0 1 AQ n AL,.bi 1 1 AQ e AL] [g9 n gn,g9 e ge] (i5q (Law.n5 d.N f ref (L n gn,L e ge))):=by
 intro f
 induction f with
 |zero=>
  intro ref n e gn ge hf hr hg;have h0:ref<0:=by omega
  have he:=hg.len.2;rw[jt] at he;rw[h9e h0];exact h6q d ck ref h0 (hr.2 h0) gn ge (by omega)
 |succ f ih=>
  intro ref n e gn ge hf hr hg;by_cases h0:ref<0
  ·have he:=hg.len.2;rw[jt] at he;rw[h9e h0];exact h6q d ck ref h0 (hr.2 h0) gn ge (by omega)
  obtain⟨i,rfl⟩: ∃i:Nat,ref=i:=⟨ref.toNat,by omega⟩;have hi:i<d.nn:=by have:=hr.1 (by omega);omega
  have hlen:=hg.len;rw[jt,jt] at hlen;obtain⟨z,hz⟩: ∃z:Bool,z=AJ↔ ∃j,j<n/\gn j=(i:Int):=by classical exact⟨decide _,decide_eq_true_iff⟩
  have hh:=i3v (n:=n) (by omega) gn i z hz;have si:=Law.V9 (E:=d.E) (N:=d.N) PQ.loose;have Lm:d.E.length=d.ne:=jt _ _;have J4:d.N.length=d.nn:=jt _ _;rw[Lm,J4] at si;have rp:=PQ i hi;have hnki:=hnk i hi;have hsr:Law.n5 d.N (f+1) i (L n gn,L e ge)=if (i:Int)∈L n gn then (L n gn,L e ge) else
   (((L (d.nk i) (d.dq i)).foldl (fun s k=>Law.n5 d.N f k s) (L n gn,L e ge)).1++[(i:Int)],((L (d.nk i) (d.dq i)).foldl (fun s k=>Law.n5 d.N f k s) (L n gn,L e ge)).2):=by
   rw[Law.n5,if_neg h0];have hb:d.N[(i:Int).toNat]? =AT (d.nd i):=by rw[AD,g7.N,Mv,if_pos hi]
   rw[hb];rfl
  rw[hsr];obtain⟨N,hN⟩: ∃N,N=d.N:=⟨_,rfl⟩;rw[<-hN] at ih si⊢;clear hsr hN Lm J4;have Kc: ∀j,j<d.nk i->d.dq i j<f/\sv d.ne (d.dq i j) d.nn:=fun j hj=>by
   have h1:=rp j hj;refine⟨?_,fun h2=> ?_,h1.2⟩
   ·rcases AO (d.dq i j) 0 with h2|h2
    ·omega
    ·have:=h1.1 h2;omega
   ·have:=h1.1 h2;omega
  have dp: ∀j,j<d.nk i->Law.t9 d.E (d.dq i j) d.nn:=fun j hj=>(Kc j hj).2.ok;have hnn':n+1<=2000000:=by omega
  obtain⟨ns,sz,no,od,ne,en,nn,var,nk,dq,root⟩:=d;simp only at hi hnki Kc dp ih si hg wz ck hlen;refine mh AC ci i6g rfl fun E Sg hb hS F hF=> ?_;simp only[Ae,Af] at hb;have e8: ∀z,Sg.toNat z=z.toNat:=by subst hS;exact fun _=>rfl
  cbv;split
  ·rename_i h;exfalso;subst hS;simp[AF] at h;omega
  cbv;refine ad hS (by subst hS;simp[AF]) ?_;refine bf hS (bool z) (by subst hS;exact hh) ?_;cases z
  rotate_left
  ·have kp:(i:Int)∈L n gn:=yd.2 (hz.1 rfl);cbv;refine⟨[0,1],fun l h1 _=>Ub l h1,hF (h1:=[g9 n gn,g9 e ge]) (.cons (.refl _) (.cons (.refl _) (.nil _))) (AB _) (by simp) (.inl ⟨rfl,rfl⟩) ⟨rfl,n,gn,e,ge,?_,rfl,rfl⟩⟩;rw[if_pos kp]
  have kp: ¬(i:Int)∈L n gn:=fun h=>AG (hz.2 (yd.1 h));cbv;refine ad hS (by subst hS;exact⟨Int.natCast_nonneg i,Aa.2 hi⟩) ?_;simp only[Ab,e8,AE,AD];refine gg AC ci hS (σ:=Nat×Nat×(Nat->Int)×Nat×(Nat->Int)) (fun s=>s.1<=nk i/\(L s.2.1 s.2.2.1,L s.2.2.2.1 s.2.2.2.2)=(L s.1 (dq i)).foldl (fun s k=>Law.n5 N f k s) (L n gn,L e ge)/\Law.IO nn ne (L s.2.1 s.2.2.1,L s.2.2.2.1 s.2.2.2.2)) (fun s=>nk i-s.1)
   (fun s=>⟨dn [(1,int i),(2,.bi 0 1 AQ s.2.1 AL),(3,.bi 1 1 AQ s.2.2.2.1 AL),(4,.ptr 2 0),(10,.ptr 3 0),(11,int s.1)] 60,[g9 s.2.1 s.2.2.1,g9 s.2.2.2.1 s.2.2.2.2,.var [ac ns sz,ac no od,d7 ne en,WD nn var nk dq,int root],.var [int (var i),ac (nk i) (dq i)]],[0,1]⟩) (0,n,gn,e,ge) ⟨by simp,rfl,hg⟩ ?_ ?_
  ·exact bq rfl ⟨AB _,AB _,AB _,AB _,AB _,bg rfl,trivial⟩ (.cons (.refl _) (.cons (.refl _) (.cons (.refl _) (.cons (.refl _) (.nil _))))) (by simp;omega) (.inr rfl) rfl
  ·rintro⟨k,n1,g1,e1,h1⟩ ⟨ij,cp,GG⟩ M hM;simp only at ij cp GG hM;cbv;split
   ·have hlt:k<nk i:=by subst hS;simp[AF] at*;omega
    have ke:=Kc k hlt;have PL:=(si f (dq i k) (L n1 g1,L e1 h1) (dp k hlt) GG).1;have ihk:=ih (dq i k) n1 e1 g1 h1 ke.1 ke.2 GG;cbv;refine ad hS (by subst hS;simp[AF];omega) ?_;simp only[Ab,e8,AE,AD];refine lj hS (ay.frame ihk [0,1] rfl rfl ⟨bx.refl _,bx.refl _,trivial⟩) ?_;rintro pg v H' ⟨pg0,v0,h0,⟨rfl,n2,g2,e2,h2,q1,rfl,rfl⟩,rfl,rfl,rfl⟩;rw[q1] at PL;cbv;refine ad hS (by subst hS;exact e7 (by simp[AF];omega) (by simp[AF];omega)) ?_;refine hM (k+1,n2,g2,e2,h2) _ ⟨by simp;omega,?_,PL⟩ (by simp;omega) (bq rfl ⟨AB _,AB _,AB _,AB _,AB _,br (by subst hS;simp[AF]),trivial⟩ (.cons (.refl _) (.cons (.refl _) (.cons (.refl _) (.cons (.refl _) (.nil _))))) (by simp;omega) (.inr rfl) rfl);rw[Mw,List.foldl_append,<-cp];exact q1.symm
   ·have sj:k=nk i:=by subst hS;simp[AF] at*;omega
    subst sj;have hl3:=GG.len;rw[jt,jt] at hl3;cbv;refine ad hS trivial ?_;refine ad hS (by subst hS;simp[AF];omega) ?_;refine⟨[0,1],fun l h1 _=>Ub l h1,hF (h1:=[g9 (n1+1) (fun j=>if j<n1 then g1 j else (i:Int)),g9 e1 h1]) (.cons (bx.g9 (by subst hS;rfl) fun j hj=> ?_) (.cons (.refl _) (.nil _))) (v0:= .tuple [.bi 0 1 AQ (n1+1) AL,.bi 1 1 AQ e1 AL]) (by subst hS;exact AB _) (by simp) (.inl ⟨rfl,rfl⟩) ⟨rfl,n1+1,_,e1,h1,?_,rfl,rfl⟩⟩
    ·subst hS;simp only[AF] at hj⊢;split
     ·rfl
     ·have:j-n1=0:=by omega
      rw[this];rfl
    ·rw[if_neg kp,<-cp,i3x]
def i7n (d:g7)(i:Nat):Prop:=((0<=d.var i/\d.var i<=(d.ns:Int)-1)/\(d.nk i:Int)=d.sz (d.var i).toNat)/\ ∀j,j<d.nk i->xz d (d.dq i j) i/\rv d i<rv d (d.dq i j)
def mw (d:g7):Prop:=(∀i,i<d.ne->gb (d.en i))/\(∀i,i<d.nn->i7n d i)/\xz d d.root d.nn
structure g7.fit (d:g7):Prop where
 ns:d.ns<=1000000
 no:d.no<=1000000
 ne:d.ne<=1000000
 nn:d.nn<=1000000
 nk: ∀i,i<d.nn->d.nk i<=1000000
 dq: ∀i,i<d.nn-> ∀j,j<d.nk i->rq (d.dq i j)
 root:rq d.root
theorem y6 {d:g7}{ref:Int}{n:Nat}(h:xz d ref n):sv d.ne ref n:=by
 unfold xz at h;refine⟨fun h0=> ?_,fun h0=> ?_⟩
 ·rw[if_pos h0] at h;exact h
 ·rw[if_neg (by omega)] at h;omega
theorem mw.kids {d:g7}(h:mw d):Nv d:=fun i hi j hj=>y6 ((h.2.1 i hi).2 j hj).1
theorem i3t {v:Int}{n:Nat}(h:0<=v/\v<=(n:Int)-1):0<=v/\v<(n:Int):=⟨h.1,by omega⟩
theorem i4d (od:Nat->Int)(v:Int): ∀k i,pos od v k i<=i+k
 |0,i=>by rw[pos];omega
 |k+1,i=>by
  rw[pos];split
  ·omega
  ·have:=i4d od v k (i+1);omega
theorem h9y (d:g7)(hf:d.fit)(r:Bool)(hr:r=AJ↔mw d):au AH AJ 125 [d.av] (bool r):=by
 obtain⟨f1,f2,f3,f4,f5,f6,f7⟩:=hf;have jk:=fun v r h=>i0j v r h;have Gc:=fun ref below hw r h=>i3k d ref below f3 hw r h;have uf:=fun ref h r e=>i4l d ref f2 h r e;simp only[mw,i7n] at hr;obtain⟨D,hD⟩: ∃D,D=d:=⟨_,rfl⟩;rw[<-hD] at Gc uf;have hDe: ∀ref below,xz D ref below=xz d ref below:=fun _ _=>by rw[hD]
 have hDr: ∀ref,rv D ref=rv d ref:=fun _=>by rw[hD]
 obtain⟨R,hR⟩: ∃R:Int->Int->Prop,R=fun ref below=>xz d ref below:=⟨_,rfl⟩;obtain⟨K,hK⟩: ∃K:Int->Nat,K=fun ref=>rv d ref:=⟨_,rfl⟩;have hrR: ∀ref below,xz d ref below=R ref below:=fun _ _=>by rw[hR]
 have hrK: ∀ref,rv d ref=K ref:=fun _=>by rw[hK]
 have hKb: ∀ref,K ref<=d.no:=fun ref=>by
  rw[hK];simp only[rv];split
  ·exact Nat.le_trans (i4d _ _ _ _) (by omega)
  ·exact Nat.le_refl _
 simp only[hDe,hDr,hrR,hrK] at Gc uf hr;have hRlt: ∀ref below,R ref below->0<=ref->ref<below:=fun ref below h h0=>by rw[hR] at h;simp only[xz,if_pos h0] at h;exact h
 clear hR hK hrR hrK hDe hDr;obtain⟨ns,sz,no,od,ne,en,nn,var,nk,dq,root⟩:=d;obtain⟨ef,jf,wy⟩: ∃ef jf,en=fun i=>g8.mk (ef i) (jf i):=⟨fun i=>(en i).fault,fun i=>(en i).n,rfl⟩;subst wy;simp only at f1 f2 f3 f4 f5 f6 f7 hr uf hKb;simp only[rq] at f6 f7 Gc;rw[hD] at Gc uf;clear hD;refine j6 (cr AC ci i6t _ rfl fun E Sg hb hS=> ?_);have e8: ∀z,Sg.toNat z=z.toNat:=by subst hS;exact fun _=>rfl
 cbv;refine gg AC ci hS (fun i=>i<=ne/\ ∀j,j<i->gb ⟨ef j,jf j⟩) (fun i=>ne-i)
  (fun i=>⟨dn [(1,.ptr 0 0),(3,int i)] 89,[.var [ac ns sz,ac no od,d7 ne (fun i=>⟨ef i,jf i⟩),WD nn var nk dq,int root]],[]⟩) 0 ⟨by omega,by omega⟩ ?_ ?_
 ·exact bq rfl ⟨AB _,bg rfl,trivial⟩ (.cons (.refl _) (.nil _)) (by simp;omega) (.inr rfl) rfl
 ·intro i hi N hN;obtain⟨z,hz⟩: ∃z:Bool,z=AJ↔gb ⟨ef i,jf i⟩:=by classical exact⟨decide _,decide_eq_true_iff⟩
  have hc:=jk ⟨ef i,jf i⟩ z hz;cbv;split
  ·have hlt:i<ne:=by subst hS;simp[AF] at*;omega
   cbv;refine ad hS (by subst hS;simp[AF];omega) ?_;simp only[Ab,e8,AE,AD];refine bf hS (bool z) (by subst hS;exact hc) ?_;cases z
   ·cbv;exact jq hr fun h=>AG (hz.2 (h.1 i hlt))
   ·cbv;refine ad hS (by subst hS;exact e7 (by simp[AF];omega) (by simp[AF];omega)) ?_;refine hN (i+1) _ ⟨by omega,fun j hj=> ?_⟩ (by omega) (bq rfl ⟨AB _,br (by subst hS;simp[AF]),trivial⟩ (.cons (.refl _) (.nil _)) (by simp;omega) (.inr rfl) rfl);by_cases e:j=i
    ·subst e;exact hz.1 rfl
    ·exact hi.2 j (by omega)
  ·have hE: ∀j,j<ne->gb ⟨ef j,jf j⟩:=by subst hS;simp[AF] at*;exact fun j hj=>hi.2 j (by omega)
   clear hi hc hz;cbv;refine gg AC ci hS (fun i=>i<=nn/\ ∀i',i'<i->((0<=var i'/\var i'<=(ns:Int)-1)/\(nk i':Int)=sz (var i').toNat)/\ ∀j,j<nk i'->R (dq i' j) i'/\K i'<K (dq i' j)) (fun i=>nn-i)
    (fun i=>⟨dn [(1,.ptr 0 0),(4,int i)] 89,[.var [ac ns sz,ac no od,d7 ne (fun i=>⟨ef i,jf i⟩),WD nn var nk dq,int root]],[]⟩) 0 ⟨by omega,by omega⟩ ?_ ?_
   ·exact bq rfl ⟨AB _,bg rfl,trivial⟩ (.cons (.refl _) (.nil _)) (by simp;omega) (.inr rfl) rfl
   ·intro i hi N2 yu;obtain⟨z,hz⟩: ∃z:Bool,z=AJ↔0<=var i/\var i<=(ns:Int)-1:=by classical exact⟨decide _,decide_eq_true_iff⟩
    have aq:=QC (var i) 0 ((ns:Int)-1) z hz;cbv;split
    ·have hlt:i<nn:=by subst hS;simp[AF] at*;omega
     cbv;refine ad hS (by subst hS;simp[AF];omega) ?_;simp only[Ab,e8,AE,AD];refine ad hS (by subst hS;exact e7 (by simp[AF];omega) (by simp[AF];omega)) ?_;refine bf hS (bool z) (by subst hS;exact aq) ?_;cases z
     ·cbv;exact jq hr fun h=>AG (hz.2 (h.2.1 i hlt).1.1)
     ·have hv:=hz.1 rfl;cbv;refine ad hS (by subst hS;exact i3t hv) ?_;simp only[Ab,e8,AE,AD];split
      ·have ck:(nk i:Int)≠sz (var i).toNat:=by subst hS;simp[AF] at*;assumption
       cbv;exact jq hr fun h=>ck (h.2.1 i hlt).1.2
      ·have heq:(nk i:Int)=sz (var i).toNat:=by subst hS;simp[AF] at*;assumption
       have p0:=f5 i hlt;cbv;refine gg AC ci hS (fun k=>k<=nk i/\ ∀j,j<k->R (dq i j) i/\K i<K (dq i j)) (fun k=>nk i-k)
        (fun k=>⟨dn [(1,.ptr 0 0),(4,int i),(5,.ptr 1 0),(6,int k)] 89,[.var [ac ns sz,ac no od,d7 ne (fun i=>⟨ef i,jf i⟩),WD nn var nk dq,int root],.var [int (var i),ac (nk i) (dq i)]],[]⟩) 0 ⟨by omega,by omega⟩ ?_ ?_
       ·exact bq rfl ⟨AB _,AB _,AB _,bg rfl,trivial⟩ (.cons (.refl _) (.cons (.refl _) (.nil _))) (by simp;omega) (.inr rfl) rfl
       ·intro k hk N3 Sw;obtain⟨z2,eb⟩: ∃z:Bool,z=AJ↔R (dq i k) i:=by classical exact⟨decide _,decide_eq_true_iff⟩
        cbv;split
        ·have ny:k<nk i:=by subst hS;simp[AF] at*;omega
         have Qc:=Gc (dq i k) i (f6 i hlt k ny) z2 eb;cbv;refine ad hS (by subst hS;simp[AF];omega) ?_;simp only[Ab,e8,AE,AD];refine bf hS (bool z2) (by subst hS;exact Qc) ?_;cases z2
         ·cbv;exact jq hr fun h=>AG (eb.2 ((h.2.1 i hlt).2 k ny).1)
         ·have hRk:=eb.1 rfl;have ij:=uf (dq i k) (fun h0=>Int.lt_trans (hRlt _ _ hRk h0) (Aa.2 hlt)) _ rfl;have cp:=uf i (fun h0=>Aa.2 hlt) _ rfl;cbv;refine ad hS (by subst hS;simp[AF];omega) ?_;simp only[Ab,e8,AE,AD];refine bf hS _ ij ?_;cbv;refine ad hS (by subst hS;simp[AF]) ?_;refine bf hS _ cp ?_;cbv;split
          ·have hle:K (dq i k)<=K i:=by subst hS;simp[AF] at*;omega
           cbv;exact jq hr fun h=>by have:=((h.2.1 i hlt).2 k ny).2;omega
          ·have hle:K i<K (dq i k):=by subst hS;simp[AF] at*;omega
           cbv;refine ad hS (by subst hS;exact e7 (by simp[AF];omega) (by simp[AF];omega)) ?_;refine Sw (k+1) _ ⟨by omega,fun j hj=> ?_⟩ (by omega) (bq rfl ⟨AB _,AB _,AB _,br (by subst hS;simp[AF]),trivial⟩ (.cons (.refl _) (.cons (.refl _) (.nil _))) (by simp;omega) (.inr rfl) rfl);by_cases e:j=k
           ·subst e;exact⟨hRk,hle⟩
           ·exact hk.2 j (by omega)
        ·have sj: ∀j,j<nk i->R (dq i j) i/\K i<K (dq i j):=by subst hS;simp[AF] at*;exact fun j hj=>hk.2 j (by omega)
         cbv;refine ad hS (by subst hS;exact e7 (by simp[AF];omega) (by simp[AF];omega)) ?_;refine yu (i+1) _ ⟨by omega,fun j hj=> ?_⟩ (by omega) (bq rfl ⟨AB _,br (by subst hS;simp[AF]),trivial⟩ (.cons (.refl _) (.nil _)) (by simp;omega) (.inl ⟨rfl,rfl⟩) rfl);by_cases e:j=i
         ·subst e;exact⟨⟨hv,heq⟩,sj⟩
         ·exact hi.2 j (by omega)
    ·have cd: ∀i',i'<nn->((0<=var i'/\var i'<=(ns:Int)-1)/\(nk i':Int)=sz (var i').toNat)/\ ∀j,j<nk i'->R (dq i' j) i'/\K i'<K (dq i' j):=by
      have:nn<=i:=by subst hS;simp[AF] at*;omega
      exact fun j hj=>hi.2 j (by omega)
     obtain⟨z2,eb⟩: ∃z:Bool,z=AJ↔R root nn:=by classical exact⟨decide _,decide_eq_true_iff⟩
     have Qc:=Gc root nn f7 z2 eb;cbv;refine bf hS (bool z2) (by subst hS;exact Qc) ?_;cbv;refine ga ?_;cases r
     ·cases z2
      ·rfl
      ·exact absurd (hr.2 ⟨hE,cd,eb.1 rfl⟩) (by simp)
     ·exact eb.2 (hr.1 rfl).2.2
theorem h7o (n m:Nat)(g h:Nat->Int)(hn:n<=1000000)(r:Bool)(hr:r=AJ↔L n g=L m h):au AH AJ 33 [ac n g,ac m h] (bool r):=by
 have h1:=i5f n m g h hn;have:decide (n=m/\ ∀i,i<n->g i=h i)=r:=by
  have e:(n=m/\ ∀i,i<n->g i=h i)↔L n g=L m h:=by
   constructor
   ·rintro⟨rfl,hh⟩;exact JH hh
   ·intro e;have el:n=m:=by simpa [jt] using congrArg AW e
    refine⟨el,fun j hj=> ?_⟩;have:=congrArg (fun l=>l[j]?) e;simpa [L,hj,show j<m by omega] using this
  cases r
  ·exact decide_eq_false fun hh=>AG (hr.2 (e.1 hh))
  ·exact decide_eq_true (e.2 (hr.1 rfl))
 rw[this] at h1;exact j6 h1
def Io (d:g7):Prop:=(∀i,i<d.ne-> ∀k,k<i->d.en k≠d.en i)/\
 (∀i,i<d.nn-> ¬(∀j,j<d.nk i->d.dq i j=d.dq i 0)/\ ∀k,k<i-> ¬(d.var k=d.var i/\L (d.nk k) (d.dq k)=L (d.nk i) (d.dq i)))/\
 Law.n5 d.N (d.nn+1) d.root ([],[])=(Law.Rd d.nn,Law.Rd d.ne)
theorem NC {α:Type}{n:Nat}{g:Nat->α}:(L n g).Nodup↔ ∀i,i<n-> ∀k,k<i->g k≠g i:=by
 unfold List.Nodup;rw[AK];simp only[jt];constructor
 ·intro h i hi k hk;have:=h k i (by omega) hi hk;simpa [L] using this
 ·intro h k i hk hi rp;have:=h i hi k rp;simpa [L] using this
theorem Vi {n:Nat}(hn:1<=n){g:Nat->Int}:Law.Vq (L n g)↔ ∀j,j<n->g j=g 0:=by
 obtain⟨m,rfl⟩: ∃m,n=m+1:=⟨n-1,by omega⟩;have h0:(L (m+1) g).headD 0=g 0:=by simp[L,List.range_succ_eq_map]
 unfold Law.Vq;rw[h0];constructor
 ·intro h j hj;exact h _ (yd.2 ⟨j,hj,rfl⟩)
 ·rintro h k hk;obtain⟨j,hj,rfl⟩:=yd.1 hk;exact h j hj
theorem i0k {d:g7}(hk: ∀i,i<d.nn->1<=d.nk i):Law.XL d.E d.N d.root↔Io d:=by
 have Lm:d.E.length=d.ne:=jt _ _;have J4:d.N.length=d.nn:=jt _ _;unfold Law.XL Io;rw[Lm,J4];have h1:d.E.Nodup↔ ∀i,i<d.ne-> ∀k,k<i->d.en k≠d.en i:=NC;have h2:d.N.Nodup↔ ∀i,i<d.nn-> ∀k,k<i-> ¬(d.var k=d.var i/\L (d.nk k) (d.dq k)=L (d.nk i) (d.dq i)):=by
  rw[g7.N,NC];constructor
  ·intro h i hi k rp e;exact h i hi k rp (by simp only[g7.nd];rw[e.1,e.2])
  ·intro h i hi k rp e;simp only[g7.nd] at e;injection e with e1 e2
   exact h i hi k rp ⟨e1,e2⟩
 have h3:(∀b,b∈d.N-> ¬Law.Vq b.kids)↔ ∀i,i<d.nn-> ¬(∀j,j<d.nk i->d.dq i j=d.dq i 0):=by
  constructor
  ·intro h i hi e;exact h (d.nd i) (yd.2 ⟨i,hi,rfl⟩) ((Vi (hk i hi)).2 e)
  ·intro h b hb;obtain⟨i,hi,rfl⟩:=yd.1 hb;exact fun e=>h i hi ((Vi (hk i hi)).1 e)
 rw[h1,h2,h3];constructor
 ·rintro⟨a,b,c,e⟩;exact⟨a,fun i hi=>⟨b i hi,c i hi⟩,e⟩
 ·rintro⟨a,b,e⟩;exact⟨a,fun i hi=>(b i hi).1,fun i hi=>(b i hi).2,e⟩
theorem i0d {n m:Nat}{g:Nat->Int}:((∀i,i<n->g i=i)/\(n:Int)=m)↔L n g=Law.Rd m:=by
 constructor
 ·rintro⟨h,e⟩;have:n=m:=by omega
  subst this;exact JH h
 ·intro e;have el:n=m:=by simpa [jt,Law.Rd] using congrArg AW e
  subst el;refine⟨fun i hi=> ?_,rfl⟩;have:=congrArg (fun l=>l[i]?) e;simpa [L,Law.Rd,hi] using this
theorem g8.eq_iff {f n f' n':Int}:(g8.mk f n=g8.mk f' n')↔f=f'/\n=n':=by
 constructor
 ·intro h;injection h with a b;exact⟨a,b⟩
 ·rintro⟨rfl,rfl⟩;rfl
theorem h8u (d:g7)(hf:d.fit)(PQ:Nv d)(wa:sv d.ne d.root d.nn)(ij: ∀i,i<d.nn->1<=d.nk i)(r:Bool)(hr:r=AJ↔Io d):au AH AJ 91 [d.av] (bool r):=by
 obtain⟨f1,f2,f3,f4,f5,f6,f7⟩:=hf;have Kk:=i1g d f4 f3 f5 PQ (d.nn+1) d.root 0 0 (fun _=>0) (fun _=>0) (by
  rcases AO d.root 0 with h|h
  ·omega
  ·have:=wa.1 h;omega) wa (by simp[Law.IO,L])
 have Hi:=(Law.V9 PQ.loose (d.nn+1) d.root ([],[]) wa.ZO (by simp[Law.IO])).1;simp only[Io] at hr;obtain⟨s,hs⟩: ∃s,s=Law.n5 d.N (d.nn+1) d.root ([],[]):=⟨_,rfl⟩;rw[show (L 0 fun _=>(0:Int))=[] from rfl,<-hs] at Kk;rw[<-hs] at hr Hi;have hlen:=Hi.len;rw[show d.N.length=d.nn from jt _ _,show d.E.length=d.ne from jt _ _] at hlen;clear hs Hi;obtain⟨ns,sz,no,od,ne,en,nn,var,nk,dq,root⟩:=d;obtain⟨ef,jf,wy⟩: ∃ef jf,en=fun i=>g8.mk (ef i) (jf i):=⟨fun i=>(en i).fault,fun i=>(en i).n,rfl⟩;subst wy;simp only at f1 f2 f3 f4 f5 f6 f7 hr ij hlen;simp only[g8.eq_iff,ne_eq] at hr;refine j6 (cr AC ci i9t _ rfl fun E Sg hb hS=> ?_);have e8: ∀z,Sg.toNat z=z.toNat:=by subst hS;exact fun _=>rfl
 cbv;refine gg AC ci hS (fun i=>i<=ne/\ ∀j,j<i-> ∀k,k<j-> ¬(ef k=ef j/\jf k=jf j)) (fun i=>ne-i)
  (fun i=>⟨dn [(1,.ptr 0 0),(3,int i)] 97,[.var [ac ns sz,ac no od,d7 ne (fun i=>⟨ef i,jf i⟩),WD nn var nk dq,int root]],[]⟩) 0 ⟨by omega,by omega⟩ ?_ ?_
 ·exact bq rfl ⟨AB _,bg rfl,trivial⟩ (.cons (.refl _) (.nil _)) (by simp;omega) (.inr rfl) rfl
 ·intro i hi N hN;cbv;split
  ·have hlt:i<ne:=by subst hS;simp[AF] at*;omega
   cbv;refine gg AC ci hS (fun k=>k<=i/\ ∀j,j<k-> ¬(ef j=ef i/\jf j=jf i)) (fun k=>i-k)
    (fun k=>⟨dn [(1,.ptr 0 0),(3,int i),(4,int k)] 97,[.var [ac ns sz,ac no od,d7 ne (fun i=>⟨ef i,jf i⟩),WD nn var nk dq,int root]],[]⟩) 0 ⟨by omega,by omega⟩ ?_ ?_
   ·exact bq rfl ⟨AB _,AB _,bg rfl,trivial⟩ (.cons (.refl _) (.nil _)) (by simp;omega) (.inr rfl) rfl
   ·intro k hk N2 yu;cbv;split
    ·have ny:k<i:=by subst hS;simp[AF] at*;omega
     cbv;refine ad hS (by subst hS;simp[AF];omega) ?_;refine ad hS (by subst hS;simp[AF];omega) ?_;simp only[Ab,e8,AE,AD];split
     ·have he:ef k=ef i/\jf k=jf i:=by subst hS;simp[AF] at*;assumption
      cbv;exact jq hr fun h=>h.1 i hlt k ny he
     ·have he: ¬(ef k=ef i/\jf k=jf i):=by subst hS;simp[AF] at*;assumption
      cbv;refine ad hS (by subst hS;exact e7 (by simp[AF];omega) (by simp[AF];omega)) ?_;refine yu (k+1) _ ⟨by omega,fun j hj=> ?_⟩ (by omega) (bq rfl ⟨AB _,AB _,br (by subst hS;simp[AF]),trivial⟩ (.cons (.refl _) (.nil _)) (by simp;omega) (.inr rfl) rfl);by_cases e:j=k
      ·subst e;exact he
      ·exact hk.2 j (by omega)
    ·have rp: ∀j,j<i-> ¬(ef j=ef i/\jf j=jf i):=by
      have:i<=k:=by subst hS;simp[AF] at*;omega
      exact fun j hj=>hk.2 j (by omega)
     cbv;refine ad hS (by subst hS;exact e7 (by simp[AF];omega) (by simp[AF];omega)) ?_;refine hN (i+1) _ ⟨by omega,fun j hj=> ?_⟩ (by omega) (bq rfl ⟨AB _,br (by subst hS;simp[AF]),trivial⟩ (.cons (.refl _) (.nil _)) (by simp;omega) (.inr rfl) rfl);by_cases e:j=i
     ·subst e;exact rp
     ·exact hi.2 j (by omega)
  ·have hE: ∀j,j<ne-> ∀k,k<j-> ¬(ef k=ef j/\jf k=jf j):=by
    have:ne<=i:=by subst hS;simp[AF] at*;omega
    exact fun j hj=>hi.2 j (by omega)
   clear hi;cbv;refine gg AC ci hS (fun i=>i<=nn/\ ∀i',i'<i-> ¬(∀j,j<nk i'->dq i' j=dq i' 0)/\ ∀k,k<i'-> ¬(var k=var i'/\L (nk k) (dq k)=L (nk i') (dq i'))) (fun i=>nn-i)
    (fun i=>⟨dn [(1,.ptr 0 0),(5,int i)] 97,[.var [ac ns sz,ac no od,d7 ne (fun i=>⟨ef i,jf i⟩),WD nn var nk dq,int root]],[]⟩) 0 ⟨by omega,by omega⟩ ?_ ?_
   ·exact bq rfl ⟨AB _,bg rfl,trivial⟩ (.cons (.refl _) (.nil _)) (by simp;omega) (.inr rfl) rfl
   ·intro i hi N2 yu;obtain⟨z,hz⟩: ∃z:Bool,z=AJ↔ ∀j,j<nk i->dq i j=dq i 0:=by classical exact⟨decide _,decide_eq_true_iff⟩
    cbv;split
    ·have hlt:i<nn:=by subst hS;simp[AF] at*;omega
     have tc:=i5i (var i) (f5 i hlt) (dq i) z hz;cbv;refine ad hS (by subst hS;simp[AF];omega) ?_;simp only[Ab,e8,AE,AD];refine bf hS (bool z) (by subst hS;exact tc) ?_;cases z
     rotate_left
     ·cbv;exact jq hr fun h=>(h.2.1 i hlt).1 (hz.1 rfl)
     have hnf: ¬ ∀j,j<nk i->dq i j=dq i 0:=fun h=>AG (hz.2 h);cbv;refine gg AC ci hS (fun k=>k<=i/\ ∀j,j<k-> ¬(var j=var i/\L (nk j) (dq j)=L (nk i) (dq i))) (fun k=>i-k)
      (fun k=>⟨dn [(1,.ptr 0 0),(5,int i),(6,int k)] 97,[.var [ac ns sz,ac no od,d7 ne (fun i=>⟨ef i,jf i⟩),WD nn var nk dq,int root]],[]⟩) 0 ⟨by omega,by omega⟩ ?_ ?_
     ·exact bq rfl ⟨AB _,AB _,bg rfl,trivial⟩ (.cons (.refl _) (.nil _)) (by simp;omega) (.inr rfl) rfl
     ·intro k hk N3 Sw;obtain⟨z2,eb⟩: ∃z:Bool,z=AJ↔L (nk k) (dq k)=L (nk i) (dq i):=by classical exact⟨decide _,decide_eq_true_iff⟩
      cbv;split
      ·have ny:k<i:=by subst hS;simp[AF] at*;omega
       have Ql:=h7o (nk k) (nk i) (dq k) (dq i) (f5 k (by omega)) z2 eb;cbv;refine ad hS (by subst hS;simp[AF];omega) ?_;refine ad hS (by subst hS;simp[AF];omega) ?_;simp only[Ab,e8,AE,AD];split
       ·have hv:var k=var i:=by subst hS;simp[AF] at*;assumption
        cbv;refine ad hS (by subst hS;simp[AF];omega) ?_;refine ad hS (by subst hS;simp[AF];omega) ?_;simp only[Ab,e8,AE,AD];refine bf hS (bool z2) (by subst hS;exact Ql) ?_;cases z2
        rotate_left
        ·cbv;exact jq hr fun h=>(h.2.1 i hlt).2 k ny ⟨hv,eb.1 rfl⟩
        have nu: ¬L (nk k) (dq k)=L (nk i) (dq i):=fun h=>AG (eb.2 h);cbv;refine ad hS (by subst hS;exact e7 (by simp[AF];omega) (by simp[AF];omega)) ?_;refine Sw (k+1) _ ⟨by omega,fun j hj=> ?_⟩ (by omega) (bq rfl ⟨AB _,AB _,br (by subst hS;simp[AF]),trivial⟩ (.cons (.refl _) (.nil _)) (by simp;omega) (.inr rfl) rfl);by_cases e:j=k
        ·subst e;exact fun h=>nu h.2
        ·exact hk.2 j (by omega)
       ·have hv:var k≠var i:=by subst hS;simp[AF] at*;assumption
        cbv;refine ad hS (by subst hS;exact e7 (by simp[AF];omega) (by simp[AF];omega)) ?_;refine Sw (k+1) _ ⟨by omega,fun j hj=> ?_⟩ (by omega) (bq rfl ⟨AB _,AB _,br (by subst hS;simp[AF]),trivial⟩ (.cons (.refl _) (.nil _)) (by simp;omega) (.inr rfl) rfl);by_cases e:j=k
        ·subst e;exact fun h=>hv h.1
        ·exact hk.2 j (by omega)
      ·have rp: ∀j,j<i-> ¬(var j=var i/\L (nk j) (dq j)=L (nk i) (dq i)):=by
        have:i<=k:=by subst hS;simp[AF] at*;omega
        exact fun j hj=>hk.2 j (by omega)
       cbv;refine ad hS (by subst hS;exact e7 (by simp[AF];omega) (by simp[AF];omega)) ?_;refine yu (i+1) _ ⟨by omega,fun j hj=> ?_⟩ (by omega) (bq rfl ⟨AB _,br (by subst hS;simp[AF]),trivial⟩ (.cons (.refl _) (.nil _)) (by simp;omega) (.inr rfl) rfl);by_cases e:j=i
       ·subst e;exact⟨hnf,rp⟩
       ·exact hi.2 j (by omega)
    ·have hN: ∀i',i'<nn-> ¬(∀j,j<nk i'->dq i' j=dq i' 0)/\ ∀k,k<i'-> ¬(var k=var i'/\L (nk k) (dq k)=L (nk i') (dq i')):=by
      have:nn<=i:=by subst hS;simp[AF] at*;omega
      exact fun j hj=>hi.2 j (by omega)
     cbv;refine lj hS (ay.nil (args':=[g7.av ⟨ns,sz,no,od,ne,fun i=>⟨ef i,jf i⟩,nn,var,nk,dq,root⟩,int root,.bi 1 1 AQ 0 AL,.d .nil]) 1 (fun _=>[.int .i64 (.v 0)]) (ay.nil (args':=[g7.av ⟨ns,sz,no,od,ne,fun i=>⟨ef i,jf i⟩,nn,var,nk,dq,root⟩,int root,.bi 1 1 AQ 0 AL,.bi 2 1 AQ 0 AL]) 1 (fun _=>[.int .i64 (.v 0)]) (ay.frame Kk [1,2] rfl rfl ⟨bx.refl _,bx.refl _,trivial⟩) ⟨.inl rfl,.inl rfl,.inl rfl,.inr ⟨rfl,rfl⟩,trivial⟩) ⟨.inl rfl,.inl rfl,.inr ⟨rfl,rfl⟩,.inl rfl,trivial⟩) ?_;rintro pg v H' ⟨pg0,v0,h0,⟨rfl,n',g',e',h',q1,rfl,rfl⟩,rfl,rfl,rfl⟩;rw[q1,jt,jt] at hlen;rw[q1] at hr;obtain⟨z,hz⟩: ∃z:Bool,z=AJ↔(∀i,i<n'->g' i=i)/\(n':Int)=nn:=by classical exact⟨decide _,decide_eq_true_iff⟩
     obtain⟨z2,eb⟩: ∃z:Bool,z=AJ↔(∀i,i<e'->h' i=i)/\(e':Int)=ne:=by classical exact⟨decide _,decide_eq_true_iff⟩
     have Qd:=h8b (n:=n') (by omega) g' nn z hz;have hri2:=h8b (n:=e') (by omega) h' ne z2 eb;rw[i0d] at hz eb;cbv;refine ad hS (by subst hS;simp[AF]) ?_;refine bf hS (bool z) (by subst hS;exact Qd) ?_;cases z
     ·cbv;refine jq hr fun h=> ?_;have h2:L n' g'=Law.Rd nn:=congrArg Prod.fst h.2.2;exact AG (hz.2 h2)
     ·cbv;refine ad hS (by subst hS;simp[AF]) ?_;refine bf hS (bool z2) (by subst hS;exact hri2) ?_;cbv;refine ga ?_;cases z2
      ·cases r
       ·rfl
       ·have h2:L e' h'=Law.Rd ne:=congrArg Prod.snd (hr.1 rfl).2.2;exact AG (eb.2 h2)
      ·cases r
       ·exact absurd (hr.2 ⟨hE,hN,by rw[hz.1 rfl,eb.1 rfl]⟩) (by simp)
       ·rfl
open Classical in
noncomputable def Gi (d:g7):Int:=
 if pr d.ns d.no d.sz d.od≠0 then pr d.ns d.no d.sz d.od else if 6000<d.nn then 5 else if mw d then 0 else 4
open Classical in
noncomputable def s8 (d:g7):Int:=if Gi d≠0 then Gi d else if Io d then 0 else 4
theorem h5v (d:g7)(hf:d.fit)(r:Int)(hr:Gi d=r):au AH AJ 90 [d.av] (int r):=by
 obtain⟨e,he⟩:=xA (pr d.ns d.no d.sz d.od);have h1:=U2 hf.ns hf.no d.sz d.od e he;obtain⟨z,hz⟩: ∃z:Bool,z=AJ↔mw d:=by classical exact⟨decide _,decide_eq_true_iff⟩
 have h2:=h9y d hf z hz;unfold Gi at hr;rw[he] at hr;have wz:d.nn<=1000000:=hf.nn;clear hf he;have r1:e≠0->e=r:=fun h=>by rw[<-hr,if_pos h]
 have r2:e=0->6000<d.nn->5=r:=fun h g=>by rw[<-hr,if_neg (fun k=>k h),if_pos g]
 have r3:e=0-> ¬6000<d.nn->z=AJ->0=r:=fun h g k=>by rw[<-hr,if_neg (fun k=>k h),if_neg g,if_pos (hz.1 k)]
 have r4:e=0-> ¬6000<d.nn->z=AL->4=r:=fun h g k=>by rw[<-hr,if_neg (fun k=>k h),if_neg g,if_neg (fun l=>by rw[hz.2 l] at k;cases k)]
 clear hr hz;obtain⟨ns,sz,no,od,ne,en,nn,var,nk,dq,root⟩:=d;simp only at h1 h2 r2 r3 r4 wz;refine su (cr AC ci i8v _ rfl fun E Sg hb hS=> ?_);cbv;refine bf hS _ h1 ?_;cbv;split
 ·have:e≠0:=by subst hS;simp[AF] at*;assumption
  cbv;exact br (r1 this)
 have h0:e=0:=by subst hS;simp[AF] at*;assumption
 cbv;split
 ·have:6000<nn:=by subst hS;simp[AF] at*;omega
  cbv;exact bg (r2 h0 this)
 have h6: ¬6000<nn:=by subst hS;simp[AF] at*;omega
 cbv;refine bf hS (bool z) (by subst hS;exact h2) ?_;cases z
 ·cbv;exact bg (r4 h0 h6 rfl)
 ·cbv;exact bg (r3 h0 h6 rfl)
theorem Tj {d:g7}(h:Gi d=0):pr d.ns d.no d.sz d.od=0/\d.nn<=6000/\mw d:=by
 unfold Gi at h;split at h
 ·rename_i a;exact absurd h a
 ·split at h
  ·cases h
  ·split at h
   ·rename_i a b c;exact⟨AR.1 a,by omega,c⟩
   ·cases h
theorem mw.Yx {d:g7}(h:mw d)(hf:pr d.ns d.no d.sz d.od=0): ∀i,i<d.nn->1<=d.nk i/\d.nk i<=12:=fun i hi=>by obtain⟨⟨⟨a,b⟩,c⟩,_⟩:=h.2.1 i hi;have:=(IU hf).2.1 (d.var i).toNat (by omega);omega
theorem i5e (d:g7)(hf:d.fit)(r:Int)(hr:s8 d=r):au AH AJ 51 [d.av] (int r):=by
 obtain⟨e,he⟩:=xA (Gi d);have h1:=h5v d hf e he;obtain⟨z,hz⟩: ∃z:Bool,z=AJ↔Io d:=by classical exact⟨decide _,decide_eq_true_iff⟩
 have h2:e=0->au AH AJ 91 [d.av] (bool z):=fun h=>by obtain⟨a,b,c⟩:=Tj (he.trans h);exact h8u d hf c.kids (y6 c.2.2) (fun i hi=>(c.Yx a i hi).1) z hz
 unfold s8 at hr;rw[he] at hr;clear hf he;have r1:e≠0->e=r:=fun h=>by rw[<-hr,if_pos h]
 have r3:e=0->z=AJ->0=r:=fun h k=>by rw[<-hr,if_neg (fun k=>k h),if_pos (hz.1 k)]
 have r4:e=0->z=AL->4=r:=fun h k=>by rw[<-hr,if_neg (fun k=>k h),if_neg (fun l=>by rw[hz.2 l] at k;cases k)]
 clear hr hz;obtain⟨ns,sz,no,od,ne,en,nn,var,nk,dq,root⟩:=d;refine su (cr AC ci i8h _ rfl fun E Sg hb hS=> ?_);cbv;refine bf hS _ h1 ?_;cbv;split
 ·have:e≠0:=by subst hS;simp[AF] at*;assumption
  cbv;exact br (r1 this)
 have h0:e=0:=by subst hS;simp[AF] at*;assumption
 cbv;refine bf hS (bool z) (by subst hS;exact h2 h0) ?_;cases z
 ·cbv;exact bg (r4 h0 rfl)
 ·cbv;exact bg (r3 h0 rfl)
def g7.wf (d:g7):Prop:=(∀i,i<d.nn-> ∀j,j<d.nk i->rq (d.dq i j))/\rq d.root/\ ∀i,i<d.ne->0<=(d.en i).fault
def g7.row (d:g7):List DV:=[.sl 1 d.ns fun i=>[.int .i64 (.v (d.sz i))],.sl 1 d.no fun i=>[.int .i64 (.v (d.od i))],.sl 2 d.ne fun i=>(d.en i).row,
 .sl 2 d.nn fun i=>[.int .i64 (.v (d.var i)),.sl 1 (d.nk i) fun j=>[.int .i64 (.v (d.dq i j))]],.int .i64 (.v d.root)]
def Wg (n:Nat)(l:Nat->g7):AV:= .d (.sl 5 n fun i=>(l i).row)
theorem U6 {d:g7}(h:s8 d=0):Gi d=0/\Io d:=by
 unfold s8 at h;split at h
 ·rename_i a;exact absurd h a
 ·split at h
  ·rename_i a b;exact⟨AR.1 a,b⟩
  ·cases h
end Go.Proofs.Tryz.Run
