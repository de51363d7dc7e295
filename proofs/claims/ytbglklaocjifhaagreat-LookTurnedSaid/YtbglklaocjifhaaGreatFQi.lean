/- Thin families. Conditions: none. -/
import Derived.Test.YtbglklaocjifhaaGreatFNe
import Derived.Test.YtbglklaocjifhaaGreatFJz
open Go.Vf.a0x renaming refl->AA,sl'->Ai,int->Aj
open List renaming prefix_refl->AB,getElem?_eq_some_iff->AI,pairwise_iff_getElem->AK,prefix_append->AN,getElem?_eq_getElem->AO,mem_of_getElem?->AQ,nodup_append->AW,length->AX,getElem?_append_right->AZ,getElem?_take->Ad,append_assoc->Ae,length_cons->Af,length_nil->Ag
open Go.Proofs.YtbglklaocjifhaaGreat.Tryz renaming mixed->AC
open Int renaming toNat_natCast->AD,ofNat_eq_natCast->AE,lt_or_le->AP,min_eq_left->AY,mul_le_mul->Aa,ofNat_lt->Ab
open Go.Vf renaming std->AF,nat->Ac,rowAt->Ah
open Bool renaming noConfusion->AG,true->AJ,false->AM
open Go.Proofs.Tryz renaming prog->AH
open Option renaming none->AR,some->AU
open Classical renaming not_not->AS
open Go.Vf.IX renaming val->AT
set_option linter.unusedSimpArgs false
set_option linter.unusedVariables false
set_option maxHeartbeats 0
namespace Go.Proofs.Tryz.Run
open Go Go.Vf Go.Proofs
open Go.Proofs.YtbglklaocjifhaaGreat
theorem i5f (n m:Nat)(g h:Nat->Int)(hn:n<=1000000):a0j AH AM 33 [isl n g,isl m h] (.d (.bool (decide (n=m/\ ∀i,i<n->g i=h i)))):=by
 refine a0k AC okP g6f _ rfl fun E Sg hb hS=> ?_;generalize hr:decide (n=m/\ ∀i,i<n->g i=h i)=r;unfold isl;cbv;split
 ·cbv;rename_i hc;subst hS;simp[AF] at hc;rw[<-hr,decide_eq_false (by omega)];exact fun _ _ _ _ h=>h
 ·rename_i hc;cbv;have hnm:n=m:=by subst hS;simp[AF] at hc;omega
  refine a7r AC okP hS (fun i=>i<=n/\ ∀j,j<i->g j=h j) (fun i=>n-i)
   (fun i=>⟨b5r [(0,.d (.sl 1 n fun i=>[.int .i64 (.v (g i))])),(1,.d (.sl 1 m fun i=>[.int .i64 (.v (h i))])),(5,.d (.int .i64 (.v (i:Int))))] 26,[],[]⟩) 0 ⟨by omega,by omega⟩ ?_ ?_
  ·exact a4c rfl ⟨AA _,AA _,Aj rfl,trivial⟩ (.nil _) (by omega) (.inr rfl) rfl
  ·intro i hi N hN;cbv;split
   ·rename_i hc1;cbv;refine a1g hS ?_ (a1g hS ?_ ?_)
    ·subst hS;simp[AF] at hc1⊢;omega
    ·subst hS;simp[AF] at hc1⊢;omega
    split
    ·rename_i hc2;cbv;subst hS;simp[AF] at hc2;rw[<-hr,decide_eq_false]
     ·exact fun _ _ _ _ h=>h
     ·simp[AF] at hc1;intro hh;exact hc2 (hh.2 i hc1)
    ·rename_i hc2;cbv;refine a1g hS ?_ ?_
     ·subst hS;simp[AF] at hc1;exact b6g (by simp[AF];omega) (by simp[AF];omega)
     ·refine hN (i+1) _ ?_ ?_ (a4c rfl ⟨AA _,AA _,Aj ?_,trivial⟩ (.nil _) (by omega) (.inr rfl) rfl)
      ·subst hS;simp[AF] at hc1 hc2;refine⟨by omega,fun j hj=> ?_⟩;by_cases e:j=i
       ·subst e;exact hc2
       ·exact hi.2 j (by omega)
      ·subst hS;simp[AF] at hc1;omega
      ·subst hS;simp[AF]
   ·rename_i hc1;cbv;subst hS;simp[AF] at hc1;rw[<-hr,decide_eq_true]
    ·exact fun _ _ _ _ h=>h
    ·exact⟨hnm,fun j hj=>hi.2 j (by omega)⟩
def a6z (n:Nat)(p:Nat->Bool)(r:Int):Prop:=
 ((∀i,i<n->p i=AM)->r= -1)/\ ∀i,i<n->p i=AJ->(∀j,j<i->p j=AM)->r=i
theorem a9i (n:Nat)(p:Nat->Bool): ∃z,a6z n p z/\(0<=z-> ∃i,i<n/\p i=AJ)/\((∃i,i<n/\p i=AJ)->0<=z):=by
 induction n with
 |zero=>
  refine⟨-1,⟨fun _=>rfl,fun i hi=> ?_⟩,fun h=> ?_,fun h=> ?_⟩
  ·omega
  ·omega
  ·obtain⟨i,h,_⟩:=h;omega
 |succ n ih=>
  by_cases h: ∃i,i<n/\p i=AJ
  ·obtain⟨z,⟨h1,h2⟩,h3,h4⟩:=ih;have:=h4 h;obtain⟨k,hk,hk2⟩:=h3 this;refine⟨z,⟨fun ha=>absurd hk2 (by rw[ha k (by omega)];simp),fun i hi hp hj=> ?_⟩,fun _=>⟨k,by omega,hk2⟩,fun _=>this⟩;by_cases e:i=n
   ·subst e;exact absurd hk2 (by rw[hj k hk];simp)
   ·exact h2 i (by omega) hp hj
  ·by_cases hn:p n=AJ
   ·refine⟨n,⟨fun ha=>(by rw[ha n (by omega)] at hn;exact AG hn),fun i hi hp hj=> ?_⟩,fun _=>⟨n,by omega,hn⟩,fun _=>by omega⟩;by_cases e:i=n
    ·subst e;rfl
    ·exact absurd ⟨i,by omega,hp⟩ h
   ·refine⟨-1,⟨fun _=>rfl,fun i hi hp hj=> ?_⟩,by omega,fun⟨i,hi,hp⟩=> ?_⟩
    ·by_cases e:i=n
     ·subst e;exact absurd hp hn
     ·exact absurd ⟨i,by omega,hp⟩ h
    ·by_cases e:i=n
     ·subst e;exact absurd hp hn
     ·exact absurd ⟨i,by omega,hp⟩ h
theorem d2a {n:Nat}(hn:n<=1000000)(g:Nat->Int)(o1 o2:a0f)(gid:FuncId)(p:Nat->Bool)
 (hp: ∀i,i<n->a1h AH gid [int (g i),.ptr 0 0,.ptr 1 0] [o1,o2] (ro [o1,o2] (bool (p i)))) (r:Int) (hr:a6z n p r):
 a1h AH 215 [isl n g,.fn gid [] [.ptr 0 0,.ptr 1 0]] [o1,o2] (ro [o1,o2] (int r)):=by
 refine a2y AC okP e2z _ rfl fun E Sg hb hS=> ?_;cbv;refine a7r AC okP hS (fun i=>i<=n/\ ∀j,j<i->p j=AM) (fun i=>n-i)
  (fun i=>⟨b5r [(0,isl n g),(1,.fn gid [] [.ptr 0 0,.ptr 1 0]),(7,int n),(8,int i)] 19,[o1,o2],[]⟩) 0 ⟨by omega,by omega⟩ ?_ ?_
 ·exact a4c rfl ⟨AA _,AA _,b0a (by subst hS;rfl),a6c rfl,trivial⟩ (.same _) (by omega) (.inr rfl) rfl
 ·intro i hi N hN;cbv;split
  ·cbv;have hlt:i<n:=by subst hS;simp[AF] at*;omega
   have hin:=hp i hlt;generalize hz:p i=z at hin
   repeat' ((first|(with_reducible apply a1g hS)|split|(refine a3v hS (r:=bool z) (by subst hS;exact hin) ?_;cases z))<;>cbv)
   all_goals try (subst hS;simp[AF,Ac,AT] at* <;>first|omega|exact b6g (by omega) (by omega))
   ·refine hN (i+1) _ ⟨by omega,fun j hj=> ?_⟩ (by omega) (a4c rfl ⟨AA _,AA _,AA _,b0a ?_,trivial⟩ (.same _) (by omega) (.inr rfl) rfl)
    ·by_cases e:j=i
     ·subst e;exact hz
     ·exact hi.2 j (by omega)
    ·subst hS;simp[AF]
   ·exact a2s (b0a (hr.2 i hlt hz hi.2).symm) (.same _) (.inr rfl)
  ·cbv;exact a2s (a6c (hr.1 (by subst hS;simp[AF] at*;exact fun j hj=>hi.2 j (by omega))).symm) (.same _) (.inr rfl)
theorem c0u {n:Nat}(hn:n<=1000000)(g:Nat->Int)(o1 o2:a0f)(gid:FuncId)(p:Nat->Bool)
 (hp: ∀i,i<n->a1h AH gid [int (g i),.ptr 0 0,.ptr 1 0] [o1,o2] (ro [o1,o2] (bool (p i)))) (r:Bool) (hr:r=AJ↔ ∃i,i<n/\p i=AJ):
 a1h AH 188 [isl n g,.fn gid [] [.ptr 0 0,.ptr 1 0]] [o1,o2] (ro [o1,o2] (bool r)):=by
 obtain⟨z,hz,hz1,hz2⟩: ∃z,a6z n p z/\(0<=z-> ∃i,i<n/\p i=AJ)/\((∃i,i<n/\p i=AJ)->0<=z):=a9i n p;have hin:=d2a hn g o1 o2 gid p hp z hz;refine a2y AC okP e3u _ rfl fun E Sg hb hS=> ?_;cbv;refine a3v hS hin ?_;cbv;refine a2s (a0s ?_) (.same _) (.inr rfl);subst hS;simp[AF];cases r
 ·simp at hr⊢;by_cases h:z<0
  ·exact h
  ·obtain⟨i,h1,h2⟩:=hz1 (by omega);rw[hr i h1] at h2;cases h2
 ·simp at hr⊢;exact hz2 hr
theorem d0a {x:Int}:a0x (.d (.sl 1 1 (Ah [[.int .i64 (.v x)]]))) (isl 1 fun _=>x):=
 Ai rfl fun i hi=>by
  match i,hi with
  |0,_=>rfl
def two (x y:Int):Nat->Int
 |0=>x
 |_=>y
theorem c8h {x y:Int}:a0x (.d (.sl 1 2 (Ah [[.int .i64 (.v x)],[.int .i64 (.v y)]]))) (isl 2 (two x y)):=
 Ai rfl fun i hi=>by
  match i,hi with
  |0,_=>rfl
  |1,_=>rfl
theorem i5t (a b c:Int)(r:Bool)(hr:r=AJ↔b<=a/\a<=c):a0j AH AJ 85 [int a,int b,int c] (bool r):=by
 refine a1e (a0k AC okP i8p _ rfl fun E Sg hb hS=> ?_);cbv;split<;>cbv
 all_goals subst hS;simp[AF] at*;exact a0s (by cases r<;>simp at* <;>omega)
theorem i3v {n:Nat}(hn:n<=1000000)(g:Nat->Int)(x:Int)(r:Bool)(hr:r=AJ↔ ∃i,i<n/\g i=x):a0j AH AJ 167 [isl n g,int x] (bool r):=by
 refine a1e (a0k AC okP i6n _ rfl fun E Sg hb hS=> ?_);cbv;refine a7r AC okP hS (fun i=>i<=n/\ ∀j,j<i->g j≠x) (fun i=>n-i)
  (fun i=>⟨b5r [(0,isl n g),(1,int x),(5,int i)] 18,[],[]⟩) 0 ⟨by omega,by omega⟩ ?_ ?_
 ·exact a4c rfl ⟨AA _,AA _,a6c rfl,trivial⟩ (.nil _) (by omega) (.inr rfl) rfl
 ·intro i hi N hN;cbv;split
  ·have hlt:i<n:=by subst hS;simp[AF] at*;omega
   cbv;refine a1g hS (by subst hS;simp[AF];omega) ?_;split
   ·have hx:g i=x:=by subst hS;simp[AF,Ac,AT] at*;assumption
    cbv;exact h8e hr ⟨i,hlt,hx⟩
   ·have hx:g i≠x:=by subst hS;simp[AF,Ac,AT] at*;assumption
    cbv;refine a1g hS (by subst hS;exact b6g (by simp[AF];omega) (by simp[AF];omega)) ?_;refine hN (i+1) _ ⟨by omega,fun j hj=> ?_⟩ (by omega) (a4c rfl ⟨AA _,AA _,b0a (by subst hS;simp[AF]),trivial⟩ (.nil _) (by omega) (.inr rfl) rfl);by_cases e:j=i
    ·subst e;exact hx
    ·exact hi.2 j (by omega)
  ·have hall: ∀j,j<n->g j≠x:=by subst hS;simp[AF] at*;exact fun j hj=>hi.2 j (by omega)
   cbv;exact e8z hr fun⟨i,h1,h2⟩=>hall i h1 h2
theorem h8b {n:Nat}(hn:n<=1000000)(g:Nat->Int)(m:Int)(r:Bool)(hr:r=AJ↔(∀i,i<n->g i=i)/\(n:Int)=m):a0j AH AJ 127 [isl n g,int m] (bool r):=by
 refine a1e (a0k AC okP i6s _ rfl fun E Sg hb hS=> ?_);cbv;refine a7r AC okP hS (fun i=>i<=n/\ ∀j,j<i->g j=j) (fun i=>n-i)
  (fun i=>⟨b5r [(0,isl n g),(1,int m),(5,int i)] 22,[],[]⟩) 0 ⟨by omega,by omega⟩ ?_ ?_
 ·exact a4c rfl ⟨AA _,AA _,a6c rfl,trivial⟩ (.nil _) (by omega) (.inr rfl) rfl
 ·intro i hi N hN;cbv;split
  ·have hlt:i<n:=by subst hS;simp[AF] at*;omega
   cbv;refine a1g hS (by subst hS;simp[AF];omega) ?_;split
   ·have hx:g i≠i:=by subst hS;simp[AF,Ac,AT] at*;assumption
    cbv;exact e8z hr fun h=>hx (h.1 i hlt)
   ·have hx:g i=i:=by subst hS;simp[AF,Ac,AT] at*;assumption
    cbv;refine a1g hS (by subst hS;exact b6g (by simp[AF];omega) (by simp[AF];omega)) ?_;refine hN (i+1) _ ⟨by omega,fun j hj=> ?_⟩ (by omega) (a4c rfl ⟨AA _,AA _,b0a (by subst hS;simp[AF]),trivial⟩ (.nil _) (by omega) (.inr rfl) rfl);by_cases e:j=i
    ·subst e;exact hx
    ·exact hi.2 j (by omega)
  ·have hall: ∀j,j<n->g j=j:=by subst hS;simp[AF] at*;exact fun j hj=>hi.2 j (by omega)
   cbv;refine a0s ?_;subst hS;simp[AF];cases r
   ·have: ¬((n:Int)=m):=fun h=>AG (hr.2 ⟨hall,h⟩);simpa using this
   ·simpa using (hr.1 rfl).2
def prod (g:Nat->Int):Nat->Int
 |0=>1
 |n+1=>prod g n*g n
theorem h4r {g:Nat->Int}: ∀{n:Nat},(∀i,i<n->1<=g i)->1<=prod g n
 |0,_=>by simp[prod]
 |n+1,h=>by have h1:=h4r (g:=g) (n:=n) fun i hi=>h i (by omega);have h2:=h n (by omega);have:1*1<=prod g n*g n:=Aa h1 h2 (by omega) (by omega);simpa [prod] using this
theorem i2w {p s:Int}(hp:1<=p)(hs:1<=s):min 3000 (min 3000 p*s)=min 3000 (p*s):=by
 by_cases h:p<=3000
 ·rw[Int.min_eq_right h]
 ·rw[AY (a:=3000) (b:=p) (by omega)];have h1:3000*1<=3000*s:=Int.mul_le_mul_of_nonneg_left hs (by omega);have h2:3000*s<=p*s:=Int.mul_le_mul_of_nonneg_right (by omega) (by omega);rw[AY (by omega),AY (by omega)]
theorem h8a {n:Nat}(hn:n<=1000000)(g:Nat->Int)(hg: ∀i,i<n->1<=g i/\g i<=12)(r:Int)(hr:r=min 3000 (prod g n)):a0j AH AJ 86 [isl n g,int 0] (int r):=by
 refine a4e (a0k AC okP i8q _ rfl fun E Sg hb hS=> ?_);cbv;refine a7r AC okP hS (fun (s:Nat×Int)=>s.1<=n/\s.2=min 3000 (prod g s.1)/\1<=s.2/\s.2<=3000) (fun s=>n-s.1)
  (fun s=>⟨b5r [(0,isl n g),(5,int s.2),(6,int s.1)] 22,[],[]⟩) (0,1) ⟨by simp,by simp only[prod];decide,by simp,by simp⟩ ?_ ?_
 ·exact a4c rfl ⟨AA _,a6c rfl,b0a rfl,trivial⟩ (.nil _) (by omega) (.inr rfl) rfl
 ·rintro⟨i,p⟩ ⟨h1,h2,h3,h4⟩ N hN;simp only at h1 h2 h3 h4 hN;cbv;split
  ·have hlt:i<n:=by subst hS;simp[AF] at*;omega
   have hgi:=hg i hlt;have hmul:1<=p*g i/\p*g i<=36000:=by have q1:1*1<=p*g i:=Aa h3 hgi.1 (by omega) (by omega);have q2:p*g i<=3000*12:=Aa h4 hgi.2 (by omega) (by omega);omega
   have hpp:=h4r (g:=g) (n:=i) fun j hj=>(hg j (by omega)).1;cbv;refine a1g hS (by subst hS;simp[AF];omega) ?_;refine a1g hS (by subst hS;exact b6g (by simp[AF,Ac,AT];omega) (by simp[AF,Ac,AT];omega)) ?_;refine a1g hS (by subst hS;exact b6g (by simp[AF];omega) (by simp[AF];omega)) ?_;refine hN (i+1,min 3000 (p*g i)) _ ⟨by simp;omega,?_,by simp only;omega,by simp only;omega⟩ (by simp;omega) (a4c rfl ⟨AA _,b0a ?_,b0a (by subst hS;simp[AF]),trivial⟩ (.nil _) (by omega) (.inr rfl) rfl)
   ·simp only[prod,h2];exact i2w hpp hgi.1
   ·subst hS;simp[AF,Ac,AT];split<;>omega
  ·have hin:i=n:=by subst hS;simp[AF] at*;omega
   subst hin;cbv;exact b0a (h2.trans hr.symm)
def h6y (n m:Nat)(h:Nat->Int):Prop:=m=n/\ ∀i,i<m->(0<=h i/\h i<=(n:Int)-1)/\ ∀k,k<i->h k≠h i
theorem i0z {n m:Nat}(hn:n<=1000000)(hm:m<=1000000)(g h:Nat->Int)(r:Bool)(hr:r=AJ↔h6y n m h):a0j AH AJ 87 [isl n g,isl m h] (bool r):=by
 refine a1e (a0k AC okP i7z _ rfl fun E Sg hb hS=> ?_);cbv;split
 ·have hne:m≠n:=by subst hS;simp[AF] at*;omega
  cbv;exact e8z hr fun h=>hne h.1
 have hmn:m=n:=by subst hS;simp[AF] at*;omega
 cbv;refine a7r AC okP hS (fun i=>i<=m/\ ∀j,j<i->(0<=h j/\h j<=(n:Int)-1)/\ ∀k,k<j->h k≠h j) (fun i=>m-i)
  (fun i=>⟨b5r [(0,isl n g),(1,isl m h),(5,int i)] 41,[],[]⟩) 0 ⟨by omega,by omega⟩ ?_ ?_
 ·exact a4c rfl ⟨AA _,AA _,a6c rfl,trivial⟩ (.nil _) (by omega) (.inr rfl) rfl
 ·intro i hi N hN;have hin:=i5t (h i) 0 ((n:Int)-1) (decide (0<=h i/\h i<=(n:Int)-1)) decide_eq_true_iff;generalize hz:decide (0<=h i/\h i<=(n:Int)-1)=z at hin;cbv;split
  ·have hlt:i<m:=by subst hS;simp[AF] at*;omega
   cbv;refine a1g hS (by subst hS;simp[AF];omega) ?_;refine a1g hS (by subst hS;exact b6g (by simp[AF];omega) (by simp[AF];omega)) ?_;refine a0v hS (bool z) (by subst hS;exact hin) ?_;cases z
   ·cbv;exact e8z hr fun hh=>of_decide_eq_false hz (hh.2 i hlt).1
   ·have hz:0<=h i/\h i<=(n:Int)-1:=by simpa using hz
    cbv;refine a7r AC okP hS (fun k=>k<=i/\ ∀j,j<k->h j≠h i) (fun k=>i-k)
     (fun k=>⟨b5r [(0,isl n g),(1,isl m h),(5,int i),(6,int k)] 41,[],[]⟩) 0 ⟨by omega,by omega⟩ ?_ ?_
    ·exact a4c rfl ⟨AA _,AA _,AA _,a6c rfl,trivial⟩ (.nil _) (by omega) (.inr rfl) rfl
    ·intro k hk N2 hN2;cbv;split
     ·have hlk:k<i:=by subst hS;simp[AF] at*;omega
      cbv;refine a1g hS (by subst hS;simp[AF];omega) ?_;refine a1g hS (by subst hS;simp[AF];omega) ?_;split
      ·have hx:h k=h i:=by subst hS;simp[AF,Ac,AT] at*;assumption
       cbv;exact e8z hr fun hh=>(hh.2 i hlt).2 k hlk hx
      ·have hx:h k≠h i:=by subst hS;simp[AF,Ac,AT] at*;assumption
       cbv;refine a1g hS (by subst hS;exact b6g (by simp[AF];omega) (by simp[AF];omega)) ?_;refine hN2 (k+1) _ ⟨by omega,fun j hj=> ?_⟩ (by omega) (a4c rfl ⟨AA _,AA _,AA _,b0a (by subst hS;simp[AF]),trivial⟩ (.nil _) (by omega) (.inr rfl) rfl);by_cases e:j=k
       ·subst e;exact hx
       ·exact hk.2 j (by omega)
     ·have hki: ∀j,j<i->h j≠h i:=by subst hS;simp[AF] at*;exact fun j hj=>hk.2 j (by omega)
      cbv;refine a1g hS (by subst hS;exact b6g (by simp[AF];omega) (by simp[AF];omega)) ?_;refine hN (i+1) _ ⟨by omega,fun j hj=> ?_⟩ (by omega) (a4c rfl ⟨AA _,AA _,b0a (by subst hS;simp[AF]),trivial⟩ (.nil _) (by omega) (.inr rfl) rfl);by_cases e:j=i
      ·subst e;exact⟨hz,hki⟩
      ·exact hi.2 j (by omega)
  ·have hall:h6y n m h:=⟨hmn,by subst hS;simp[AF] at*;exact fun j hj=>hi.2 j (by omega)⟩;cbv;exact h8e hr hall
open Classical in
noncomputable def h4e (n m:Nat)(g h:Nat->Int):Int:=
 if 6<n then 5 else if¬ ∀i,i<n->1<=g i/\g i<=12 then 3 else if 2000<prod g n then 5 else if h6y n m h then 0 else 4
theorem h4p {n m:Nat}(hn:n<=1000000)(hm:m<=1000000)(g h:Nat->Int)(r:Int)(hr:h4e n m g h=r):a0j AH AJ 39 [isl n g,isl m h] (int r):=by
 refine a4e (a0k AC okP i7p _ rfl fun E Sg hb hS=> ?_);unfold h4e at hr;cbv;split
 ·have h6:6<n:=by subst hS;simp[AF] at*;omega
  cbv;exact a6c (by rw[<-hr,if_pos h6];rfl)
 have h6: ¬6<n:=by subst hS;simp[AF] at*;omega
 rw[if_neg h6] at hr;cbv;refine a7r AC okP hS (fun i=>i<=n/\ ∀j,j<i->1<=g j/\g j<=12) (fun i=>n-i)
  (fun i=>⟨b5r [(0,isl n g),(1,isl m h),(5,int i)] 28,[],[]⟩) 0 ⟨by omega,by omega⟩ ?_ ?_
 ·exact a4c rfl ⟨AA _,AA _,a6c rfl,trivial⟩ (.nil _) (by omega) (.inr rfl) rfl
 ·intro i hi N hN;have hin:=i5t (g i) 1 12 (decide (1<=g i/\g i<=12)) decide_eq_true_iff;generalize hz:decide (1<=g i/\g i<=12)=z at hin;cbv;split
  ·have hlt:i<n:=by subst hS;simp[AF] at*;omega
   cbv;refine a1g hS (by subst hS;simp[AF];omega) ?_;refine a0v hS (bool z) (by subst hS;exact hin) ?_;cases z
   ·cbv;exact a6c (by rw[<-hr,if_pos (fun hh=>of_decide_eq_false hz (hh i hlt))];rfl)
   ·cbv;refine a1g hS (by subst hS;exact b6g (by simp[AF];omega) (by simp[AF];omega)) ?_;refine hN (i+1) _ ⟨by omega,fun j hj=> ?_⟩ (by omega) (a4c rfl ⟨AA _,AA _,b0a (by subst hS;simp[AF]),trivial⟩ (.nil _) (by omega) (.inr rfl) rfl);by_cases e:j=i
    ·subst e;exact of_decide_eq_true hz
    ·exact hi.2 j (by omega)
  ·have hall: ∀j,j<n->1<=g j/\g j<=12:=by subst hS;simp[AF] at*;exact fun j hj=>hi.2 j (by omega)
   rw[if_neg (fun k=>k hall)] at hr;cbv;refine a0v hS _ (h8a hn g hall _ rfl) ?_;generalize hp:min 3000 (prod g n)=p;cbv;split
   ·have:2000<prod g n:=by subst hS;simp[AF] at*;omega
    cbv;exact a6c (by rw[<-hr,if_pos this];rfl)
   have hpr: ¬2000<prod g n:=by subst hS;simp[AF] at*;omega
   rw[if_neg hpr] at hr;obtain⟨z,hz⟩: ∃z:Bool,z=AJ↔h6y n m h:=by classical exact⟨decide _,decide_eq_true_iff⟩
   cbv;refine a0v hS _ (i0z hn hm g h z hz) ?_;cases z
   ·cbv;exact a6c (by rw[<-hr,if_neg (fun h=>AG (hz.2 h))];rfl)
   ·cbv;exact a6c (by rw[<-hr,if_pos (hz.1 rfl)];rfl)
theorem i4b {n:Nat}(hn:n<=1000000)(g:Nat->Int)(hg: ∀i,i<n->1<=g i/\g i<=12)(r:Int)(hr:r=min 3000 (prod g n)):a0j AH AJ 72 [isl n g] (int r):=by refine a4e (a0k AC okP i8a _ rfl fun E Sg hb hS=> ?_);cbv;refine a0v hS _ (h8a hn g hg r hr) ?_;cbv;exact AA _
theorem h4s {n m:Nat}{g h:Nat->Int}(e:h4e n m g h=0):n<=6/\(∀i,i<n->1<=g i/\g i<=12)/\prod g n<=2000/\h6y n m h:=by
 unfold h4e at e;split at e
 ·cases e
 ·split at e
  ·cases e
  ·split at e
   ·cases e
   ·split at e
    ·rename_i a b c d;exact⟨by omega,AS.1 b,by omega,d⟩
    ·cases e
structure VaR where
 fault:Int
 n:Int
def VaR.row (v:VaR):List DV:=[.int .u8 (.v v.fault),.int .i64 (.v v.n)]
def VaR.av (v:VaR):AV:= .agg [u8 v.fault,int v.n]
def a1i (v:VaR):Prop:=if v.fault=0 then-9999<=v.n/\v.n<=9999 else v.fault<=4/\v.n=0
theorem i0j (v:VaR)(r:Bool)(hr:r=AJ↔a1i v):a0j AH AJ 164 [v.av] (bool r):=by
 obtain⟨f,n⟩:=v;simp only[a1i] at hr;refine a1e (a0k AC okP i7d _ rfl fun E Sg hb hS=> ?_);have hin:=i5t n (-9999) 9999 (decide (-9999<=n/\n<=9999)) decide_eq_true_iff;generalize hz:decide (-9999<=n/\n<=9999)=z at hin;cbv;split
 ·have h0:f=0:=by subst hS;simp[AF] at*;assumption
  cbv;refine a0v hS _ hin ?_;cbv;rw[if_pos h0] at hr;exact a0s (by cases r<;>cases z<;>simp at* <;>omega)
 ·have h0:f≠0:=by subst hS;simp[AF] at*;assumption
  rw[if_neg h0] at hr;cbv;split<;>cbv
  all_goals subst hS;simp[AF] at*;exact a0s (by cases r<;>simp at* <;>omega)
structure DiR where
 ns:Nat
 sz:Nat->Int
 no:Nat
 od:Nat->Int
 ne:Nat
 en:Nat->VaR
 nn:Nat
 var:Nat->Int
 nk:Nat->Nat
 kid:Nat->Nat->Int
 root:Int
def vsl (n:Nat)(f:Nat->VaR):AV:= .d (.sl 2 n fun i=>(f i).row)
def bsl (n:Nat)(var:Nat->Int)(nk:Nat->Nat)(kid:Nat->Nat->Int):AV:= .d (.sl 2 n fun i=>[.int .i64 (.v (var i)),.sl 1 (nk i) fun j=>[.int .i64 (.v (kid i j))]])
def DiR.av (d:DiR):AV:= .agg [isl d.ns d.sz,isl d.no d.od,vsl d.ne d.en,bsl d.nn d.var d.nk d.kid,int d.root]
def c5t (z:Int):Prop:= -9223372036854775808<=z/\z<=9223372036854775807
def isRef (d:DiR)(ref below:Int):Prop:=if 0<=ref then ref<below else-1-ref<=(d.ne:Int)-1
theorem i3k (d:DiR)(ref below:Int)(hd:d.ne<=1000000)(hw:c5t ref)(r:Bool)(hr:r=AJ↔isRef d ref below):a0j AH AJ 165 [d.av,int ref,int below] (bool r):=by
 have hin:=i5t (-1-ref) 0 ((d.ne:Int)-1) (decide (0<= -1-ref/\ -1-ref<=(d.ne:Int)-1)) decide_eq_true_iff;generalize hz:decide (0<= -1-ref/\ -1-ref<=(d.ne:Int)-1)=z at hin;simp only[isRef] at hr;obtain⟨ns,sz,no,od,ne,en,nn,var,nk,kid,root⟩:=d;simp only at hr hd hin hz;simp only[c5t] at hw;refine a1e (a0k AC okP i6o _ rfl fun E Sg hb hS=> ?_);cbv;split
 ·have h0:0<=ref:=by subst hS;simp[AF] at*;assumption
  rw[if_pos h0] at hr;cbv;refine a0s ?_;subst hS;simp[AF] at*;cases r<;>simp at* <;>omega
 ·have h0: ¬0<=ref:=by subst hS;simp[AF] at*;omega
  rw[if_neg h0] at hr;cbv;refine a1g hS (by subst hS;exact b6g (by simp[AF];omega) (by simp[AF];omega)) ?_;refine a1g hS (by subst hS;exact b6g (by simp[AF];omega) (by simp[AF];omega)) ?_;refine a0v hS (bool z) (by subst hS;exact hin) ?_;cbv;refine a0s ?_;cases z
  ·have:=of_decide_eq_false hz;cases r
   ·rfl
   ·have:=hr.1 rfl;omega
  ·have:=of_decide_eq_true hz;cases r
   ·exact absurd (hr.2 this.2) (by simp)
   ·rfl
def pos (od:Nat->Int)(v:Int):Nat->Nat->Nat
 |0,i=>i
 |k+1,i=>if od i=v then i else pos od v k (i+1)
theorem h5n {od:Nat->Int}{v:Int}: ∀{k i j:Nat},i<=j->j<i+k->od j=v->(∀l,i<=l->l<j->od l≠v)->pos od v k i=j
 |0,i,j,h1,h2,_,_=>by omega
 |k+1,i,j,h1,h2,h3,h4=>by
  rw[pos];by_cases e:i=j
  ·subst e;rw[if_pos h3]
  ·rw[if_neg (h4 i (by omega) (by omega))];exact h5n (by omega) (by omega) h3 fun l hl=>h4 l (by omega)
theorem h6w {od:Nat->Int}{v:Int}: ∀{k i:Nat},(∀l,i<=l->l<i+k->od l≠v)->pos od v k i=i+k
 |0,i,_=>by rw[pos];omega
 |k+1,i,h=>by rw[pos,if_neg (h i (by omega) (by omega)),h6w fun l hl hl2=>h l (by omega) (by omega)];omega
def h4t (d:DiR)(ref:Int):Nat:=if 0<=ref then pos d.od (d.var ref.toNat) d.no 0 else d.no
theorem i4l (d:DiR)(ref:Int)(hd:d.no<=1000000)(hr:0<=ref->ref<d.nn)(r:Int)(he:r=h4t d ref):a0j AH AJ 166 [d.av,int ref] (int r):=by
 simp only[h4t] at he;obtain⟨ns,sz,no,od,ne,en,nn,var,nk,kid,root⟩:=d;simp only at hd hr he;refine a4e (a0k AC okP i6m _ rfl fun E Sg hb hS=> ?_);have ett: ∀z,Sg.toNat z=z.toNat:=by subst hS;exact fun _=>rfl
 cbv;refine a7r AC okP hS (fun i=>i<=no/\ ∀j,j<i->0<=ref/\od j≠var ref.toNat) (fun i=>no-i)
  (fun i=>⟨b5r [(1,int ref),(2,.ptr 0 0),(5,int i)] 33,[.var [isl ns sz,isl no od,vsl ne en,bsl nn var nk kid,int root]],[]⟩) 0 ⟨by omega,by omega⟩ ?_ ?_
 ·exact a4c rfl ⟨AA _,AA _,a6c rfl,trivial⟩ (.cons (.refl _) (.nil _)) (by simp;omega) (.inr rfl) rfl
 ·intro i hi N hN;cbv;split
  ·have h0:0<=ref:=by subst hS;simp[AF] at*;assumption
   rw[if_pos h0] at he;cbv;split
   ·have hlt:i<no:=by subst hS;simp[AF] at*;omega
    cbv;refine a1g hS (by subst hS;simp[AF];omega) ?_;refine a1g hS (by subst hS;exact⟨h0,hr h0⟩) ?_;simp only[Ac,ett,AE,AD];split
    ·have hx:od i=var ref.toNat:=by subst hS;simp[AF] at*;assumption
     cbv;refine b0a ?_;rw[he,h5n (j:=i) (by omega) (by omega) hx fun l _ hl=>(hi.2 l hl).2];rfl
    ·have hx:od i≠var ref.toNat:=by subst hS;simp[AF] at*;assumption
     cbv;refine a1g hS (by subst hS;exact b6g (by simp[AF];omega) (by simp[AF];omega)) ?_;refine hN (i+1) _ ⟨by omega,fun j hj=> ?_⟩ (by omega) (a4c rfl ⟨AA _,AA _,b0a (by subst hS;simp[AF]),trivial⟩ (.cons (.refl _) (.nil _)) (by simp;omega) (.inr rfl) rfl);by_cases e:j=i
     ·subst e;exact⟨h0,hx⟩
     ·exact hi.2 j (by omega)
   ·have hin:i=no:=by subst hS;simp[AF] at*;omega
    subst hin;cbv;refine b0a ?_;rw[he,h6w fun l _ hl=>(hi.2 l (by omega)).2];subst hS;simp[AF]
  ·have h0: ¬0<=ref:=by subst hS;simp[AF] at*;omega
   rw[if_neg h0] at he;cbv;refine b0a ?_;rw[he];subst hS;rfl
theorem i5i (v:Int){n:Nat}(hn:n<=1000000)(g:Nat->Int)(r:Bool)(hr:r=AJ↔ ∀i,i<n->g i=g 0):a0j AH AJ 123 [.agg [int v,isl n g]] (bool r):=by
 refine a1e (a0k AC okP f0z _ rfl fun E Sg hb hS=> ?_);have ett: ∀z,Sg.toNat z=z.toNat:=by subst hS;exact fun _=>rfl
 have h00: ∀j,j<1->j<n->g j=g 0:=fun j hj _=>by
  have:j=0:=by omega
  rw[this]
 cbv;refine a7r AC okP hS (fun i=>1<=i/\(i<=n\/n=0/\i=1)/\ ∀j,j<i->j<n->g j=g 0) (fun i=>n-i)
  (fun i=>⟨b5r [(1,.ptr 0 0),(3,int i)] 21,[.var [int v,isl n g]],[]⟩) 1 ⟨by omega,by omega,h00⟩ ?_ ?_
 ·exact a4c rfl ⟨AA _,a6c rfl,trivial⟩ (.cons (.refl _) (.nil _)) (by simp;omega) (.inr rfl) rfl
 ·intro i hi N hN;cbv;split
  ·have hlt:i<n:=by subst hS;simp[AF] at*;omega
   cbv;refine a1g hS (by subst hS;simp[AF];omega) ?_;refine a1g hS (by subst hS;simp[AF];omega) ?_;simp only[Ac,ett,AE,AD];split
   ·have hx:g i≠g 0:=by subst hS;simp[AF] at*;assumption
    cbv;exact e8z hr fun h=>hx (h i hlt)
   ·have hx:g i=g 0:=by subst hS;simp[AF] at*;assumption
    cbv;refine a1g hS (by subst hS;exact b6g (by simp[AF];omega) (by simp[AF];omega)) ?_;refine hN (i+1) _ ⟨by omega,by omega,fun j hj hjn=> ?_⟩ (by omega) (a4c rfl ⟨AA _,b0a (by subst hS;simp[AF]),trivial⟩ (.cons (.refl _) (.nil _)) (by simp;omega) (.inr rfl) rfl);by_cases e:j=i
    ·subst e;exact hx
    ·exact hi.2.2 j (by omega) hjn
  ·have hall: ∀j,j<n->g j=g 0:=by
    have:n<=i:=by subst hS;simp[AF] at*;omega
    exact fun j hj=>hi.2.2 j (by omega) hj
   cbv;exact h8e hr hall
def L {α:Type}(n:Nat)(g:Nat->α):List α:=(List.range n).map g
theorem h3u {α:Type}(n:Nat)(g:Nat->α):(L n g).length=n:=by simp[L]
theorem h7q {α:Type}(n:Nat)(g:Nat->α):L (n+1) g=L n g++[g n]:=by simp[L,List.range_succ]
theorem h4v {α:Type}{n:Nat}{g h:Nat->α}(e: ∀i,i<n->g i=h i):L n g=L n h:=by unfold L;exact List.map_congr_left fun i hi=>e i (by simpa using hi)
theorem h6d {α:Type}{n:Nat}{g:Nat->α}{x:α}:x∈L n g↔ ∃i,i<n/\g i=x:=by simp[L]
def arrI (n:Nat)(g:Nat->Int):a0f:= .arr 1 n fun i=>[.int .i64 (.v (g i))]
theorem a9v.arrI {n m:Nat}{e:Nat->List DV}{g:Nat->Int}(hn:n=m)(h: ∀i,i<n->e i=[.int .i64 (.v (g i))]):a9v (.arr 1 n e) (arrI m g):=a9v.arr' hn h
def h5k (l:List Int)(x:Int):List Int:=if x∈l then l else l++[x]
instance:DecidableEq VaR:=fun a b=>match a,b with
 |⟨x,y⟩,⟨u,v⟩=>if h:x=u/\y=v then isTrue (by rw[h.1,h.2]) else isFalse fun e=>h (by cases e;exact⟨rfl,rfl⟩)
structure NdR where
 var:Int
 kids:List Int
instance:DecidableEq NdR:=fun a b=>match a,b with
 |⟨x,y⟩,⟨u,v⟩=>if h:x=u/\y=v then isTrue (by rw[h.1,h.2]) else isFalse fun e=>h (by cases e;exact⟨rfl,rfl⟩)
namespace Law
section
variable (E:List VaR) (N:List NdR)
def srch:Nat->Int->List Int×List Int->List Int×List Int
 |0,ref,s=>if ref<0 then (s.1,h5k s.2 (-1-ref)) else s
 |f+1,ref,s=>if ref<0 then (s.1,h5k s.2 (-1-ref)) else if ref∈s.1 then s else
  match N[ref.toNat]? with
  |none=>s
  |some b=>let t:=b.kids.foldl (fun s k=>srch f k s) s;(t.1++[ref],t.2)
structure Mk where
 oe:List VaR
 on:List NdR
 kn:Nat->Option Int
def onceE {α:Type}[DecidableEq α](l:List α)(x:α):List α:=if x∈l then l else l++[x]
def at1 {α:Type}[DecidableEq α]:List α->α->Nat
 |[],_=>0
 |y::l,x=>if y=x then 0 else at1 l x+1
def flatL (l:List Int):Prop:= ∀k,k∈l->k=l.headD 0
instance (l:List Int):Decidable (flatL l):=by unfold flatL;infer_instance
def mkEnd (s:Mk)(v:VaR):Mk×Int:=({s with oe:=onceE s.oe v},-1-(at1 s.oe v:Int))
def mkNode (s:Mk)(b:NdR):Mk×Int:=
 if flatL b.kids then (s,b.kids.headD 0) else ({s with on:=onceE s.on b},at1 s.on b)
def learn (s:Mk)(i:Nat)(z:Int):Mk:={s with kn:=fun j=>if j=i then AU z else s.kn j}
def frm:Nat->Int->Mk->Mk×Int
 |0,ref,s=>if ref<0 then match E[(-1-ref).toNat]? with|some v=>mkEnd s v|none=>(s,0) else (s,0)
 |f+1,ref,s=>if ref<0 then match E[(-1-ref).toNat]? with|some v=>mkEnd s v|none=>(s,0) else
  match s.kn ref.toNat with
  |some t=>(s,t)
  |none=>match N[ref.toNat]? with
   |none=>(s,0)
   |some b=>
    let r:=b.kids.foldl (fun (p:Mk×List Int) k=>let q:=frm f k p.1;(q.1,p.2++[q.2])) (s,[])
    let q:=mkNode r.1 ⟨b.var,r.2⟩
    (learn q.1 ref.toNat q.2,q.2)
def rng (n:Nat):List Int:=L n fun k=>(k:Int)
def stt (n e:Nat):Mk:=⟨E.take e,N.take n,fun i=>if i<n then AU (i:Int) else AR⟩
def okRef (ref:Int)(below:Nat):Prop:=(0<=ref->ref<below)/\(ref<0->(-1-ref).toNat<E.length)
theorem mem_rng {n:Nat}{x:Int}:x∈rng n↔0<=x/\x<n:=by
 unfold rng;rw[h6d];constructor
 ·rintro⟨i,hi,rfl⟩;omega
 ·intro h;exact⟨x.toNat,by omega,by omega⟩
theorem rng_succ (n:Nat):rng (n+1)=rng n++[(n:Int)]:=h7q _ _
theorem at1_mem {α:Type}[DecidableEq α]: ∀{l:List α} {x:α} {i:Nat},l.Nodup->l[i]? =AU x->at1 l x=i
 |[],x,i,_,h=>by simp at h
 |y::l,x,0,_,h=>by simp at h;simp[at1,h]
 |y::l,x,i+1,hn,h=>by simp at h;have h1:=List.nodup_cons.1 hn;have:y≠x:=fun e=>h1.1 (e▸AQ h);simp[at1,this,at1_mem h1.2 h]
theorem at1_not {α:Type}[DecidableEq α]: ∀{l:List α} {x:α},x∉l->at1 l x=l.length
 |[],_,_=>rfl
 |y::l,x,h=>by have h1:y≠x:=fun e=>h (by simp[e]);simp[at1,h1,at1_not (fun h2=>h (by simp[h2]):x∉l)]
theorem at1_le {α:Type}[DecidableEq α]: ∀(l:List α) (x:α),at1 l x<=l.length
 |[],_=>Nat.le_refl _
 |y::l,x=>by rw[at1];split<;>simp;exact at1_le l x
theorem onceE_mem {α:Type}[DecidableEq α]{l:List α}{x:α}(h:x∈l):onceE l x=l:=if_pos h
theorem onceE_not {α:Type}[DecidableEq α]{l:List α}{x:α}(h:x∉l):onceE l x=l++[x]:=if_neg h
theorem i3g {α:Type}{l:List α}{e j:Nat}{v:α}(h:l[j]? =AU v)(hj:j<e):(l.take e)[j]? =AU v:=by rw[Ad];simp[hj,h]
theorem h9x {α:Type}{l:List α}(h:l.Nodup)(e:Nat):(l.take e).Nodup:=h.sublist (List.take_sublist _ _)
theorem h9b {α:Type}{l:List α}(hn:l.Nodup){e j:Nat}{v:α}(h:l[j]? =AU v)(hj:e<=j):v∉l.take e:=by
 intro hm;obtain⟨i,hi⟩:=List.getElem?_of_mem hm;rw[Ad] at hi;split at hi
 ·have hl:i<l.length:=(AI.1 hi).1;have hl2:j<l.length:=(AI.1 h).1;have e1:=(AI.1 hi).2;have e2:=(AI.1 h).2;have:=(AK.1 hn) i j hl hl2 (by omega);exact this (e1.trans e2.symm)
 ·cases hi
theorem h7r {α:Type}{l:List α}{e:Nat}{v:α}(h:l[e]? =AU v):l.take (e+1)=l.take e++[v]:=by rw[List.take_add_one,h];rfl
def Bad (l:List Int×List Int)(s:Mk)(nn ne:Nat):Prop:= ¬(l.1<+:rng nn/\l.2<+:rng ne)/\ ¬(s.oe<+:E/\s.on<+:N)
theorem Bad.mono {l l':List Int×List Int}{s s':Mk}{nn ne:Nat}(h:Bad E N l s nn ne)(h1:l.1<+:l'.1)(h2:l.2<+:l'.2)(h3:s.oe<+:s'.oe)(h4:s.on<+:s'.on):Bad E N l' s' nn ne:=
 ⟨fun h5=>h.1 ⟨h1.trans h5.1,h2.trans h5.2⟩,fun h5=>h.2 ⟨h3.trans h5.1,h4.trans h5.2⟩⟩
theorem h7n (l:List Int)(x:Int):l<+:h5k l x:=by unfold h5k;split;exact AB _;exact AN _ _
theorem onceE_pre {α:Type}[DecidableEq α](l:List α)(x:α):l<+:onceE l x:=by unfold onceE;split;exact AB _;exact AN _ _
theorem h9g: ∀(f:Nat) (ref:Int) (s:List Int×List Int),s.1<+:(srch N f ref s).1/\s.2<+:(srch N f ref s).2
 |0,ref,s=>by
  unfold srch;split
  ·exact⟨AB _,h7n _ _⟩
  ·exact⟨AB _,AB _⟩
 |f+1,ref,s=>by
  unfold srch;split
  ·exact⟨AB _,h7n _ _⟩
  ·split
   ·exact⟨AB _,AB _⟩
   ·split
    ·exact⟨AB _,AB _⟩
    ·rename_i b _;have: ∀(l:List Int) (s:List Int×List Int),s.1<+:(l.foldl (fun s k=>srch N f k s) s).1/\s.2<+:(l.foldl (fun s k=>srch N f k s) s).2:=by
      intro l
      induction l with
      |nil=>intro s;exact⟨AB _,AB _⟩
      |cons k l ih=>intro s;have h1:=h9g f k s;have h2:=ih (srch N f k s);exact⟨h1.1.trans h2.1,h1.2.trans h2.2⟩
     have h:=this b.kids s;exact⟨h.1.trans (AN _ _),h.2⟩
theorem h7u (s:Mk)(v:VaR):s.oe<+:(mkEnd s v).1.oe/\s.on<+:(mkEnd s v).1.on:=⟨onceE_pre _ _,AB _⟩
theorem h6r (s:Mk)(b:NdR):s.oe<+:(mkNode s b).1.oe/\s.on<+:(mkNode s b).1.on:=by
 unfold mkNode;split
 ·exact⟨AB _,AB _⟩
 ·exact⟨AB _,onceE_pre _ _⟩
def kidsF (f:Nat)(l:List Int)(p:Mk×List Int):Mk×List Int:=l.foldl (fun (p:Mk×List Int) k=>let q:=frm E N f k p.1;(q.1,p.2++[q.2])) p
theorem h7p {f:Nat}(h: ∀ref s,s.oe<+:(frm E N f ref s).1.oe/\s.on<+:(frm E N f ref s).1.on): ∀(l:List Int) (p:Mk×List Int),p.1.oe<+:(kidsF E N f l p).1.oe/\p.1.on<+:(kidsF E N f l p).1.on:=by
 intro l
 induction l with
 |nil=>intro p;exact⟨AB _,AB _⟩
 |cons k l ih=>intro p;have h1:=h k p.1;have h2:=ih ((frm E N f k p.1).1,p.2++[(frm E N f k p.1).2]);exact⟨h1.1.trans h2.1,h1.2.trans h2.2⟩
theorem i1e: ∀(f:Nat) (ref:Int) (s:Mk),s.oe<+:(frm E N f ref s).1.oe/\s.on<+:(frm E N f ref s).1.on
 |0,ref,s=>by
  unfold frm
  (repeat' split)<;>first|exact h7u _ _|exact⟨AB _,AB _⟩
 |f+1,ref,s=>by
  unfold frm
  (repeat' split)<;>first|exact h7u _ _|exact⟨AB _,AB _⟩|skip
  rename_i b _;have h1:=h7p E N (i1e f) b.kids (s,[]);have h2:=h6r (kidsF E N f b.kids (s,[])).1 ⟨b.var,(kidsF E N f b.kids (s,[])).2⟩;exact⟨h1.1.trans h2.1,h1.2.trans h2.2⟩
def i7l (n e:Nat)(ref:Int)(l:List Int×List Int)(q:Mk×Int):Prop:=
 (∃n' e',n<=n'/\e<=e'/\n'<=N.length/\e'<=E.length/\(n':Int)<=max (n:Int) (ref+1)/\l=(rng n',rng e')/\q=(stt E N n' e',ref))\/Bad E N l q.1 N.length E.length
theorem i1z {n m:Nat}{x:Int}(h:rng n++[x]<+:rng m):x=n:=by
 obtain⟨t,ht⟩:=h;have h1:(rng n++[x]++t)[n]? =(rng m)[n]? :=by rw[ht]
 have hl:(rng n).length=n:=h3u _ _;rw[Ae,AZ (by omega),hl] at h1;simp at h1;have hm:n<m:=by
  rcases Nat.lt_or_ge n m with h2|h2
  ·exact h2
  ·rw[List.getElem?_eq_none (by simpa [rng,h3u] using h2)] at h1;cases h1
 simp[rng,L,hm] at h1;exact h1
theorem h9q {α:Type}{l:List α}(hn:l.Nodup){n i:Nat}{v:α}(hi:l[i]? =AU v)(hlen:n<=l.length)(h:l.take n++[v]<+:l):i=n:=by
 obtain⟨t,ht⟩:=h;have h1:(l.take n++[v]++t)[n]? =l[n]? :=by rw[ht]
 have hl:(l.take n).length=n:=by simp;omega
 rw[Ae,AZ (by omega),hl] at h1;simp at h1;have h2:=h1.symm;obtain⟨a1,b1⟩:=AI.1 h2;obtain⟨a2,b2⟩:=AI.1 hi;rcases Nat.lt_trichotomy i n with h3|h3|h3
 ·exact absurd (b2.trans b1.symm) ((AK.1 hn) i n a2 a1 h3)
 ·exact h3
 ·exact absurd (b1.trans b2.symm) ((AK.1 hn) n i a1 a2 h3)
variable {E N}
theorem h9l (hE:E.Nodup){n e:Nat}(hn:n<=N.length)(he:e<=E.length){ref:Int}(h0:ref<0){v:VaR}(hv:E[(-1-ref).toNat]? =AU v):
 i7l E N n e ref (rng n,h5k (rng e) (-1-ref)) (mkEnd (stt E N n e) v):=by
 obtain⟨j,hj⟩: ∃j:Nat,-1-ref=j:=⟨(-1-ref).toNat,by omega⟩;rw[hj] at hv⊢;simp only[AD] at hv;have hjl:j<E.length:=(AI.1 hv).1;have hrj:ref= -1-(j:Int):=by omega
 subst hrj;rcases Nat.lt_or_ge j e with h1|h1
 ·left;refine⟨n,e,by omega,by omega,hn,he,by omega,?_,?_⟩
  ·rw[h5k,if_pos (mem_rng.2 (by omega))]
  ·have hm:(E.take e)[j]? =AU v:=i3g hv h1;unfold mkEnd onceE stt;simp only;rw[if_pos (AQ hm),at1_mem (h9x hE e) hm]
 ·have hnm:v∉E.take e:=h9b hE hv h1;have hlen:(E.take e).length=e:=by simp;omega
  by_cases h2:j=e
  ·left;subst h2;refine⟨n,j+1,by omega,by omega,hn,by omega,by omega,?_,?_⟩
   ·rw[h5k,if_neg (fun h=>by have:=mem_rng.1 h;omega),rng_succ]
   ·unfold mkEnd onceE stt;simp only;rw[if_neg hnm,at1_not hnm,hlen,h7r hv]
  ·right;constructor
   ·rintro⟨_,h3⟩;rw[h5k,if_neg (fun h=>by have:=mem_rng.1 h;omega)] at h3;have:=i1z h3;omega
   ·rintro⟨h3,_⟩;unfold mkEnd onceE stt at h3;simp only at h3;rw[if_neg hnm] at h3;exact h2 (h9q hE hv he h3)
theorem h9o (hE:E.Nodup)(hN:N.Nodup)(hflat: ∀b,b∈N-> ¬flatL b.kids)(hloose: ∀i b,N[i]? =AU b-> ∀k,k∈b.kids->okRef E k i):
 ∀(f:Nat) (ref:Int) (n e:Nat),n<=N.length->e<=E.length->ref<f->okRef E ref N.length->i7l E N n e ref (srch N f ref (rng n,rng e)) (frm E N f ref (stt E N n e))
 |0,ref,n,e,hn,he,hf,hr=>by
  have h0:ref<0:=by omega
  obtain⟨v,hv⟩: ∃v,E[(-1-ref).toNat]? =AU v:=⟨_,AO (hr.2 h0)⟩;rw[srch,frm,if_pos h0,if_pos h0,hv];exact h9l hE hn he h0 hv
 |f+1,ref,n,e,hn,he,hf,hr=>by
  by_cases h0:ref<0
  ·obtain⟨v,hv⟩: ∃v,E[(-1-ref).toNat]? =AU v:=⟨_,AO (hr.2 h0)⟩;rw[srch,frm,if_pos h0,if_pos h0,hv];exact h9l hE hn he h0 hv
  obtain⟨i,rfl⟩: ∃i:Nat,ref=i:=⟨ref.toNat,by omega⟩;have hi:i<N.length:=by have:=hr.1 (by omega);omega
  obtain⟨b,hb⟩: ∃b,N[i]? =AU b:=⟨_,AO hi⟩;rw[srch,frm,if_neg h0,if_neg h0];simp only[AD,hb];by_cases hin:i<n
  ·left;refine⟨n,e,by omega,by omega,hn,he,by omega,?_,?_⟩
   ·rw[if_pos (mem_rng.2 (by omega))]
   ·simp[stt,hin]
  rw[if_neg (fun h=>by have:=mem_rng.1 h;omega)];have hk:(stt E N n e).kn i=AR:=by simp[stt,hin]
  rw[hk];simp only;have key: ∀(l:List Int),(∀k,k∈l->okRef E k i)-> ∀(n e:Nat) (ks:List Int),n<=i->e<=E.length->
   (∃n' e',n<=n'/\e<=e'/\n'<=i/\e'<=E.length/\l.foldl (fun s k=>srch N f k s) (rng n,rng e)=(rng n',rng e')/\kidsF E N f l (stt E N n e,ks)=(stt E N n' e',ks++l))\/
   Bad E N (l.foldl (fun s k=>srch N f k s) (rng n,rng e)) (kidsF E N f l (stt E N n e,ks)).1 N.length E.length:=by
   intro l
   induction l with
   |nil=>intro _ n e ks hn he;exact .inl ⟨n,e,by omega,by omega,hn,he,rfl,by simp[kidsF]⟩
   |cons k l ih=>
    intro hl n e ks hn he;have hk:=hl k (by simp);have hkl:k<f:=by
     rcases AP k 0 with h1|h1
     ·omega
     ·have:=hk.1 h1;omega
    have hkn:okRef E k N.length:=⟨fun h1=>by have:=hk.1 h1;omega,hk.2⟩;rcases h9o hE hN hflat hloose f k n e (by omega) he hkl hkn with⟨n1,e1,a1,a2,a3,a4,a5,a6,a7⟩|hbad
    ·have hn1:n1<=i:=by
      rcases AP k 0 with h1|h1
      ·omega
      ·have:=hk.1 h1;omega
     have:=ih (fun k hk=>hl k (by simp[hk])) n1 e1 (ks++[k]) hn1 a4;simp only[List.foldl_cons,a6];rw[show kidsF E N f (k::l) (stt E N n e,ks)=kidsF E N f l (stt E N n1 e1,ks++[k]) from by simp[kidsF,a7]];rcases this with⟨n2,e2,b1,b2,b3,b4,b5,b6⟩|hbad
     ·exact .inl ⟨n2,e2,by omega,by omega,b3,b4,b5,by rw[b6];simp⟩
     ·exact .inr hbad
    ·right;have h1: ∀(l:List Int) (s:List Int×List Int),s.1<+:(l.foldl (fun s k=>srch N f k s) s).1/\s.2<+:(l.foldl (fun s k=>srch N f k s) s).2:=by
      intro l
      induction l with
      |nil=>intro s;exact⟨AB _,AB _⟩
      |cons k l ih=>intro s;have h1:=h9g N f k s;have h2:=ih (srch N f k s);exact⟨h1.1.trans h2.1,h1.2.trans h2.2⟩
     have h2:=h7p E N (i1e E N f) l ((frm E N f k (stt E N n e)).1,ks++[(frm E N f k (stt E N n e)).2]);exact hbad.mono E N (h1 l _).1 (h1 l _).2 h2.1 h2.2
  rcases key b.kids (hloose i b hb) n e [] (by omega) he with⟨n1,e1,a1,a2,a3,a4,a5,a6⟩|hbad
  ·have hfl: ¬flatL b.kids:=hflat b (AQ hb);have hnm:b∉N.take n1:=h9b hN hb a3;have hlen:(N.take n1).length=n1:=by simp;omega
   have e6:(b.kids.foldl (fun (p:Mk×List Int) k=>let q:=frm E N f k p.1;(q.1,p.2++[q.2])) (stt E N n e,[]))=(stt E N n1 e1,b.kids):=by rw[<-kidsF,a6];simp
   rw[a5,e6];simp only[mkNode,if_neg hfl];obtain⟨bv,bk⟩:=b;simp only[learn,stt,onceE_not hnm,at1_not hnm,hlen];by_cases h2:i=n1
   ·left;subst h2;refine⟨i+1,e1,by omega,by omega,by omega,a4,by omega,?_,?_⟩
    ·rw[rng_succ]
    ·simp only[stt];rw[h7r hb];congr 1;congr 1;funext j;by_cases e1:j=i
     ·subst e1;simp
     ·have:(j<i+1)=(j<i):=by simp;omega
      simp[e1,this]
   ·right;constructor
    ·rintro⟨h3,_⟩;have:=i1z h3;omega
    ·rintro⟨_,h3⟩;exact h2 (h9q hN hb (by omega) h3)
  ·right;have h2:=h6r (kidsF E N f b.kids (stt E N n e,[])).1 ⟨b.var,(kidsF E N f b.kids (stt E N n e,[])).2⟩;exact hbad.mono E N (AN _ _) (AB _) h2.1 h2.2
def h7b (s:Mk):Prop:=s.oe.Nodup/\s.on.Nodup/\ ∀b,b∈s.on-> ¬flatL b.kids
theorem nodup_onceE {α:Type}[DecidableEq α]{l:List α}(h:l.Nodup)(x:α):(onceE l x).Nodup:=by
 unfold onceE;split
 ·exact h
 ·rename_i hx;rw[AW];exact⟨h,by simp,fun a ha b hb=>by simp at hb;subst hb;rintro rfl;exact hx ha⟩
theorem h7b.mkEnd {s:Mk}(h:h7b s)(v:VaR):h7b (mkEnd s v).1:=⟨nodup_onceE h.1 v,h.2⟩
theorem h7b.mkNode {s:Mk}(h:h7b s)(b:NdR):h7b (mkNode s b).1:=by
 unfold Law.mkNode;split
 ·exact h
 ·rename_i hb;refine⟨h.1,nodup_onceE h.2.1 b,fun c hc=> ?_⟩;simp only[onceE] at hc;split at hc
  ·exact h.2.2 c hc
  ·simp at hc;rcases hc with hc|rfl
   ·exact h.2.2 c hc
   ·exact hb
theorem h7b.kidsF {f:Nat}(hf: ∀ref s,h7b s->h7b (frm E N f ref s).1): ∀(l:List Int) (p:Mk×List Int),h7b p.1->h7b (kidsF E N f l p).1:=by
 intro l
 induction l with
 |nil=>intro p h;exact h
 |cons k l ih=>intro p h;exact ih _ (hf k p.1 h)
theorem h7b.frm: ∀(f:Nat) (ref:Int) (s:Mk),h7b s->h7b (frm E N f ref s).1
 |0,ref,s,h=>by
  unfold Law.frm
  (repeat' split)<;>first|exact h.mkEnd _|exact h
 |f+1,ref,s,h=>by
  unfold Law.frm
  (repeat' split)<;>first|exact h.mkEnd _|exact h|skip
  rename_i b _;exact (h7b.kidsF (h7b.frm f) b.kids (s,[]) h).mkNode _
def isClean (E:List VaR)(N:List NdR)(root:Int):Prop:=
 let r:=frm E N (N.length+1) root ⟨[],[],fun _=>AR⟩
 r.1.oe=E/\r.1.on=N/\r.2=root
def isDia (E:List VaR)(N:List NdR)(root:Int):Prop:=
 E.Nodup/\(∀b,b∈N-> ¬flatL b.kids)/\N.Nodup/\srch N (N.length+1) root ([],[])=(rng N.length,rng E.length)
theorem clean_iff (hloose: ∀i b,N[i]? =AU b-> ∀k,k∈b.kids->okRef E k i){root:Int}(hroot:okRef E root N.length):isClean E N root↔isDia E N root:=by
 have main:E.Nodup->N.Nodup->(∀b,b∈N-> ¬flatL b.kids)->(isClean E N root↔srch N (N.length+1) root ([],[])=(rng N.length,rng E.length)):=by
  intro hE hN hflat;have hs:=h9o hE hN hflat hloose (N.length+1) root 0 0 (by omega) (by omega) (by rcases AP root 0 with h|h;omega;have:=hroot.1 h;omega) hroot;have e0:stt E N 0 0=⟨[],[],fun _=>AR⟩:=by simp[stt]
  rw[e0] at hs;have e1:(rng 0,rng 0)=(([],[]):List Int×List Int):=rfl;rw[e1] at hs;rcases hs with⟨n',e',_,_,h1,h2,_,h3,h4⟩|⟨h1,h2⟩
  ·unfold isClean;rw[h3,h4];simp only[stt];constructor
   ·rintro⟨a1,a2,_⟩;have b1:e'=E.length:=by have:=congrArg AX a1;simp at this;omega
    have b2:n'=N.length:=by have:=congrArg AX a2;simp at this;omega
    rw[b1,b2]
   ·intro h;have b1:n'=N.length:=by have:=congrArg (fun p=>p.1.length) h;simpa [rng,h3u] using this
    have b2:e'=E.length:=by have:=congrArg (fun p=>p.2.length) h;simpa [rng,h3u] using this
    rw[b1,b2];simp
  ·constructor
   ·intro h;exact absurd ⟨by rw[h.1];exact AB _,by rw[h.2.1];exact AB _⟩ h2
   ·intro h;exact absurd (by rw[h];exact⟨AB _,AB _⟩) h1
 constructor
 ·intro h;have hg:h7b (frm E N (N.length+1) root ⟨[],[],fun _=>AR⟩).1:=h7b.frm _ _ _ ⟨by simp,by simp,by simp⟩;obtain⟨a1,a2,a3⟩:=hg;rw[h.1] at a1;rw[h.2.1] at a2 a3;exact⟨a1,a3,a2,(main a1 a2 a3).1 h⟩
 ·rintro⟨a1,a3,a2,h⟩;exact (main a1 a2 a3).2 h
end
end Law
theorem h4u: ∀(m:Nat) (l:List Int),l.Nodup->(∀x,x∈l->0<=x/\x<m)->l.length<=m
 |0,l,_,h=>by
  cases l with
  |nil=>simp
  |cons x l=>have:=h x (by simp);omega
 |m+1,l,hn,h=>by
  by_cases hm:(m:Int)∈l
  ·have h1:=h4u m (l.erase (m:Int)) (hn.erase _) fun x hx=>by have h2:=(hn.mem_erase_iff).1 hx;have h3:=h x h2.2;have h4:=h2.1;omega
   rw[List.length_erase_of_mem hm] at h1;omega
  ·have h1:=h4u m l hn fun x hx=>by have h2:=h x hx;have h3:x≠m:=fun e=>hm (e▸hx);omega
   omega
namespace Law
def GoodS (nn ne:Nat)(s:List Int×List Int):Prop:=(s.1.Nodup/\ ∀x,x∈s.1->0<=x/\x<nn)/\s.2.Nodup/\ ∀x,x∈s.2->0<=x/\x<ne
theorem GoodS.len {nn ne:Nat}{s:List Int×List Int}(h:GoodS nn ne s):s.1.length<=nn/\s.2.length<=ne:=⟨h4u _ _ h.1.1 h.1.2,h4u _ _ h.2.1 h.2.2⟩
theorem GoodS.end {nn ne:Nat}{s:List Int×List Int}(h:GoodS nn ne s){x:Int}(hx:0<=x/\x<ne):GoodS nn ne (s.1,h5k s.2 x):=by
 refine⟨h.1,?_⟩;simp only[h5k];split
 ·exact h.2
 ·rename_i hm;refine⟨?_,fun y hy=> ?_⟩
  ·rw[AW];exact⟨h.2.1,by simp,fun a ha b hb=>by simp at hb;subst hb;rintro rfl;exact hm ha⟩
  ·simp at hy;rcases hy with hy|rfl
   ·exact h.2.2 y hy
   ·exact hx
theorem srch_good {E:List VaR}{N:List NdR}(hloose: ∀i b,N[i]? =AU b-> ∀k,k∈b.kids->okRef E k i):
 ∀(f:Nat) (ref:Int) (s:List Int×List Int),okRef E ref N.length->GoodS N.length E.length s->
  GoodS N.length E.length (srch N f ref s)/\ ∀x,x∈(srch N f ref s).1->x∈s.1\/(0<=ref/\x<=ref)
 |0,ref,s,hr,hs=>by
  unfold srch;split
  ·rename_i h0;have:=hr.2 h0;exact⟨hs.end (by omega),fun x hx=> .inl hx⟩
  ·exact⟨hs,fun x hx=> .inl hx⟩
 |f+1,ref,s,hr,hs=>by
  unfold srch;split
  ·rename_i h0;have:=hr.2 h0;exact⟨hs.end (by omega),fun x hx=> .inl hx⟩
  ·rename_i h0;split
   ·exact⟨hs,fun x hx=> .inl hx⟩
   ·rename_i hnm;split
    ·exact⟨hs,fun x hx=> .inl hx⟩
    ·rename_i b hb;have hi:=(AI.1 hb).1;have key: ∀(l:List Int),(∀k,k∈l->okRef E k ref.toNat)-> ∀(s:List Int×List Int),GoodS N.length E.length s->
      GoodS N.length E.length (l.foldl (fun s k=>srch N f k s) s)/\ ∀x,x∈(l.foldl (fun s k=>srch N f k s) s).1->x∈s.1\/x<ref:=by
      intro l
      induction l with
      |nil=>intro _ s hs;exact⟨hs,fun x hx=> .inl hx⟩
      |cons k l ih=>
       intro hl s hs;have hk:=hl k (by simp);have h1:=srch_good hloose f k s ⟨fun h=>by have:=hk.1 h;omega,hk.2⟩ hs;have h2:=ih (fun k hk=>hl k (by simp[hk])) _ h1.1;refine⟨h2.1,fun x hx=> ?_⟩;rcases h2.2 x hx with h3|h3
       ·rcases h1.2 x h3 with h4|⟨h4,h5⟩
        ·exact .inl h4
        ·have:=hk.1 h4;exact .inr (by omega)
       ·exact .inr h3
     have hk:=key b.kids (hloose _ b hb) s hs;refine⟨⟨⟨?_,fun x hx=> ?_⟩,hk.1.2⟩,fun x hx=> ?_⟩
     ·rw[AW];refine⟨hk.1.1.1,by simp,fun a ha c hc=> ?_⟩;simp at hc;subst hc;rintro rfl;rcases hk.2 a ha with h3|h3
      ·exact hnm h3
      ·omega
     ·simp at hx;rcases hx with hx|rfl
      ·exact hk.1.1.2 x hx
      ·omega
     ·simp at hx;rcases hx with hx|rfl
      ·rcases hk.2 x hx with h3|h3
       ·exact .inl h3
       ·exact .inr ⟨by omega,by omega⟩
      ·exact .inr ⟨by omega,by omega⟩
end Law
def DiR.nd (d:DiR)(i:Nat):NdR:=⟨d.var i,L (d.nk i) (d.kid i)⟩
def DiR.E (d:DiR):List VaR:=L d.ne d.en
def DiR.N (d:DiR):List NdR:=L d.nn d.nd
def h4k (ne:Nat)(ref below:Int):Prop:=(0<=ref->ref<below)/\(ref<0-> -1-ref<ne)
def h6m (d:DiR):Prop:= ∀i,i<d.nn-> ∀j,j<d.nk i->h4k d.ne (d.kid i j) i
theorem h9t {α:Type}{n:Nat}{g:Nat->α}{i:Nat}:(L n g)[i]? =if i<n then AU (g i) else AR:=by
 unfold L;by_cases h:i<n
 ·simp[h]
 ·simp[h]
theorem h6m.loose {d:DiR}(h:h6m d): ∀i b,(d.N)[i]? =AU b-> ∀k,k∈b.kids->Law.okRef d.E k i:=fun i b hb k hk=>by
 rw[DiR.N,h9t] at hb;split at hb
 ·rename_i hi;cases hb;obtain⟨j,hj,rfl⟩:=h6d.1 hk;have h1:=h i hi j hj;refine⟨h1.1,fun h0=> ?_⟩;have h2:=h1.2 h0;simp only[DiR.E,h3u];omega
 ·cases hb
theorem h4k.ok {d:DiR}{ref:Int}{n:Nat}(h:h4k d.ne ref n):Law.okRef d.E ref n:=⟨h.1,fun h0=>by
 have:=h.2 h0;simp only[DiR.E,h3u];omega⟩
theorem h4k.ok' {d:DiR}{ref:Int}(h:h4k d.ne ref d.nn):Law.okRef d.E ref d.N.length:=by rw[show d.N.length=d.nn from h3u _ _];exact h.ok
theorem h9e {N:List NdR}{f:Nat}{ref:Int}(h:ref<0)(s:List Int×List Int):Law.srch N f ref s=(s.1,h5k s.2 (-1-ref)):=by cases f<;>rw[Law.srch,if_pos h]
theorem h6z: ∀l:Nat,l<2->l∈[0,1]
 |0,_=>by simp
 |1,_=>by simp
 |n+2,h=>by omega
def i5q (l:List Int×List Int)(pg:List Nat)(v:AV)(h':List a0f):Prop:=
 pg=[0,1]/\ ∃n' gn' e' ge',l=(L n' gn',L e' ge')/\v= .tuple [.msl 0 1 AR n' AM,.msl 1 1 AR e' AM]/\h'=[arrI n' gn',arrI e' ge']
theorem i3x {n:Nat}{g:Nat->Int}{x:Int}:L (n+1) (fun j=>if j<n then g j else x)=L n g++[x]:=by
 rw[h7q];congr 1
 ·exact h4v fun j hj=>if_pos hj
 ·simp
theorem h6q (d:DiR)(hne:d.ne<=1000000)(ref:Int)(h0:ref<0)(hr: -1-ref<d.ne){n e:Nat}(gn ge:Nat->Int)(he:e<=1000000):
 a1h AH 126 [d.av,int ref,.msl 0 1 AR n AM,.msl 1 1 AR e AM] [arrI n gn,arrI e ge] (i5q (L n gn,h5k (L e ge) (-1-ref))):=by
 obtain⟨z,hz⟩: ∃z:Bool,z=AJ↔ ∃i,i<e/\ge i= -1-ref:=by classical exact⟨decide _,decide_eq_true_iff⟩
 have hh:=i3v he ge (-1-ref) z hz;have hlo: -1000001<=ref:=by omega
 clear hr;obtain⟨ns,sz,no,od,ne,en,nn,var,nk,kid,root⟩:=d;simp only at hne;refine h3w AC okP i6g rfl fun E Sg hb hS F hF=> ?_;simp only[Af,Ag] at hb;cbv;split
 rotate_left
 ·rename_i h;exfalso;subst hS;simp[AF] at h;omega
 cbv;refine a1g hS (by subst hS;exact b6g (by simp[AF];omega) (by simp[AF];omega)) ?_;refine a1g hS (by subst hS;simp[AF]) ?_;refine a0v hS (bool z) (by subst hS;exact hh) ?_;cases z
 ·have hnm: ¬(-1-ref)∈L e ge:=fun h=>AG (hz.2 (h6d.1 h));cbv;refine a1g hS (by subst hS;exact b6g (by simp[AF];omega) (by simp[AF];omega)) ?_;refine a1g hS trivial ?_;refine a1g hS (by subst hS;simp[AF];omega) ?_;refine⟨[0,1],fun l h1 _=>h6z l h1,hF (h1:=[arrI n gn,arrI (e+1) (fun j=>if j<e then ge j else-1-ref)]) (.cons (.refl _) (.cons (a9v.arrI (by subst hS;rfl) fun j hj=> ?_) (.nil _))) (v0:= .tuple [.msl 0 1 AR n AM,.msl 1 1 AR (e+1) AM]) (by subst hS;exact AA _) (by simp) (.inl ⟨rfl,rfl⟩) ⟨rfl,n,gn,e+1,_,?_,rfl,rfl⟩⟩
  ·subst hS;simp only[AF] at hj⊢;split
   ·rfl
   ·have:j-e=0:=by omega
    rw[this];rfl
  ·rw[i3x,h5k,if_neg hnm]
 ·have hnm:(-1-ref)∈L e ge:=h6d.2 (hz.1 rfl);cbv;refine⟨[0,1],fun l h1 _=>h6z l h1,hF (h1:=[arrI n gn,arrI e ge]) (.cons (.refl _) (.cons (.refl _) (.nil _))) (AA _) (by simp) (.inl ⟨rfl,rfl⟩) ⟨rfl,n,gn,e,ge,?_,rfl,rfl⟩⟩;rw[h5k,if_pos hnm]
theorem i1g (d:DiR)(hnn:d.nn<=1000000)(hne:d.ne<=1000000)(hnk: ∀i,i<d.nn->d.nk i<=1000000)(hko:h6m d): ∀(f:Nat) (ref:Int) (n e:Nat) (gn ge:Nat->Int),ref<f->h4k d.ne ref d.nn->
 Law.GoodS d.nn d.ne (L n gn,L e ge)->a1h AH 126 [d.av,int ref,.msl 0 1 AR n AM,.msl 1 1 AR e AM] [arrI n gn,arrI e ge] (i5q (Law.srch d.N f ref (L n gn,L e ge))):=by
 intro f
 induction f with
 |zero=>
  intro ref n e gn ge hf hr hg;have h0:ref<0:=by omega
  have he:=hg.len.2;rw[h3u] at he;rw[h9e h0];exact h6q d hne ref h0 (hr.2 h0) gn ge (by omega)
 |succ f ih=>
  intro ref n e gn ge hf hr hg;by_cases h0:ref<0
  ·have he:=hg.len.2;rw[h3u] at he;rw[h9e h0];exact h6q d hne ref h0 (hr.2 h0) gn ge (by omega)
  obtain⟨i,rfl⟩: ∃i:Nat,ref=i:=⟨ref.toNat,by omega⟩;have hi:i<d.nn:=by have:=hr.1 (by omega);omega
  have hlen:=hg.len;rw[h3u,h3u] at hlen;obtain⟨z,hz⟩: ∃z:Bool,z=AJ↔ ∃j,j<n/\gn j=(i:Int):=by classical exact⟨decide _,decide_eq_true_iff⟩
  have hh:=i3v (n:=n) (by omega) gn i z hz;have hgood:=Law.srch_good (E:=d.E) (N:=d.N) hko.loose;have hEl:d.E.length=d.ne:=h3u _ _;have hNl:d.N.length=d.nn:=h3u _ _;rw[hEl,hNl] at hgood;have hki:=hko i hi;have hnki:=hnk i hi;have hsr:Law.srch d.N (f+1) i (L n gn,L e ge)=if (i:Int)∈L n gn then (L n gn,L e ge) else
   (((L (d.nk i) (d.kid i)).foldl (fun s k=>Law.srch d.N f k s) (L n gn,L e ge)).1++[(i:Int)],((L (d.nk i) (d.kid i)).foldl (fun s k=>Law.srch d.N f k s) (L n gn,L e ge)).2):=by
   rw[Law.srch,if_neg h0];have hb:d.N[(i:Int).toNat]? =AU (d.nd i):=by rw[AD,DiR.N,h9t,if_pos hi]
   rw[hb];rfl
  rw[hsr];obtain⟨N,hN⟩: ∃N,N=d.N:=⟨_,rfl⟩;rw[<-hN] at ih hgood⊢;clear hsr hN hEl hNl;have hkr: ∀j,j<d.nk i->d.kid i j<f/\h4k d.ne (d.kid i j) d.nn:=fun j hj=>by
   have h1:=hki j hj;refine⟨?_,fun h2=> ?_,h1.2⟩
   ·rcases AP (d.kid i j) 0 with h2|h2
    ·omega
    ·have:=h1.1 h2;omega
   ·have:=h1.1 h2;omega
  have hok: ∀j,j<d.nk i->Law.okRef d.E (d.kid i j) d.nn:=fun j hj=>(hkr j hj).2.ok;have hnn':n+1<=2000000:=by omega
  obtain⟨ns,sz,no,od,ne,en,nn,var,nk,kid,root⟩:=d;simp only at hi hnki hkr hok ih hgood hg hnn hne hlen;refine h3w AC okP i6g rfl fun E Sg hb hS F hF=> ?_;simp only[Af,Ag] at hb;have ett: ∀z,Sg.toNat z=z.toNat:=by subst hS;exact fun _=>rfl
  cbv;split
  ·rename_i h;exfalso;subst hS;simp[AF] at h;omega
  cbv;refine a1g hS (by subst hS;simp[AF]) ?_;refine a0v hS (bool z) (by subst hS;exact hh) ?_;cases z
  rotate_left
  ·have hnm:(i:Int)∈L n gn:=h6d.2 (hz.1 rfl);cbv;refine⟨[0,1],fun l h1 _=>h6z l h1,hF (h1:=[arrI n gn,arrI e ge]) (.cons (.refl _) (.cons (.refl _) (.nil _))) (AA _) (by simp) (.inl ⟨rfl,rfl⟩) ⟨rfl,n,gn,e,ge,?_,rfl,rfl⟩⟩;rw[if_pos hnm]
  have hnm: ¬(i:Int)∈L n gn:=fun h=>AG (hz.2 (h6d.1 h));cbv;refine a1g hS (by subst hS;exact⟨Int.natCast_nonneg i,Ab.2 hi⟩) ?_;simp only[Ac,ett,AE,AD];refine a7r AC okP hS (σ:=Nat×Nat×(Nat->Int)×Nat×(Nat->Int)) (fun s=>s.1<=nk i/\(L s.2.1 s.2.2.1,L s.2.2.2.1 s.2.2.2.2)=(L s.1 (kid i)).foldl (fun s k=>Law.srch N f k s) (L n gn,L e ge)/\Law.GoodS nn ne (L s.2.1 s.2.2.1,L s.2.2.2.1 s.2.2.2.2)) (fun s=>nk i-s.1)
   (fun s=>⟨b5r [(1,int i),(2,.msl 0 1 AR s.2.1 AM),(3,.msl 1 1 AR s.2.2.2.1 AM),(4,.ptr 2 0),(10,.ptr 3 0),(11,int s.1)] 60,[arrI s.2.1 s.2.2.1,arrI s.2.2.2.1 s.2.2.2.2,.var [isl ns sz,isl no od,vsl ne en,bsl nn var nk kid,int root],.var [int (var i),isl (nk i) (kid i)]],[0,1]⟩) (0,n,gn,e,ge) ⟨by simp,rfl,hg⟩ ?_ ?_
  ·exact a4c rfl ⟨AA _,AA _,AA _,AA _,AA _,a6c rfl,trivial⟩ (.cons (.refl _) (.cons (.refl _) (.cons (.refl _) (.cons (.refl _) (.nil _))))) (by simp;omega) (.inr rfl) rfl
  ·rintro⟨k,n1,g1,e1,h1⟩ ⟨hk1,hk2,hk3⟩ M hM;simp only at hk1 hk2 hk3 hM;cbv;split
   ·have hlt:k<nk i:=by subst hS;simp[AF] at*;omega
    have hkk:=hkr k hlt;have hg':=(hgood f (kid i k) (L n1 g1,L e1 h1) (hok k hlt) hk3).1;have ihk:=ih (kid i k) n1 e1 g1 h1 hkk.1 hkk.2 hk3;cbv;refine a1g hS (by subst hS;simp[AF];omega) ?_;simp only[Ac,ett,AE,AD];refine h3v hS (a1h.frame ihk [0,1] rfl rfl ⟨a9v.refl _,a9v.refl _,trivial⟩) ?_;rintro pg v H' ⟨pg0,v0,h0,⟨rfl,n2,g2,e2,h2,q1,rfl,rfl⟩,rfl,rfl,rfl⟩;rw[q1] at hg';cbv;refine a1g hS (by subst hS;exact b6g (by simp[AF];omega) (by simp[AF];omega)) ?_;refine hM (k+1,n2,g2,e2,h2) _ ⟨by simp;omega,?_,hg'⟩ (by simp;omega) (a4c rfl ⟨AA _,AA _,AA _,AA _,AA _,b0a (by subst hS;simp[AF]),trivial⟩ (.cons (.refl _) (.cons (.refl _) (.cons (.refl _) (.cons (.refl _) (.nil _))))) (by simp;omega) (.inr rfl) rfl);rw[h7q,List.foldl_append,<-hk2];exact q1.symm
   ·have hkn:k=nk i:=by subst hS;simp[AF] at*;omega
    subst hkn;have hl3:=hk3.len;rw[h3u,h3u] at hl3;cbv;refine a1g hS trivial ?_;refine a1g hS (by subst hS;simp[AF];omega) ?_;refine⟨[0,1],fun l h1 _=>h6z l h1,hF (h1:=[arrI (n1+1) (fun j=>if j<n1 then g1 j else (i:Int)),arrI e1 h1]) (.cons (a9v.arrI (by subst hS;rfl) fun j hj=> ?_) (.cons (.refl _) (.nil _))) (v0:= .tuple [.msl 0 1 AR (n1+1) AM,.msl 1 1 AR e1 AM]) (by subst hS;exact AA _) (by simp) (.inl ⟨rfl,rfl⟩) ⟨rfl,n1+1,_,e1,h1,?_,rfl,rfl⟩⟩
    ·subst hS;simp only[AF] at hj⊢;split
     ·rfl
     ·have:j-n1=0:=by omega
      rw[this];rfl
    ·rw[if_neg hnm,<-hk2,i3x]
def i7n (d:DiR)(i:Nat):Prop:=((0<=d.var i/\d.var i<=(d.ns:Int)-1)/\(d.nk i:Int)=d.sz (d.var i).toNat)/\ ∀j,j<d.nk i->isRef d (d.kid i j) i/\h4t d i<h4t d (d.kid i j)
def h3x (d:DiR):Prop:=(∀i,i<d.ne->a1i (d.en i))/\(∀i,i<d.nn->i7n d i)/\isRef d d.root d.nn
structure DiR.fit (d:DiR):Prop where
 ns:d.ns<=1000000
 no:d.no<=1000000
 ne:d.ne<=1000000
 nn:d.nn<=1000000
 nk: ∀i,i<d.nn->d.nk i<=1000000
 kid: ∀i,i<d.nn-> ∀j,j<d.nk i->c5t (d.kid i j)
 root:c5t d.root
theorem h4g {d:DiR}{ref:Int}{n:Nat}(h:isRef d ref n):h4k d.ne ref n:=by
 unfold isRef at h;refine⟨fun h0=> ?_,fun h0=> ?_⟩
 ·rw[if_pos h0] at h;exact h
 ·rw[if_neg (by omega)] at h;omega
theorem h3x.kids {d:DiR}(h:h3x d):h6m d:=fun i hi j hj=>h4g ((h.2.1 i hi).2 j hj).1
theorem i3t {v:Int}{n:Nat}(h:0<=v/\v<=(n:Int)-1):0<=v/\v<(n:Int):=⟨h.1,by omega⟩
theorem i4d (od:Nat->Int)(v:Int): ∀k i,pos od v k i<=i+k
 |0,i=>by rw[pos];omega
 |k+1,i=>by
  rw[pos];split
  ·omega
  ·have:=i4d od v k (i+1);omega
theorem h9y (d:DiR)(hf:d.fit)(r:Bool)(hr:r=AJ↔h3x d):a0j AH AJ 125 [d.av] (bool r):=by
 obtain⟨f1,f2,f3,f4,f5,f6,f7⟩:=hf;have hcell:=fun v r h=>i0j v r h;have href:=fun ref below hw r h=>i3k d ref below f3 hw r h;have hrank:=fun ref h r e=>i4l d ref f2 h r e;simp only[h3x,i7n] at hr;obtain⟨D,hD⟩: ∃D,D=d:=⟨_,rfl⟩;rw[<-hD] at href hrank;have hDe: ∀ref below,isRef D ref below=isRef d ref below:=fun _ _=>by rw[hD]
 have hDr: ∀ref,h4t D ref=h4t d ref:=fun _=>by rw[hD]
 obtain⟨R,hR⟩: ∃R:Int->Int->Prop,R=fun ref below=>isRef d ref below:=⟨_,rfl⟩;obtain⟨K,hK⟩: ∃K:Int->Nat,K=fun ref=>h4t d ref:=⟨_,rfl⟩;have hrR: ∀ref below,isRef d ref below=R ref below:=fun _ _=>by rw[hR]
 have hrK: ∀ref,h4t d ref=K ref:=fun _=>by rw[hK]
 have hKb: ∀ref,K ref<=d.no:=fun ref=>by
  rw[hK];simp only[h4t];split
  ·exact Nat.le_trans (i4d _ _ _ _) (by omega)
  ·exact Nat.le_refl _
 simp only[hDe,hDr,hrR,hrK] at href hrank hr;have hRlt: ∀ref below,R ref below->0<=ref->ref<below:=fun ref below h h0=>by rw[hR] at h;simp only[isRef,if_pos h0] at h;exact h
 clear hR hK hrR hrK hDe hDr;obtain⟨ns,sz,no,od,ne,en,nn,var,nk,kid,root⟩:=d;obtain⟨ef,en',hen⟩: ∃ef en',en=fun i=>VaR.mk (ef i) (en' i):=⟨fun i=>(en i).fault,fun i=>(en i).n,rfl⟩;subst hen;simp only at f1 f2 f3 f4 f5 f6 f7 hr hrank hKb;simp only[c5t] at f6 f7 href;rw[hD] at href hrank;clear hD;refine a1e (a0k AC okP i6t _ rfl fun E Sg hb hS=> ?_);have ett: ∀z,Sg.toNat z=z.toNat:=by subst hS;exact fun _=>rfl
 cbv;refine a7r AC okP hS (fun i=>i<=ne/\ ∀j,j<i->a1i ⟨ef j,en' j⟩) (fun i=>ne-i)
  (fun i=>⟨b5r [(1,.ptr 0 0),(3,int i)] 89,[.var [isl ns sz,isl no od,vsl ne (fun i=>⟨ef i,en' i⟩),bsl nn var nk kid,int root]],[]⟩) 0 ⟨by omega,by omega⟩ ?_ ?_
 ·exact a4c rfl ⟨AA _,a6c rfl,trivial⟩ (.cons (.refl _) (.nil _)) (by simp;omega) (.inr rfl) rfl
 ·intro i hi N hN;obtain⟨z,hz⟩: ∃z:Bool,z=AJ↔a1i ⟨ef i,en' i⟩:=by classical exact⟨decide _,decide_eq_true_iff⟩
  have hc:=hcell ⟨ef i,en' i⟩ z hz;cbv;split
  ·have hlt:i<ne:=by subst hS;simp[AF] at*;omega
   cbv;refine a1g hS (by subst hS;simp[AF];omega) ?_;simp only[Ac,ett,AE,AD];refine a0v hS (bool z) (by subst hS;exact hc) ?_;cases z
   ·cbv;exact e8z hr fun h=>AG (hz.2 (h.1 i hlt))
   ·cbv;refine a1g hS (by subst hS;exact b6g (by simp[AF];omega) (by simp[AF];omega)) ?_;refine hN (i+1) _ ⟨by omega,fun j hj=> ?_⟩ (by omega) (a4c rfl ⟨AA _,b0a (by subst hS;simp[AF]),trivial⟩ (.cons (.refl _) (.nil _)) (by simp;omega) (.inr rfl) rfl);by_cases e:j=i
    ·subst e;exact hz.1 rfl
    ·exact hi.2 j (by omega)
  ·have hE: ∀j,j<ne->a1i ⟨ef j,en' j⟩:=by subst hS;simp[AF] at*;exact fun j hj=>hi.2 j (by omega)
   clear hi hc hz;cbv;refine a7r AC okP hS (fun i=>i<=nn/\ ∀i',i'<i->((0<=var i'/\var i'<=(ns:Int)-1)/\(nk i':Int)=sz (var i').toNat)/\ ∀j,j<nk i'->R (kid i' j) i'/\K i'<K (kid i' j)) (fun i=>nn-i)
    (fun i=>⟨b5r [(1,.ptr 0 0),(4,int i)] 89,[.var [isl ns sz,isl no od,vsl ne (fun i=>⟨ef i,en' i⟩),bsl nn var nk kid,int root]],[]⟩) 0 ⟨by omega,by omega⟩ ?_ ?_
   ·exact a4c rfl ⟨AA _,a6c rfl,trivial⟩ (.cons (.refl _) (.nil _)) (by simp;omega) (.inr rfl) rfl
   ·intro i hi N2 hN2;obtain⟨z,hz⟩: ∃z:Bool,z=AJ↔0<=var i/\var i<=(ns:Int)-1:=by classical exact⟨decide _,decide_eq_true_iff⟩
    have hin:=i5t (var i) 0 ((ns:Int)-1) z hz;cbv;split
    ·have hlt:i<nn:=by subst hS;simp[AF] at*;omega
     cbv;refine a1g hS (by subst hS;simp[AF];omega) ?_;simp only[Ac,ett,AE,AD];refine a1g hS (by subst hS;exact b6g (by simp[AF];omega) (by simp[AF];omega)) ?_;refine a0v hS (bool z) (by subst hS;exact hin) ?_;cases z
     ·cbv;exact e8z hr fun h=>AG (hz.2 (h.2.1 i hlt).1.1)
     ·have hv:=hz.1 rfl;cbv;refine a1g hS (by subst hS;exact i3t hv) ?_;simp only[Ac,ett,AE,AD];split
      ·have hne:(nk i:Int)≠sz (var i).toNat:=by subst hS;simp[AF] at*;assumption
       cbv;exact e8z hr fun h=>hne (h.2.1 i hlt).1.2
      ·have heq:(nk i:Int)=sz (var i).toNat:=by subst hS;simp[AF] at*;assumption
       have hni:=f5 i hlt;cbv;refine a7r AC okP hS (fun k=>k<=nk i/\ ∀j,j<k->R (kid i j) i/\K i<K (kid i j)) (fun k=>nk i-k)
        (fun k=>⟨b5r [(1,.ptr 0 0),(4,int i),(5,.ptr 1 0),(6,int k)] 89,[.var [isl ns sz,isl no od,vsl ne (fun i=>⟨ef i,en' i⟩),bsl nn var nk kid,int root],.var [int (var i),isl (nk i) (kid i)]],[]⟩) 0 ⟨by omega,by omega⟩ ?_ ?_
       ·exact a4c rfl ⟨AA _,AA _,AA _,a6c rfl,trivial⟩ (.cons (.refl _) (.cons (.refl _) (.nil _))) (by simp;omega) (.inr rfl) rfl
       ·intro k hk N3 hN3;obtain⟨z2,hz2⟩: ∃z:Bool,z=AJ↔R (kid i k) i:=by classical exact⟨decide _,decide_eq_true_iff⟩
        cbv;split
        ·have hlk:k<nk i:=by subst hS;simp[AF] at*;omega
         have hrf:=href (kid i k) i (f6 i hlt k hlk) z2 hz2;cbv;refine a1g hS (by subst hS;simp[AF];omega) ?_;simp only[Ac,ett,AE,AD];refine a0v hS (bool z2) (by subst hS;exact hrf) ?_;cases z2
         ·cbv;exact e8z hr fun h=>AG (hz2.2 ((h.2.1 i hlt).2 k hlk).1)
         ·have hRk:=hz2.1 rfl;have hk1:=hrank (kid i k) (fun h0=>Int.lt_trans (hRlt _ _ hRk h0) (Ab.2 hlt)) _ rfl;have hk2:=hrank i (fun h0=>Ab.2 hlt) _ rfl;cbv;refine a1g hS (by subst hS;simp[AF];omega) ?_;simp only[Ac,ett,AE,AD];refine a0v hS _ hk1 ?_;cbv;refine a1g hS (by subst hS;simp[AF]) ?_;refine a0v hS _ hk2 ?_;cbv;split
          ·have hle:K (kid i k)<=K i:=by subst hS;simp[AF] at*;omega
           cbv;exact e8z hr fun h=>by have:=((h.2.1 i hlt).2 k hlk).2;omega
          ·have hle:K i<K (kid i k):=by subst hS;simp[AF] at*;omega
           cbv;refine a1g hS (by subst hS;exact b6g (by simp[AF];omega) (by simp[AF];omega)) ?_;refine hN3 (k+1) _ ⟨by omega,fun j hj=> ?_⟩ (by omega) (a4c rfl ⟨AA _,AA _,AA _,b0a (by subst hS;simp[AF]),trivial⟩ (.cons (.refl _) (.cons (.refl _) (.nil _))) (by simp;omega) (.inr rfl) rfl);by_cases e:j=k
           ·subst e;exact⟨hRk,hle⟩
           ·exact hk.2 j (by omega)
        ·have hkn: ∀j,j<nk i->R (kid i j) i/\K i<K (kid i j):=by subst hS;simp[AF] at*;exact fun j hj=>hk.2 j (by omega)
         cbv;refine a1g hS (by subst hS;exact b6g (by simp[AF];omega) (by simp[AF];omega)) ?_;refine hN2 (i+1) _ ⟨by omega,fun j hj=> ?_⟩ (by omega) (a4c rfl ⟨AA _,b0a (by subst hS;simp[AF]),trivial⟩ (.cons (.refl _) (.nil _)) (by simp;omega) (.inl ⟨rfl,rfl⟩) rfl);by_cases e:j=i
         ·subst e;exact⟨⟨hv,heq⟩,hkn⟩
         ·exact hi.2 j (by omega)
    ·have hall: ∀i',i'<nn->((0<=var i'/\var i'<=(ns:Int)-1)/\(nk i':Int)=sz (var i').toNat)/\ ∀j,j<nk i'->R (kid i' j) i'/\K i'<K (kid i' j):=by
      have:nn<=i:=by subst hS;simp[AF] at*;omega
      exact fun j hj=>hi.2 j (by omega)
     obtain⟨z2,hz2⟩: ∃z:Bool,z=AJ↔R root nn:=by classical exact⟨decide _,decide_eq_true_iff⟩
     have hrf:=href root nn f7 z2 hz2;cbv;refine a0v hS (bool z2) (by subst hS;exact hrf) ?_;cbv;refine a0s ?_;cases r
     ·cases z2
      ·rfl
      ·exact absurd (hr.2 ⟨hE,hall,hz2.1 rfl⟩) (by simp)
     ·exact hz2.2 (hr.1 rfl).2.2
theorem h7o (n m:Nat)(g h:Nat->Int)(hn:n<=1000000)(r:Bool)(hr:r=AJ↔L n g=L m h):a0j AH AJ 33 [isl n g,isl m h] (bool r):=by
 have h1:=i5f n m g h hn;have:decide (n=m/\ ∀i,i<n->g i=h i)=r:=by
  have e:(n=m/\ ∀i,i<n->g i=h i)↔L n g=L m h:=by
   constructor
   ·rintro⟨rfl,hh⟩;exact h4v hh
   ·intro e;have el:n=m:=by simpa [h3u] using congrArg AX e
    refine⟨el,fun j hj=> ?_⟩;have:=congrArg (fun l=>l[j]?) e;simpa [L,hj,show j<m by omega] using this
  cases r
  ·exact decide_eq_false fun hh=>AG (hr.2 (e.1 hh))
  ·exact decide_eq_true (e.2 (hr.1 rfl))
 rw[this] at h1;exact a1e h1
def h5e (d:DiR):Prop:=(∀i,i<d.ne-> ∀k,k<i->d.en k≠d.en i)/\
 (∀i,i<d.nn-> ¬(∀j,j<d.nk i->d.kid i j=d.kid i 0)/\ ∀k,k<i-> ¬(d.var k=d.var i/\L (d.nk k) (d.kid k)=L (d.nk i) (d.kid i)))/\
 Law.srch d.N (d.nn+1) d.root ([],[])=(Law.rng d.nn,Law.rng d.ne)
theorem h8x {α:Type}{n:Nat}{g:Nat->α}:(L n g).Nodup↔ ∀i,i<n-> ∀k,k<i->g k≠g i:=by
 unfold List.Nodup;rw[AK];simp only[h3u];constructor
 ·intro h i hi k hk;have:=h k i (by omega) hi hk;simpa [L] using this
 ·intro h k i hk hi hki;have:=h i hi k hki;simpa [L] using this
theorem i1r {n:Nat}(hn:1<=n){g:Nat->Int}:Law.flatL (L n g)↔ ∀j,j<n->g j=g 0:=by
 obtain⟨m,rfl⟩: ∃m,n=m+1:=⟨n-1,by omega⟩;have h0:(L (m+1) g).headD 0=g 0:=by simp[L,List.range_succ_eq_map]
 unfold Law.flatL;rw[h0];constructor
 ·intro h j hj;exact h _ (h6d.2 ⟨j,hj,rfl⟩)
 ·rintro h k hk;obtain⟨j,hj,rfl⟩:=h6d.1 hk;exact h j hj
theorem i0k {d:DiR}(hk: ∀i,i<d.nn->1<=d.nk i):Law.isDia d.E d.N d.root↔h5e d:=by
 have hEl:d.E.length=d.ne:=h3u _ _;have hNl:d.N.length=d.nn:=h3u _ _;unfold Law.isDia h5e;rw[hEl,hNl];have h1:d.E.Nodup↔ ∀i,i<d.ne-> ∀k,k<i->d.en k≠d.en i:=h8x;have h2:d.N.Nodup↔ ∀i,i<d.nn-> ∀k,k<i-> ¬(d.var k=d.var i/\L (d.nk k) (d.kid k)=L (d.nk i) (d.kid i)):=by
  rw[DiR.N,h8x];constructor
  ·intro h i hi k hki e;exact h i hi k hki (by simp only[DiR.nd];rw[e.1,e.2])
  ·intro h i hi k hki e;simp only[DiR.nd] at e;injection e with e1 e2
   exact h i hi k hki ⟨e1,e2⟩
 have h3:(∀b,b∈d.N-> ¬Law.flatL b.kids)↔ ∀i,i<d.nn-> ¬(∀j,j<d.nk i->d.kid i j=d.kid i 0):=by
  constructor
  ·intro h i hi e;exact h (d.nd i) (h6d.2 ⟨i,hi,rfl⟩) ((i1r (hk i hi)).2 e)
  ·intro h b hb;obtain⟨i,hi,rfl⟩:=h6d.1 hb;exact fun e=>h i hi ((i1r (hk i hi)).1 e)
 rw[h1,h2,h3];constructor
 ·rintro⟨a,b,c,e⟩;exact⟨a,fun i hi=>⟨b i hi,c i hi⟩,e⟩
 ·rintro⟨a,b,e⟩;exact⟨a,fun i hi=>(b i hi).1,fun i hi=>(b i hi).2,e⟩
theorem i0d {n m:Nat}{g:Nat->Int}:((∀i,i<n->g i=i)/\(n:Int)=m)↔L n g=Law.rng m:=by
 constructor
 ·rintro⟨h,e⟩;have:n=m:=by omega
  subst this;exact h4v h
 ·intro e;have el:n=m:=by simpa [h3u,Law.rng] using congrArg AX e
  subst el;refine⟨fun i hi=> ?_,rfl⟩;have:=congrArg (fun l=>l[i]?) e;simpa [L,Law.rng,hi] using this
theorem VaR.eq_iff {f n f' n':Int}:(VaR.mk f n=VaR.mk f' n')↔f=f'/\n=n':=by
 constructor
 ·intro h;injection h with a b;exact⟨a,b⟩
 ·rintro⟨rfl,rfl⟩;rfl
theorem h8u (d:DiR)(hf:d.fit)(hko:h6m d)(hro:h4k d.ne d.root d.nn)(hk1: ∀i,i<d.nn->1<=d.nk i)(r:Bool)(hr:r=AJ↔h5e d):a0j AH AJ 91 [d.av] (bool r):=by
 obtain⟨f1,f2,f3,f4,f5,f6,f7⟩:=hf;have hsrch:=i1g d f4 f3 f5 hko (d.nn+1) d.root 0 0 (fun _=>0) (fun _=>0) (by
  rcases AP d.root 0 with h|h
  ·omega
  ·have:=hro.1 h;omega) hro (by simp[Law.GoodS,L])
 have hgd:=(Law.srch_good hko.loose (d.nn+1) d.root ([],[]) hro.ok' (by simp[Law.GoodS])).1;simp only[h5e] at hr;obtain⟨s,hs⟩: ∃s,s=Law.srch d.N (d.nn+1) d.root ([],[]):=⟨_,rfl⟩;rw[show (L 0 fun _=>(0:Int))=[] from rfl,<-hs] at hsrch;rw[<-hs] at hr hgd;have hlen:=hgd.len;rw[show d.N.length=d.nn from h3u _ _,show d.E.length=d.ne from h3u _ _] at hlen;clear hs hgd;obtain⟨ns,sz,no,od,ne,en,nn,var,nk,kid,root⟩:=d;obtain⟨ef,en',hen⟩: ∃ef en',en=fun i=>VaR.mk (ef i) (en' i):=⟨fun i=>(en i).fault,fun i=>(en i).n,rfl⟩;subst hen;simp only at f1 f2 f3 f4 f5 f6 f7 hr hk1 hlen;simp only[VaR.eq_iff,ne_eq] at hr;refine a1e (a0k AC okP i9t _ rfl fun E Sg hb hS=> ?_);have ett: ∀z,Sg.toNat z=z.toNat:=by subst hS;exact fun _=>rfl
 cbv;refine a7r AC okP hS (fun i=>i<=ne/\ ∀j,j<i-> ∀k,k<j-> ¬(ef k=ef j/\en' k=en' j)) (fun i=>ne-i)
  (fun i=>⟨b5r [(1,.ptr 0 0),(3,int i)] 97,[.var [isl ns sz,isl no od,vsl ne (fun i=>⟨ef i,en' i⟩),bsl nn var nk kid,int root]],[]⟩) 0 ⟨by omega,by omega⟩ ?_ ?_
 ·exact a4c rfl ⟨AA _,a6c rfl,trivial⟩ (.cons (.refl _) (.nil _)) (by simp;omega) (.inr rfl) rfl
 ·intro i hi N hN;cbv;split
  ·have hlt:i<ne:=by subst hS;simp[AF] at*;omega
   cbv;refine a7r AC okP hS (fun k=>k<=i/\ ∀j,j<k-> ¬(ef j=ef i/\en' j=en' i)) (fun k=>i-k)
    (fun k=>⟨b5r [(1,.ptr 0 0),(3,int i),(4,int k)] 97,[.var [isl ns sz,isl no od,vsl ne (fun i=>⟨ef i,en' i⟩),bsl nn var nk kid,int root]],[]⟩) 0 ⟨by omega,by omega⟩ ?_ ?_
   ·exact a4c rfl ⟨AA _,AA _,a6c rfl,trivial⟩ (.cons (.refl _) (.nil _)) (by simp;omega) (.inr rfl) rfl
   ·intro k hk N2 hN2;cbv;split
    ·have hlk:k<i:=by subst hS;simp[AF] at*;omega
     cbv;refine a1g hS (by subst hS;simp[AF];omega) ?_;refine a1g hS (by subst hS;simp[AF];omega) ?_;simp only[Ac,ett,AE,AD];split
     ·have he:ef k=ef i/\en' k=en' i:=by subst hS;simp[AF] at*;assumption
      cbv;exact e8z hr fun h=>h.1 i hlt k hlk he
     ·have he: ¬(ef k=ef i/\en' k=en' i):=by subst hS;simp[AF] at*;assumption
      cbv;refine a1g hS (by subst hS;exact b6g (by simp[AF];omega) (by simp[AF];omega)) ?_;refine hN2 (k+1) _ ⟨by omega,fun j hj=> ?_⟩ (by omega) (a4c rfl ⟨AA _,AA _,b0a (by subst hS;simp[AF]),trivial⟩ (.cons (.refl _) (.nil _)) (by simp;omega) (.inr rfl) rfl);by_cases e:j=k
      ·subst e;exact he
      ·exact hk.2 j (by omega)
    ·have hki: ∀j,j<i-> ¬(ef j=ef i/\en' j=en' i):=by
      have:i<=k:=by subst hS;simp[AF] at*;omega
      exact fun j hj=>hk.2 j (by omega)
     cbv;refine a1g hS (by subst hS;exact b6g (by simp[AF];omega) (by simp[AF];omega)) ?_;refine hN (i+1) _ ⟨by omega,fun j hj=> ?_⟩ (by omega) (a4c rfl ⟨AA _,b0a (by subst hS;simp[AF]),trivial⟩ (.cons (.refl _) (.nil _)) (by simp;omega) (.inr rfl) rfl);by_cases e:j=i
     ·subst e;exact hki
     ·exact hi.2 j (by omega)
  ·have hE: ∀j,j<ne-> ∀k,k<j-> ¬(ef k=ef j/\en' k=en' j):=by
    have:ne<=i:=by subst hS;simp[AF] at*;omega
    exact fun j hj=>hi.2 j (by omega)
   clear hi;cbv;refine a7r AC okP hS (fun i=>i<=nn/\ ∀i',i'<i-> ¬(∀j,j<nk i'->kid i' j=kid i' 0)/\ ∀k,k<i'-> ¬(var k=var i'/\L (nk k) (kid k)=L (nk i') (kid i'))) (fun i=>nn-i)
    (fun i=>⟨b5r [(1,.ptr 0 0),(5,int i)] 97,[.var [isl ns sz,isl no od,vsl ne (fun i=>⟨ef i,en' i⟩),bsl nn var nk kid,int root]],[]⟩) 0 ⟨by omega,by omega⟩ ?_ ?_
   ·exact a4c rfl ⟨AA _,a6c rfl,trivial⟩ (.cons (.refl _) (.nil _)) (by simp;omega) (.inr rfl) rfl
   ·intro i hi N2 hN2;obtain⟨z,hz⟩: ∃z:Bool,z=AJ↔ ∀j,j<nk i->kid i j=kid i 0:=by classical exact⟨decide _,decide_eq_true_iff⟩
    cbv;split
    ·have hlt:i<nn:=by subst hS;simp[AF] at*;omega
     have hfl:=i5i (var i) (f5 i hlt) (kid i) z hz;cbv;refine a1g hS (by subst hS;simp[AF];omega) ?_;simp only[Ac,ett,AE,AD];refine a0v hS (bool z) (by subst hS;exact hfl) ?_;cases z
     rotate_left
     ·cbv;exact e8z hr fun h=>(h.2.1 i hlt).1 (hz.1 rfl)
     have hnf: ¬ ∀j,j<nk i->kid i j=kid i 0:=fun h=>AG (hz.2 h);cbv;refine a7r AC okP hS (fun k=>k<=i/\ ∀j,j<k-> ¬(var j=var i/\L (nk j) (kid j)=L (nk i) (kid i))) (fun k=>i-k)
      (fun k=>⟨b5r [(1,.ptr 0 0),(5,int i),(6,int k)] 97,[.var [isl ns sz,isl no od,vsl ne (fun i=>⟨ef i,en' i⟩),bsl nn var nk kid,int root]],[]⟩) 0 ⟨by omega,by omega⟩ ?_ ?_
     ·exact a4c rfl ⟨AA _,AA _,a6c rfl,trivial⟩ (.cons (.refl _) (.nil _)) (by simp;omega) (.inr rfl) rfl
     ·intro k hk N3 hN3;obtain⟨z2,hz2⟩: ∃z:Bool,z=AJ↔L (nk k) (kid k)=L (nk i) (kid i):=by classical exact⟨decide _,decide_eq_true_iff⟩
      cbv;split
      ·have hlk:k<i:=by subst hS;simp[AF] at*;omega
       have hsm:=h7o (nk k) (nk i) (kid k) (kid i) (f5 k (by omega)) z2 hz2;cbv;refine a1g hS (by subst hS;simp[AF];omega) ?_;refine a1g hS (by subst hS;simp[AF];omega) ?_;simp only[Ac,ett,AE,AD];split
       ·have hv:var k=var i:=by subst hS;simp[AF] at*;assumption
        cbv;refine a1g hS (by subst hS;simp[AF];omega) ?_;refine a1g hS (by subst hS;simp[AF];omega) ?_;simp only[Ac,ett,AE,AD];refine a0v hS (bool z2) (by subst hS;exact hsm) ?_;cases z2
        rotate_left
        ·cbv;exact e8z hr fun h=>(h.2.1 i hlt).2 k hlk ⟨hv,hz2.1 rfl⟩
        have hns: ¬L (nk k) (kid k)=L (nk i) (kid i):=fun h=>AG (hz2.2 h);cbv;refine a1g hS (by subst hS;exact b6g (by simp[AF];omega) (by simp[AF];omega)) ?_;refine hN3 (k+1) _ ⟨by omega,fun j hj=> ?_⟩ (by omega) (a4c rfl ⟨AA _,AA _,b0a (by subst hS;simp[AF]),trivial⟩ (.cons (.refl _) (.nil _)) (by simp;omega) (.inr rfl) rfl);by_cases e:j=k
        ·subst e;exact fun h=>hns h.2
        ·exact hk.2 j (by omega)
       ·have hv:var k≠var i:=by subst hS;simp[AF] at*;assumption
        cbv;refine a1g hS (by subst hS;exact b6g (by simp[AF];omega) (by simp[AF];omega)) ?_;refine hN3 (k+1) _ ⟨by omega,fun j hj=> ?_⟩ (by omega) (a4c rfl ⟨AA _,AA _,b0a (by subst hS;simp[AF]),trivial⟩ (.cons (.refl _) (.nil _)) (by simp;omega) (.inr rfl) rfl);by_cases e:j=k
        ·subst e;exact fun h=>hv h.1
        ·exact hk.2 j (by omega)
      ·have hki: ∀j,j<i-> ¬(var j=var i/\L (nk j) (kid j)=L (nk i) (kid i)):=by
        have:i<=k:=by subst hS;simp[AF] at*;omega
        exact fun j hj=>hk.2 j (by omega)
       cbv;refine a1g hS (by subst hS;exact b6g (by simp[AF];omega) (by simp[AF];omega)) ?_;refine hN2 (i+1) _ ⟨by omega,fun j hj=> ?_⟩ (by omega) (a4c rfl ⟨AA _,b0a (by subst hS;simp[AF]),trivial⟩ (.cons (.refl _) (.nil _)) (by simp;omega) (.inr rfl) rfl);by_cases e:j=i
       ·subst e;exact⟨hnf,hki⟩
       ·exact hi.2 j (by omega)
    ·have hN: ∀i',i'<nn-> ¬(∀j,j<nk i'->kid i' j=kid i' 0)/\ ∀k,k<i'-> ¬(var k=var i'/\L (nk k) (kid k)=L (nk i') (kid i')):=by
      have:nn<=i:=by subst hS;simp[AF] at*;omega
      exact fun j hj=>hi.2 j (by omega)
     cbv;refine h3v hS (a1h.nil (args':=[DiR.av ⟨ns,sz,no,od,ne,fun i=>⟨ef i,en' i⟩,nn,var,nk,kid,root⟩,int root,.msl 1 1 AR 0 AM,.d .nil]) 1 (fun _=>[.int .i64 (.v 0)]) (a1h.nil (args':=[DiR.av ⟨ns,sz,no,od,ne,fun i=>⟨ef i,en' i⟩,nn,var,nk,kid,root⟩,int root,.msl 1 1 AR 0 AM,.msl 2 1 AR 0 AM]) 1 (fun _=>[.int .i64 (.v 0)]) (a1h.frame hsrch [1,2] rfl rfl ⟨a9v.refl _,a9v.refl _,trivial⟩) ⟨.inl rfl,.inl rfl,.inl rfl,.inr ⟨rfl,rfl⟩,trivial⟩) ⟨.inl rfl,.inl rfl,.inr ⟨rfl,rfl⟩,.inl rfl,trivial⟩) ?_;rintro pg v H' ⟨pg0,v0,h0,⟨rfl,n',g',e',h',q1,rfl,rfl⟩,rfl,rfl,rfl⟩;rw[q1,h3u,h3u] at hlen;rw[q1] at hr;obtain⟨z,hz⟩: ∃z:Bool,z=AJ↔(∀i,i<n'->g' i=i)/\(n':Int)=nn:=by classical exact⟨decide _,decide_eq_true_iff⟩
     obtain⟨z2,hz2⟩: ∃z:Bool,z=AJ↔(∀i,i<e'->h' i=i)/\(e':Int)=ne:=by classical exact⟨decide _,decide_eq_true_iff⟩
     have hri:=h8b (n:=n') (by omega) g' nn z hz;have hri2:=h8b (n:=e') (by omega) h' ne z2 hz2;rw[i0d] at hz hz2;cbv;refine a1g hS (by subst hS;simp[AF]) ?_;refine a0v hS (bool z) (by subst hS;exact hri) ?_;cases z
     ·cbv;refine e8z hr fun h=> ?_;have h2:L n' g'=Law.rng nn:=congrArg Prod.fst h.2.2;exact AG (hz.2 h2)
     ·cbv;refine a1g hS (by subst hS;simp[AF]) ?_;refine a0v hS (bool z2) (by subst hS;exact hri2) ?_;cbv;refine a0s ?_;cases z2
      ·cases r
       ·rfl
       ·have h2:L e' h'=Law.rng ne:=congrArg Prod.snd (hr.1 rfl).2.2;exact AG (hz2.2 h2)
      ·cases r
       ·exact absurd (hr.2 ⟨hE,hN,by rw[hz.1 rfl,hz2.1 rfl]⟩) (by simp)
       ·rfl
open Classical in
noncomputable def h3z (d:DiR):Int:=
 if h4e d.ns d.no d.sz d.od≠0 then h4e d.ns d.no d.sz d.od else if 6000<d.nn then 5 else if h3x d then 0 else 4
open Classical in
noncomputable def h5o (d:DiR):Int:=if h3z d≠0 then h3z d else if h5e d then 0 else 4
theorem h5v (d:DiR)(hf:d.fit)(r:Int)(hr:h3z d=r):a0j AH AJ 90 [d.av] (int r):=by
 obtain⟨e,he⟩: ∃e,h4e d.ns d.no d.sz d.od=e:=⟨_,rfl⟩;have h1:=h4p hf.ns hf.no d.sz d.od e he;obtain⟨z,hz⟩: ∃z:Bool,z=AJ↔h3x d:=by classical exact⟨decide _,decide_eq_true_iff⟩
 have h2:=h9y d hf z hz;unfold h3z at hr;rw[he] at hr;have hnn:d.nn<=1000000:=hf.nn;clear hf he;have r1:e≠0->e=r:=fun h=>by rw[<-hr,if_pos h]
 have r2:e=0->6000<d.nn->5=r:=fun h g=>by rw[<-hr,if_neg (fun k=>k h),if_pos g]
 have r3:e=0-> ¬6000<d.nn->z=AJ->0=r:=fun h g k=>by rw[<-hr,if_neg (fun k=>k h),if_neg g,if_pos (hz.1 k)]
 have r4:e=0-> ¬6000<d.nn->z=AM->4=r:=fun h g k=>by rw[<-hr,if_neg (fun k=>k h),if_neg g,if_neg (fun l=>by rw[hz.2 l] at k;cases k)]
 clear hr hz;obtain⟨ns,sz,no,od,ne,en,nn,var,nk,kid,root⟩:=d;simp only at h1 h2 r2 r3 r4 hnn;refine a4e (a0k AC okP i8v _ rfl fun E Sg hb hS=> ?_);cbv;refine a0v hS _ h1 ?_;cbv;split
 ·have:e≠0:=by subst hS;simp[AF] at*;assumption
  cbv;exact b0a (r1 this)
 have h0:e=0:=by subst hS;simp[AF] at*;assumption
 cbv;split
 ·have:6000<nn:=by subst hS;simp[AF] at*;omega
  cbv;exact a6c (r2 h0 this)
 have h6: ¬6000<nn:=by subst hS;simp[AF] at*;omega
 cbv;refine a0v hS (bool z) (by subst hS;exact h2) ?_;cases z
 ·cbv;exact a6c (r4 h0 h6 rfl)
 ·cbv;exact a6c (r3 h0 h6 rfl)
theorem h4q {d:DiR}(h:h3z d=0):h4e d.ns d.no d.sz d.od=0/\d.nn<=6000/\h3x d:=by
 unfold h3z at h;split at h
 ·rename_i a;exact absurd h a
 ·split at h
  ·cases h
  ·split at h
   ·rename_i a b c;exact⟨AS.1 a,by omega,c⟩
   ·cases h
theorem h3x.kpos {d:DiR}(h:h3x d)(hf:h4e d.ns d.no d.sz d.od=0): ∀i,i<d.nn->1<=d.nk i/\d.nk i<=12:=fun i hi=>by obtain⟨⟨⟨a,b⟩,c⟩,_⟩:=h.2.1 i hi;have:=(h4s hf).2.1 (d.var i).toNat (by omega);omega
theorem i5e (d:DiR)(hf:d.fit)(r:Int)(hr:h5o d=r):a0j AH AJ 51 [d.av] (int r):=by
 obtain⟨e,he⟩: ∃e,h3z d=e:=⟨_,rfl⟩;have h1:=h5v d hf e he;obtain⟨z,hz⟩: ∃z:Bool,z=AJ↔h5e d:=by classical exact⟨decide _,decide_eq_true_iff⟩
 have h2:e=0->a0j AH AJ 91 [d.av] (bool z):=fun h=>by obtain⟨a,b,c⟩:=h4q (he.trans h);exact h8u d hf c.kids (h4g c.2.2) (fun i hi=>(c.kpos a i hi).1) z hz
 unfold h5o at hr;rw[he] at hr;clear hf he;have r1:e≠0->e=r:=fun h=>by rw[<-hr,if_pos h]
 have r3:e=0->z=AJ->0=r:=fun h k=>by rw[<-hr,if_neg (fun k=>k h),if_pos (hz.1 k)]
 have r4:e=0->z=AM->4=r:=fun h k=>by rw[<-hr,if_neg (fun k=>k h),if_neg (fun l=>by rw[hz.2 l] at k;cases k)]
 clear hr hz;obtain⟨ns,sz,no,od,ne,en,nn,var,nk,kid,root⟩:=d;refine a4e (a0k AC okP i8h _ rfl fun E Sg hb hS=> ?_);cbv;refine a0v hS _ h1 ?_;cbv;split
 ·have:e≠0:=by subst hS;simp[AF] at*;assumption
  cbv;exact b0a (r1 this)
 have h0:e=0:=by subst hS;simp[AF] at*;assumption
 cbv;refine a0v hS (bool z) (by subst hS;exact h2 h0) ?_;cases z
 ·cbv;exact a6c (r4 h0 rfl)
 ·cbv;exact a6c (r3 h0 rfl)
def DiR.wf (d:DiR):Prop:=(∀i,i<d.nn-> ∀j,j<d.nk i->c5t (d.kid i j))/\c5t d.root/\ ∀i,i<d.ne->0<=(d.en i).fault
def DiR.row (d:DiR):List DV:=[.sl 1 d.ns fun i=>[.int .i64 (.v (d.sz i))],.sl 1 d.no fun i=>[.int .i64 (.v (d.od i))],.sl 2 d.ne fun i=>(d.en i).row,
 .sl 2 d.nn fun i=>[.int .i64 (.v (d.var i)),.sl 1 (d.nk i) fun j=>[.int .i64 (.v (d.kid i j))]],.int .i64 (.v d.root)]
def dsl (n:Nat)(l:Nat->DiR):AV:= .d (.sl 5 n fun i=>(l i).row)
theorem h6x {d:DiR}(h:h5o d=0):h3z d=0/\h5e d:=by
 unfold h5o at h;split at h
 ·rename_i a;exact absurd h a
 ·split at h
  ·rename_i a b;exact⟨AS.1 a,b⟩
  ·cases h
end Go.Proofs.Tryz.Run
