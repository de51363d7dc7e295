/- The program's maker. Conditions: none. -/
import Derived.Test.YtbglklaocjifhaaGreatGQi
open Go.Vf.ab renaming refl->AA
open Go.Proofs.YtbglklaocjifhaaGreat.Tryz renaming mixed->AB
open Go.Proofs.Tryz renaming prog->AC
open Int renaming ofNat_eq_natCast->AD,toNat_natCast->AF,ofNat->AW,ofNat_lt->Aa,le_trans->Ab
open Bool renaming noConfusion->AE,true->AH,false->AL,false_eq_true->AT,not_false->AX,not_true->AY
open Classical renaming byContradiction->AG
open Go.Vf renaming ms->AI,nat->AU
open List renaming length_nil->AJ,length_cons->AK,length->AZ
open Go.IntKind renaming signed->AM,wrap->AN,bits->AO
open Option renaming none->AP
open Go.Vf.ay renaming frame->AQ,VC->Ad
open Go.Vf.bx renaming refl->AR,var->Ac
open Go.Vf.fl renaming tuple->AS
set_option linter.unusedSimpArgs false
set_option linter.unusedVariables false
set_option maxHeartbeats 0
namespace Go.Proofs.Tryz.Run
open Go Go.Vf Go.Proofs
open Go.Proofs.YtbglklaocjifhaaGreat
theorem i0v {n:Nat}(hn:n<=1000000)(g:Nat->Int)(H:List ae)(gid:FuncId)(a:Nat)(p:Nat->Bool)
 (hp: ∀i,i<n->ay AC gid [int (g i),.ptr a 0] H (ro H (bool (p i)))) (r:Int) (hr:uq n p r):
 ay AC 215 [ac n g,.fn gid [] [.ptr a 0]] H (ro H (int r)):=by
 refine l7 AB ci Tz _ rfl fun E Sg hb hS=> ?_;have e8: ∀z,Sg.toNat z=z.toNat:=by subst hS;exact fun _=>rfl
 cbv;refine gg AB ci hS (fun i=>i<=n/\ ∀j,j<i->p j=AL) (fun i=>n-i)
  (fun i=>⟨dn [(0,ac n g),(1,.fn gid [] [.ptr a 0]),(7,int n),(8,int i)] 19,H,[]⟩) 0 ⟨by omega,by omega⟩ ?_ ?_
 ·exact bq rfl ⟨AA _,AA _,br (by subst hS;rfl),bg rfl,trivial⟩ (.same _) (by omega) (.inr rfl) rfl
 ·intro i hi N hN;have aq:=hp i;clear hp;cbv;split
  ·cbv;have hlt:i<n:=by clear aq hN hr;subst hS;simp[AI] at*;omega
   have aq:=aq hlt;generalize hz:p i=z at aq;refine ad hS (by clear aq hN hr;subst hS;simp[AI];omega) ?_;simp only[AU,e8,AD,AF];refine lu hS (r:=bool z) (by subst hS;exact aq) ?_;cases z
   ·cbv;refine ad hS (by clear aq hN hr;subst hS;exact e7 (by simp[AI];omega) (by simp[AI];omega)) ?_;refine hN (i+1) _ ⟨by omega,fun j hj=> ?_⟩ (by omega) (bq rfl ⟨AA _,AA _,AA _,br ?_,trivial⟩ (.same _) (by omega) (.inr rfl) rfl)
    ·by_cases e:j=i
     ·subst e;exact hz
     ·exact hi.2 j (by omega)
    ·clear aq hN hr;subst hS;simp[AI]
   ·cbv;exact j7 (br (hr.2 i hlt hz hi.2).symm) (.same _) (.inr rfl)
  ·have p0:n<=i:=by clear aq hN hr;subst hS;simp[AI] at*;omega
   cbv;exact j7 (bg (hr.1 fun j hj=>hi.2 j (by omega)).symm) (.same _) (.inr rfl)
theorem h5w {n:Nat}(hn:n<=1000000)(g:Nat->Int)(H:List ae)(gid:FuncId)(a:Nat)(p:Nat->Bool)
 (hp: ∀i,i<n->ay AC gid [int (g i),.ptr a 0] H (ro H (bool (p i)))) (r:Bool) (hr:r=AH↔ ∃i,i<n/\p i=AH):
 ay AC 188 [ac n g,.fn gid [] [.ptr a 0]] H (ro H (bool r)):=by
 obtain⟨z,hz,jl,eb⟩: ∃z,uq n p z/\(0<=z-> ∃i,i<n/\p i=AH)/\((∃i,i<n/\p i=AH)->0<=z):=JS n p;have aq:=i0v hn g H gid a p hp z hz;have qv:0<=z↔r=AH:=⟨fun h=>hr.2 (jl h),fun h=>eb (hr.1 h)⟩;clear hp hz jl eb hr;refine l7 AB ci Tx _ rfl fun E Sg hb hS=> ?_;cbv;refine lu hS aq ?_;cbv;refine j7 (ga ?_) (.same _) (.inr rfl);clear aq;subst hS;simp[AI];cases r
 ·simp at qv⊢;omega
 ·simpa using qv
theorem i6r (a lo up:Int)(r:Bool)(hr:r=AH↔ ¬(lo<=a/\a<=up)):ay AC 189 [int a,.ptr 0 0,.ptr 1 0] [.var [int lo],.var [int up]] (ro [.var [int lo],.var [int up]] (bool r)):=by
 refine l7 AB ci e9b _ rfl fun E Sg hb hS=> ?_;cbv
 repeat' (split<;>cbv)
 all_goals
  refine j7 (ga ?_) (.same _) (.inr rfl);subst hS;simp[AI] at*
  cases r<;>simp at* <;>omega
theorem h7d (lo up:Int){n:Nat}(hn:n<=1000000)(g:Nat->Int)(r:Bool)(hr:r=AH↔ ∀i,i<n->lo<=g i/\g i<=up):au AC AH 152 [int lo,int up,ac n g] (bool r):=by
 have aq:=c0u hn g (.var [int lo]) (.var [int up]) 189 (fun i=>decide (¬(lo<=g i/\g i<=up))) (fun i _=>i6r (g i) lo up _ decide_eq_true_iff) (!r) (by
  cases r
  ·have hr: ¬ ∀i,i<n->lo<=g i/\g i<=up:=fun h=>AE (hr.2 h);simp only[AX,decide_eq_true_eq,true_iff];exact AG fun h=>hr fun i hi=>AG fun h'=>h ⟨i,hi,h'⟩
  ·have hr:=hr.1 rfl;simp only[AY,decide_eq_true_eq,AT,false_iff];rintro⟨i,hi,h⟩;exact h (hr i hi))
 refine j6 (cr AB ci f2r _ rfl fun E Sg hb hS=> ?_);cbv;refine lu hS aq ?_;cases r<;>cbv
 ·exact ga rfl
 ·exact ga rfl
theorem h6p (lo up x:Int)(r:Bool)(hr:r=AH↔lo<=x/\x<=up):au AC AH 152 [int lo,int up,.d (.sl 1 1 (Vf.rowAt [[.int .i64 (.v x)]]))] (bool r):=
 au.LE (.cons (AA _) (.cons (AA _) (.cons d0a .nil))) (h7d lo up (by omega) (fun _=>x) r (by rw[hr];exact⟨fun h _ _=>h,fun h=>h 0 (by omega)⟩))
theorem JR {n m:Nat}(hn:n<=1000000)(g h:Nat->Int)(r:Bool)(hr:r=AH↔L n g=L m h):au AC AH 155 [ac n g,ac m h] (bool r):=by
 have ku:L n g=L m h↔n=m/\ ∀i,i<n->g i=h i:=by
  constructor
  ·intro e;have el:n=m:=by simpa [jt] using congrArg AZ e
   subst el;refine⟨rfl,fun j hj=> ?_⟩;have:=congrArg (fun l=>l[j]?) e;simpa [L,hj] using this
  ·rintro⟨rfl,hh⟩;exact JH hh
 rw[ku] at hr;refine j6 (cr AB ci e9l _ rfl fun E Sg hb hS=> ?_);have e8: ∀z,Sg.toNat z=z.toNat:=by subst hS;exact fun _=>rfl
 cbv;split
 ·have ck:n≠m:=by subst hS;simp[AI] at*;omega
  cbv;exact jq hr fun h=>ck h.1
 have kp:n=m:=by subst hS;simp[AI] at*;omega
 subst kp;cbv;refine gg AB ci hS (fun i=>i<=n/\ ∀j,j<i->g j=h j) (fun i=>n-i)
  (fun i=>⟨dn [(0,ac n g),(1,ac n h),(12,int n),(13,int i)] 26,[],[]⟩) 0 ⟨by omega,by omega⟩ ?_ ?_
 ·exact bq rfl ⟨AA _,AA _,br (by subst hS;rfl),bg rfl,trivial⟩ (.nil _) (by omega) (.inr rfl) rfl
 ·intro i hi N hN;cbv;split
  ·have hlt:i<n:=by subst hS;simp[AI] at*;omega
   cbv;refine ad hS (by subst hS;simp[AI];omega) ?_;refine ad hS (by subst hS;simp[AI];omega) ?_;simp only[AU,e8,AD,AF];split
   ·have hx:g i≠h i:=by subst hS;simp[AI] at*;assumption
    cbv;exact jq hr fun hh=>hx (hh.2 i hlt)
   ·have hx:g i=h i:=by subst hS;simp[AI] at*;assumption
    cbv;refine ad hS (by subst hS;exact e7 (by simp[AI];omega) (by simp[AI];omega)) ?_;refine hN (i+1) _ ⟨by omega,fun j hj=> ?_⟩ (by omega) (bq rfl ⟨AA _,AA _,AA _,br (by subst hS;simp[AI]),trivial⟩ (.nil _) (by omega) (.inr rfl) rfl);by_cases e:j=i
    ·subst e;exact hx
    ·exact hi.2 j (by omega)
  ·have cd: ∀j,j<n->g j=h j:=by
    have:n<=i:=by subst hS;simp[AI] at*;omega
    exact fun j hj=>hi.2 j (by omega)
   cbv;exact Ir hr ⟨rfl,cd⟩
theorem h6o {n:Nat}(hn:n<=1000000):au AC AL 156 [int n] (ac n fun i=>(i:Int)):=by
 refine cr AB ci f2u _ rfl fun E Sg hb hS=> ?_;have e8: ∀z,Sg.toNat z=z.toNat:=by subst hS;exact fun _=>rfl
 generalize cq:ac n (fun i=>(i:Int))=res;cbv;refine ad hS (by subst hS;simp[AI]) (ad hS (by subst hS;simp[AI,VU];omega) ?_);simp only[AU,e8,AD,AF];refine gg AB ci hS (σ:=Nat×(Nat->Int)) (fun s=>s.1<=n/\ ∀j,j<s.1->s.2 j=j) (fun s=>n-s.1)
  (fun s=>⟨dn [(0,int n),(3,.bi 0 1 AP n AL),(7,int n),(8,int s.1)] 17,[g9 n s.2],[]⟩) (0,fun _=>0) ⟨by simp,by simp⟩ ?_ ?_
 ·refine bq rfl ⟨AA _,AA _,AA _,bg rfl,trivial⟩ (.cons (bx.Xd rfl (fun i hi=>by subst hS;simp only[AI] at hi⊢;rw[if_pos hi];exact .one (.int rfl))) (.nil _)) (by simp;omega) (.inr rfl) rfl
 ·rintro⟨i,u⟩ ⟨Hj,jx⟩ N hN;simp only at Hj jx hN;cbv;split
  ·have hlt:i<n:=by subst hS;simp[AI] at*;omega
   cbv;refine ad hS (by subst hS;simp[AI];omega) ?_;simp only[AU,e8,AD,AF];refine ad hS (by subst hS;simp[AI];omega) ?_;refine ad hS (by subst hS;exact e7 (by simp[AI];omega) (by simp[AI];omega)) ?_;refine hN (i+1,fun j=>if j=i then (i:Int) else u j) _ ⟨by simp;omega,fun j hj=> ?_⟩ (by simp;omega) (bq rfl ⟨AA _,AA _,AA _,br (by subst hS;simp[AI]),trivial⟩ (.cons (bx.g9 rfl fun j hj=> ?_) (.nil _)) (by simp;omega) (.inr rfl) rfl)
   ·by_cases e:j=i
    ·subst e;simp
    ·simp only[if_neg e];exact jx j (by simp at hj;omega)
   ·subst hS;simp only[AI];split<;>rfl
  ·have aq:i=n:=by subst hS;simp[AI] at*;omega
   subst aq;cbv;subst cq;refine ad hS (by subst hS;simp[AI]) ?_;exact ab.ac rfl fun j hj=>jx j hj
theorem i3d {n:Nat}(hn:n<=1000000)(g:Nat->Int)(res:AV)(cq:res=ac n g):au AC AL 153 [ac n g] res:=by
 cases n with
 |zero=>
  refine au.empty fun a cap=> ?_;refine cr AB ci QT _ rfl fun E Sg hb hS=> ?_;cases a with
  |none=>cbv;subst cq;exact ab.Yz
  |some a=>
   cbv
   repeat' ((first|(with_reducible apply ad hS))<;>cbv)
   all_goals try (subst hS;simp[AI,AU,IX.val,VU] at* <;>omega)
   subst cq;exact ab.Yf (by subst hS;rfl) fun i hi=>by subst hS;simp[AI] at hi
 |succ n=>
  refine cr AB ci QT _ rfl fun E Sg hb hS=> ?_;cbv
  repeat' ((first|(with_reducible apply ad hS))<;>cbv)
  all_goals try (subst hS;simp[AI,AU,IX.val,VU] at* <;>omega)
  subst cq;refine ab.Yf (by subst hS;simp[AI]) fun i hi=> ?_;subst hS;simp[AI]
theorem i2c {n:Nat}(hn:n<=1000000)(g:Nat->Int):au AC AL 153 [ac n g] (ac n g):=i3d hn g _ rfl
def i5n (n:Nat)(g:Nat->Int)(pg:List Nat)(v:AV)(h':List ae):Prop:=pg=[]/\v= .bi 0 1 AP n AL/\h'=[g9 n g]
theorem i3m {n:Nat}(hn:n<=1000000)(g:Nat->Int):ay AC 153 [ac n g] [] (i5n n g):=by
 cases n with
 |zero=>
  refine ay.empty fun a cap=>ay.Xq 1 (fun i=>[.int .i64 (.v (g i))]) ?_;refine mh AB ci QT rfl fun E Sg hb hS F hF=> ?_;cases a with
  |none=>cbv;exact⟨[],by simp,hF (.nil _) (AA _) (by simp) (.inr rfl) (.inl ⟨rfl,rfl,rfl,rfl⟩)⟩
  |some a=>
   cbv
   repeat' ((first|(with_reducible apply ad hS))<;>cbv)
   all_goals try (subst hS;simp[AI,AU,IX.val,VU] at* <;>omega)
   refine⟨[],by simp,hF (h1:=[g9 0 g]) (.cons (bx.g9 (by subst hS;rfl) fun j hj=>by subst hS;simp[AI] at hj) (.nil _)) (v0:= .bi 0 1 AP 0 AL) (by subst hS;exact AA _) (by simp) (.inr rfl) (.inr ⟨rfl,rfl,rfl⟩)⟩
 |succ n=>
  refine mh AB ci QT rfl fun E Sg hb hS F hF=> ?_;cbv
  repeat' ((first|(with_reducible apply ad hS))<;>cbv)
  all_goals try (subst hS;simp[AI,AU,IX.val,VU] at* <;>omega)
  refine⟨[],by simp,hF (h1:=[g9 (n+1) g]) (.cons (bx.g9 (by subst hS;simp[AI]) fun j hj=>by subst hS;simp[AI]) (.nil _)) (v0:= .bi 0 1 AP (n+1) AL) (by subst hS;simp only[AI,Nat.zero_add];exact AA _) (by simp) (.inr rfl) ⟨rfl,rfl,rfl⟩⟩
def H7 (n:Nat)(u g:Nat->Int):Prop:=
 ∃s t:Nat->Nat,(∀i,i<n->s i<n/\t i<n/\s (t i)=i/\t (s i)=i)/\ ∀i,i<n->u i=g (s i)
theorem H7.refl (n:Nat)(g:Nat->Int):H7 n g g:=⟨id,id,fun i hi=>⟨hi,hi,rfl,rfl⟩,fun i hi=>rfl⟩
def sw (j k i:Nat):Nat:=if i=j then k else if i=k then j else i
theorem i5s (j k i:Nat):sw j k (sw j k i)=i:=by
 unfold sw
 (repeat' split)<;>omega
theorem T6 {n j k i:Nat}(hj:j<n)(hk:k<n)(hi:i<n):sw j k i<n:=by
 unfold sw
 (repeat' split)<;>omega
theorem H7.swap {n:Nat}{u g:Nat->Int}(h:H7 n u g){j k:Nat}(hj:j<n)(hk:k<n):H7 n (fun i=>u (sw j k i)) g:=by
 obtain⟨s,t,h1,h2⟩:=h;refine⟨fun i=>s (sw j k i),fun i=>sw j k (t i),fun i hi=> ?_,fun i hi=>h2 _ (T6 hj hk hi)⟩;obtain⟨a1,a2,a3,a4⟩:=h1 i hi;refine⟨(h1 _ (T6 hj hk hi)).1,T6 hj hk a2,?_,?_⟩
 ·simp only[i5s];exact a3
 ·simp only[(h1 _ (T6 hj hk hi)).2.2.2,i5s]
theorem h6n {n:Nat}{u g:Nat->Int}(h:H7 n u g)(hs: ∀p q,p<q->q<n->u p<=u q):(∀i,i<n->u i=i)↔y5 n n g:=by
 obtain⟨s,t,h1,h2⟩:=h;have hg: ∀k,k<n->g k=u (t k):=fun k hk=>by rw[h2 _ (h1 k hk).2.1,(h1 k hk).2.2.1]
 constructor
 ·intro hu;refine⟨rfl,fun i hi=> ?_⟩;have fw:=(h1 i hi).2.1;rw[hg i hi,hu _ fw];refine⟨by omega,fun k hk e=> ?_⟩;have mn:k<n:=by omega
  rw[hg k mn,hu _ (h1 k mn).2.1] at e;have e2:t k=t i:=by omega
  have:s (t k)=s (t i):=by rw[e2]
  rw[(h1 k mn).2.2.1,(h1 i hi).2.2.1] at this;omega
 ·rintro⟨_,ho⟩;have ck: ∀p q,p<q->q<n->u p≠u q:=fun p q hpq hq e=>by
   rw[h2 p (by omega),h2 q hq] at e;have Nk:=(h1 p (by omega)).1;have lf:=(h1 q hq).1;have hsne:s p≠s q:=fun e=>by
    have:t (s p)=t (s q):=by rw[e]
    rw[(h1 p (by omega)).2.2.2,(h1 q hq).2.2.2] at this;omega
   rcases Nat.lt_or_ge (s p) (s q) with h3|h3
   ·exact (ho (s q) lf).2 (s p) h3 e
   ·exact (ho (s p) Nk).2 (s q) (by omega) e.symm
  have hlt: ∀p q,p<q->q<n->u p<u q:=fun p q hpq hq=>by have a:=hs p q hpq hq;have b:=ck p q hpq hq;omega
  have kv: ∀i,i<n->(i:Int)<=u i:=by
   intro i
   induction i with
   |zero=>intro hi;rw[h2 0 hi];exact (ho _ (h1 0 hi).1).1.1
   |succ i ih=>intro hi;have:=ih (by omega);have:=hlt i (i+1) (by omega) hi;omega
  have Kn: ∀d i,i+d+1=n->u i<=i:=by
   intro d
   induction d with
   |zero=>intro i hi;have:=(ho _ (h1 i (by omega)).1).1.2;rw[h2 i (by omega)];omega
   |succ d ih=>intro i hi;have:=ih (i+1) (by omega);have:=hlt i (i+1) (by omega) (by omega);omega
  intro i hi;have a:=kv i hi;have b:=Kn (n-1-i) i (by omega);omega
theorem c9c (a:Int):au AC AH 255 [int a] (bool AL):=by refine j6 (cr AB ci e4n _ rfl fun E Sg hb hS=> ?_);cbv;refine ga ?_;subst hS;simp[AI]
theorem i4s (a b:Int)(r:Bool)(hr:r=AH↔a<b):au AC AH 222 [int a,int b] (bool r):=by
 have h1:=c9c a;refine j6 (cr AB ci e7q _ rfl fun E Sg hb hS=> ?_);cbv;refine bf hS (bool AL) (by subst hS;exact h1) ?_;cbv;refine ga ?_;subst hS;simp[AI];cases r
 ·have: ¬a<b:=fun h=>AE (hr.2 h);simpa using this
 ·simpa using hr.1 rfl
def i4k (n:Nat)(g:Nat->Int)(pg:List Nat)(v:AV)(h':List ae):Prop:=pg=[]/\ ∃u,H7 n u g/\(∀p q,p<q->q<n->u p<=u q)/\h'=[g9 n u]
theorem h8c {n:Nat}(hn:n<=1000000)(g:Nat->Int):ay AC 216 [.bi 0 1 AP n AL,int 0,int n] [g9 n g] (i4k n g):=by
 refine mh AB ci f2m rfl fun E Sg hb hS F hF=> ?_;simp only[AK,AJ] at hb;have e8: ∀z,Sg.toNat z=z.toNat:=by subst hS;exact fun _=>rfl
 cbv;refine ad hS (by subst hS;simp[AI,AN,AO,AM]) ?_;refine gg AB ci hS (σ:=Nat×(Nat->Int)) (fun s=>1<=s.1/\(s.1<=n\/n=0/\s.1=1)/\H7 n s.2 g/\ ∀p q,p<q->q<s.1->q<n->s.2 p<=s.2 q) (fun s=>n-s.1)
  (fun s=>⟨dn [(0,.bi 0 1 AP n AL),(1,int 0),(2,int n),(6,int s.1)] 49,[g9 n s.2],[]⟩) (1,g) ⟨by simp,by simp;omega,H7.refl n g,fun p q h1 h2=>by simp at h2;omega⟩ ?_ ?_
 ·exact bq rfl ⟨AA _,AA _,AA _,br (by subst hS;rfl),trivial⟩ (.cons (.refl _) (.nil _)) (by simp;omega) (.inr rfl) rfl
 ·rintro⟨i,u⟩ ⟨hi0,Hj,jx,hi3⟩ N hN;simp only at hi0 Hj jx hi3 hN;cbv;split
  ·have hlt:i<n:=by subst hS;simp[AI] at*;omega
   cbv;refine gg AB ci hS (σ:=Nat×(Nat->Int)) (fun s=>s.1<=i/\H7 n s.2 g/\(∀p q,p<q->q<=i->p≠s.1->q≠s.1->s.2 p<=s.2 q)/\ ∀q,s.1<q->q<=i->s.2 s.1<=s.2 q) (fun s=>s.1)
    (fun s=>⟨dn [(0,.bi 0 1 AP n AL),(1,int 0),(2,int n),(6,int i),(7,int s.1)] 49,[g9 n s.2],[]⟩) (i,u) ⟨by simp,jx,fun p q h1 h2 h3 h4=>hi3 p q h1 (by simp at h4;omega) (by omega),fun q h1 h2=>by simp at h1;omega⟩ ?_ ?_
   ·exact bq rfl ⟨AA _,AA _,AA _,AA _,AA _,trivial⟩ (.cons (.refl _) (.nil _)) (by simp;omega) (.inr rfl) rfl
   ·rintro⟨j,u⟩ ⟨hj0,SL,Ii,SM⟩ N2 yu;simp only at hj0 SL Ii SM yu;cbv;split
    ·have hj:0<j:=by clear hN yu hF;subst hS;simp[AI] at*;try assumption
     obtain⟨j,rfl⟩: ∃k,j=k+1:=⟨j-1,by omega⟩;obtain⟨z,hz⟩: ∃z:Bool,z=AH↔u (j+1)<u j:=⟨decide _,decide_eq_true_iff⟩;have hls:=i4s (u (j+1)) (u j) z hz;have ej:Sg.Vz (AW (j+1)) (AW 1)=AW j:=by subst hS;simp[AI]
     have eu: ∀(f:Nat->List DV) (r:List DV),Sg.Yq f j.succ r j=f j:=by subst hS;intro f r;simp[AI]
     cbv;simp only[ej];refine ad hS (by subst hS;simp[AI]<;>omega) ?_;refine ad hS (by subst hS;exact e7 (by simp[AI]<;>omega) (by simp[AI]<;>omega)) ?_;refine ad hS (by subst hS;simp[AI]<;>omega) ?_;refine ad hS (by subst hS;simp[AI]<;>omega) ?_;refine ad hS (by subst hS;simp[AI]<;>omega) ?_;simp only[AU,e8,AD,AF];refine bf hS (bool z) (by subst hS;exact hls) ?_;cases z
     ·have hle:u j<=u (j+1):=by have: ¬u (j+1)<u j:=fun h=>AE (hz.2 h);omega
      cbv;refine ad hS (by subst hS;exact e7 (by simp[AI];omega) (by simp[AI];omega)) ?_;refine hN (i+1,u) _ ⟨by simp,by simp;omega,SL,fun p q h1 h2 h3=> ?_⟩ (by simp;omega) (bq rfl ⟨AA _,AA _,AA _,br (by subst hS;simp[AI]),trivial⟩ (.cons (.refl _) (.nil _)) (by simp;omega) (.inr rfl) rfl);simp only at h2⊢;by_cases e1:p=j+1
      ·subst e1;exact SM q h1 (by omega)
      ·by_cases e2:q=j+1
       ·subst e2;by_cases e3:p=j
        ·subst e3;exact hle
        ·exact Ab (Ii p j (by omega) (by omega) e1 (by omega)) hle
       ·exact Ii p q h1 (by omega) e1 e2
     ·have hlt2:=hz.1 rfl;cbv;simp only[ej];refine ad hS (by subst hS;exact e7 (by simp[AI]<;>omega) (by simp[AI]<;>omega)) ?_;refine ad hS (by subst hS;exact e7 (by simp[AI]<;>omega) (by simp[AI]<;>omega)) ?_;simp only[AU,e8,AD,AF,eu];cbv;simp only[ej,AU,e8,AD,AF,eu];have ej3:Sg.Vz ((j.succ:Nat):Int) ((1:Nat):Int)=(j:Int):=ej;refine ad hS (by subst hS;simp[AI]<;>omega) ?_;refine ad hS (by subst hS;simp[AI]<;>omega) ?_;refine ad hS (by subst hS;simp[AI]<;>omega) ?_;refine ad hS (by subst hS;simp[AI]<;>omega) ?_;refine ad hS (by subst hS;simp[AI]<;>omega) ?_;refine ad hS (by subst hS;simp[AI]<;>omega) ?_;refine ad hS (by subst hS;simp[AI]<;>omega) ?_;refine ad hS (by subst hS;simp[AI]<;>omega) ?_;have aq:Sg.inr .i64 (Sg.Vz ((j.succ:Nat):Int) ((1:Nat):Int)):=by rw[ej3];subst hS;exact e7 (by omega) (by omega)
      refine ad hS aq ?_;refine yu (j,fun k=>u (sw (j+1) j k)) _ ⟨by simp;omega,SL.swap (by omega) (by omega),fun p q h1 h2 h3 h4=> ?_,fun q h1 h2=> ?_⟩ (by simp) (bq rfl ⟨AA _,AA _,AA _,AA _,br ej3,trivial⟩ (.cons (bx.g9 rfl fun k hk=> ?_) (.nil _)) (by simp;omega) (.inr rfl) rfl)
      ·simp only at h1 h2 h3 h4⊢;unfold sw;by_cases e1:p=j+1
       ·rw[if_pos e1,if_neg (by omega),if_neg (by omega)];exact Ii j q (by omega) h2 (by omega) (by omega)
       ·by_cases e2:q=j+1
        ·rw[if_neg e1,if_neg h3,if_pos e2];exact Ii p j (by omega) (by omega) e1 (by omega)
        ·rw[if_neg e1,if_neg h3,if_neg e2,if_neg h4];exact Ii p q h1 h2 e1 e2
      ·simp only at h1 h2⊢;unfold sw;rw[if_neg (show¬j=j+1 by omega),if_pos rfl];by_cases e2:q=j+1
       ·rw[if_pos e2];omega
       ·rw[if_neg e2,if_neg (by omega)];exact SM q (by omega) h2
      ·subst hS;simp only[AI,sw];by_cases e1:k=j
       ·subst e1;simp
       ·by_cases e2:k=j+1
        ·subst e2;simp
        ·simp[e1,e2]
    ·have hj:j=0:=by clear hN yu hF;subst hS;simp[AI] at*;omega
     subst hj;cbv;refine ad hS (by subst hS;exact e7 (by simp[AI];omega) (by simp[AI];omega)) ?_;refine hN (i+1,u) _ ⟨by simp,by simp;omega,SL,fun p q h1 h2 h3=> ?_⟩ (by simp;omega) (bq rfl ⟨AA _,AA _,AA _,br (by subst hS;simp[AI]),trivial⟩ (.cons (.refl _) (.nil _)) (by simp;omega) (.inr rfl) rfl);simp only at h2⊢;by_cases e1:p=0
     ·subst e1;exact SM q h1 (by omega)
     ·exact Ii p q h1 (by omega) e1 (by omega)
  ·have p0:n<=i:=by clear hN hF;subst hS;simp[AI] at*;omega
   cbv;exact⟨[],by simp,hF (h1:=[g9 n u]) (.cons (.refl _) (.nil _)) (AA _) (by simp) (.inr rfl) ⟨rfl,u,jx,fun p q h1 h2=>hi3 p q h1 (by omega) h2,rfl⟩⟩
theorem au.Xp {own:Bool}{f:FuncId}{args:List AV}{r r':AV}(hl:ab r r')(h:au AC own f args r):au AC own f args r':=
 ⟨h.1,fun w S vs hS hv=>(h.2 w S vs hS hv).mono fun e w' ⟨v,S',h1,h2,h3⟩=>⟨v,S',h1,hl _ _ _ _ h2,h3⟩⟩
def i2a (v:CA):Bool:=
 match v with
 | .d (.int .i64 _)=>AH
 |_=>AL
theorem Gf {n:Nat}(h:(YR Zy 100).wr AH 191 [.d (.int .u64 (.v (n:Int)))] i2a=AH): ∃z:Int,au AC AH 191 [.d (.int .u64 (.v (n:Int)))] (int z):=by
 obtain⟨r,h1,h2⟩:=c0g AB ci XZ 100 h;unfold i2a at h1;split at h1
 ·rename_i x;have h3:au AC AH 191 [.d (.int .u64 (.v (n:Int)))] (.d (.int .i64 x)):=by simpa [CA.f9,CA.to,CD.to] using h2
  exact⟨x.val,au.Xp (r:= .d (.int .i64 x)) (ab.int rfl) h3⟩
 ·cases h1
theorem i6w: ∀n:Nat,n<=12-> ∃z:Int,au AC AH 191 [.d (.int .u64 (.v (n:Int)))] (int z)
 |0,_=>Gf (by kernel_rfl)
 |1,_=>Gf (by kernel_rfl)
 |2,_=>Gf (by kernel_rfl)
 |3,_=>Gf (by kernel_rfl)
 |4,_=>Gf (by kernel_rfl)
 |5,_=>Gf (by kernel_rfl)
 |6,_=>Gf (by kernel_rfl)
 |7,_=>Gf (by kernel_rfl)
 |8,_=>Gf (by kernel_rfl)
 |9,_=>Gf (by kernel_rfl)
 |10,_=>Gf (by kernel_rfl)
 |11,_=>Gf (by kernel_rfl)
 |12,_=>Gf (by kernel_rfl)
 |n+13,h=>by omega
theorem i6h {n:Nat}(hn:n<=12)(g:Nat->Int)(z:Int):ay AC 190 [.bi 0 1 AP n AL,int 0,int n,int z] [g9 n g] (i4k n g):=by
 have aq:=h8c (n:=n) (by omega) g;refine mh AB ci e9i rfl fun E Sg hb hS F hF=> ?_;simp only[AK,AJ] at hb;cbv;refine i5z AB ci hS 1 ?_;cbv;refine ad hS (by subst hS;exact e7 (by simp[AI]<;>omega) (by simp[AI]<;>omega)) ?_;split
 ·cbv;refine lj hS (AQ aq [0] rfl rfl ⟨AR _,trivial⟩) ?_;rintro pg v H' ⟨pg0,v0,h0,⟨rfl,u,h1,h2,rfl⟩,rfl,rfl,rfl⟩;cbv;exact⟨[],by simp,hF (h1:=[g9 n u]) (.cons (.refl _) (.nil _)) (AA _) (by simp) (.inr rfl) ⟨rfl,u,h1,h2,rfl⟩⟩
 ·rename_i h;exfalso;subst hS;simp[AI] at h;omega
theorem i4e {n:Nat}(hn:n<=12)(g:Nat->Int):ay AC 154 [.bi 0 1 AP n AL] [g9 n g] (i4k n g):=by
 obtain⟨z,hz⟩:=i6w n hn;have aq:=i6h hn g z;refine mh AB ci f0u rfl fun E Sg hb hS F hF=> ?_;simp only[AK,AJ] at hb;have ew:Sg.Wc .u64 (Sg.ofNat n)=(n:Int):=by subst hS;simp[AI,AN,AO,AM];omega
 cbv;simp only[ew];refine bf hS (int z) hz ?_;cbv;refine lj hS (AQ (args':=[.bi 0 1 AP n AL,int 0,.d (.int .i64 (.v (Sg.ofNat n))),int z]) (aq.LE (.cons (AA _) (.cons (AA _) (.cons (br (by subst hS;rfl)) (.cons (AA _) .nil))))) [0] rfl rfl ⟨AR _,trivial⟩) ?_;rintro pg v H' ⟨pg0,v0,h0,⟨rfl,u,h1,h2,rfl⟩,rfl,rfl,rfl⟩;cbv;exact⟨[],by simp,hF (h1:=[g9 n u]) (.cons (.refl _) (.nil _)) (AA _) (by simp) (.inr rfl) ⟨rfl,u,h1,h2,rfl⟩⟩
theorem i1j {g:Nat->Int}: ∀{n:Nat},(∀i,i<n->1<=g i/\g i<=12)->dv g n<=((12^n:Nat):Int)
 |0,_=>by simp[dv]
 |n+1,h=>by have h1:=i1j (g:=g) (n:=n) fun i hi=>h i (by omega);have h2:=h n (by omega);have h3:=Ky (g:=g) (n:=n) fun i hi=>(h i (by omega)).1;have:dv g n*g n<=((12^n:Nat):Int)*12:=Int.mul_le_mul h1 h2.2 (by omega) (by omega);rw[dv,Nat.pow_succ];simpa using this
theorem i8s: ∀n:Nat,n<=6->12^n<=2985984
 |0,_=>by decide
 |1,_=>by decide
 |2,_=>by decide
 |3,_=>by decide
 |4,_=>by decide
 |5,_=>by decide
 |6,_=>by decide
 |n+7,h=>by omega
theorem h5l {n m:Nat}(hn:n<=1000000)(hm:m<=12)(g h:Nat->Int)(r:Int)(hr:pr n m g h=r):au AC AH 119 [ac n g,ac m h] (int r):=by
 obtain⟨z,hz⟩: ∃z:Bool,z=AH↔ ∀i,i<n->1<=g i/\g i<=12:=by classical exact⟨decide _,decide_eq_true_iff⟩
 have hw:=h7d 1 12 hn g z hz;have ig:=i3m (n:=m) (by omega) h;unfold pr at hr;refine su (cr AB ci e8b _ rfl fun E Sg hb hS=> ?_);have e8: ∀z,Sg.toNat z=z.toNat:=by subst hS;exact fun _=>rfl
 cbv;split
 ·have h6:6<n:=by subst hS;simp[AI] at*;omega
  cbv;exact bg (by rw[<-hr,if_pos h6];rfl)
 have h6: ¬6<n:=by subst hS;simp[AI] at*;omega
 rw[if_neg h6] at hr;cbv;refine bf hS (bool z) (by subst hS;exact hw) ?_;cases z
 ·have LH: ¬ ∀i,i<n->1<=g i/\g i<=12:=fun h=>AE (hz.2 h);cbv;exact bg (by rw[<-hr,if_pos LH];rfl)
 have hz:=hz.1 rfl;rw[if_neg (fun h=>h hz)] at hr;cbv;refine gg AB ci hS (σ:=Nat×Int) (fun s=>s.1<=n/\s.2=dv g s.1) (fun s=>n-s.1)
  (fun s=>⟨dn [(0,ac n g),(1,ac m h),(5,int s.2),(17,ac n g),(18,int n),(19,int s.1)] 39,[],[]⟩) (0,1) ⟨by simp,rfl⟩ ?_ ?_
 ·exact bq rfl ⟨AA _,AA _,bg rfl,AA _,br (by subst hS;rfl),bg rfl,trivial⟩ (.nil _) (by omega) (.inr rfl) rfl
 ·rintro⟨i,p⟩ ⟨Hj,jx⟩ N hN;simp only at Hj jx hN;cbv;split
  ·have hlt:i<n:=by subst hS;simp[AI] at*;omega
   have Jc:1<=dv g (i+1):=Ky fun j hj=>(hz j (by omega)).1;have Pt:dv g (i+1)<=2985984:=Ab (i1j fun j hj=>hz j (by omega)) (by have:=i8s (i+1) (by omega);omega);have SP:dv g (i+1)=p*g i:=by rw[jx];rfl
   rw[SP] at Jc Pt;cbv;refine ad hS (by subst hS;simp[AI];omega) ?_;simp only[AU,e8,AD,AF];refine ad hS (by subst hS;exact e7 (by simp[AI];omega) (by simp[AI];omega)) ?_;refine ad hS (by subst hS;exact e7 (by simp[AI];omega) (by simp[AI];omega)) ?_;exact hN (i+1,p*g i) _ ⟨by simp;omega,SP.symm⟩ (by simp;omega) (bq rfl ⟨AA _,AA _,br (by subst hS;simp[AI]),AA _,AA _,br (by subst hS;simp[AI]),trivial⟩ (.nil _) (by omega) (.inr rfl) rfl)
  ·have aq:i=n:=by subst hS;simp[AI] at*;omega
   subst aq;cbv;split
   ·have:2000<dv g i:=by rw[<-jx];subst hS;simp[AI] at*;omega
    cbv;exact bg (by rw[<-hr,if_pos this];rfl)
   have hpr: ¬2000<dv g i:=by rw[<-jx];subst hS;simp[AI] at*;omega
   rw[if_neg hpr] at hr;cbv;refine lj hS (AQ ig [] rfl rfl trivial) ?_;rintro pg v H' ⟨pg0,v0,h0,⟨rfl,rfl,rfl⟩,rfl,rfl,rfl⟩;cbv;refine lj hS (AQ (i4e hm h) [0] rfl rfl ⟨AR _,trivial⟩) ?_;rintro pg v H' ⟨pg0,v0,h0,⟨rfl,u,h1,h2,rfl⟩,rfl,rfl,rfl⟩;obtain⟨z,eb⟩: ∃z:Bool,z=AH↔L m u=L i (fun k=>(k:Int)):=by classical exact⟨decide _,decide_eq_true_iff⟩
   have heq:=JR (n:=m) (m:=i) (by omega) u (fun k=>(k:Int)) z eb;have hio:L m u=L i (fun k=>(k:Int))↔y5 i m h:=by
    constructor
    ·intro e;have el:m=i:=by simpa [jt] using congrArg AZ e
     subst el;refine (h6n h1 h2).1 fun j hj=> ?_;have:=congrArg (fun l=>l[j]?) e;simpa [L,hj] using this
    ·intro e;have el:m=i:=e.1;subst el;exact JH ((h6n h1 h2).2 e)
   rw[hio] at eb;cbv;refine bf hS (ac i fun k=>(k:Int)) (by subst hS;exact h6o (by omega)) ?_;cbv;refine ad hS (by subst hS;simp[AI]) ?_;refine bf hS (bool z) (by subst hS;exact heq) ?_;cases z
   ·cbv;exact bg (by rw[<-hr,if_neg (fun h=>AE (eb.2 h))];rfl)
   ·cbv;exact bg (by rw[<-hr,if_pos (eb.1 rfl)];rfl)
theorem i0y (v:g8)(h0:0<=v.fault)(r:Bool)(hr:r=AH↔gb v):au AC AH 229 [v.av] (bool r):=by
 obtain⟨f,n⟩:=v;simp only at h0;simp only[gb] at hr;refine j6 (cr AB ci f0l _ rfl fun E Sg hb hS=> ?_);have aq:=h6p (-9999) 9999 n (decide (-9999<=n/\n<=9999)) decide_eq_true_iff;generalize hz:decide (-9999<=n/\n<=9999)=z at aq;cbv;split
 ·have h1:f≠0:=by subst hS;simp[AI] at*;omega
  rw[if_neg h1] at hr;cbv;split<;>cbv
  all_goals subst hS;simp[AI] at*;exact ga (by cases r<;>simp at* <;>omega)
 ·have h1:f=0:=by subst hS;simp[AI] at*;omega
  rw[if_pos h1] at hr;cbv;refine bf hS (bool z) (by subst hS;exact aq) ?_;cbv;exact ga (by cases r<;>cases z<;>simp at* <;>omega)
theorem i6z (v:g8)(h0:0<=v.fault)(r:Bool)(hr:r=AH↔ ¬gb v):ay AC 262 [v.av,.ptr 0 0] [.var [.fn 229 [] []]] (ro [.var [.fn 229 [] []]] (bool r)):=by
 obtain⟨z,hz⟩: ∃z:Bool,z=AH↔gb v:=by classical exact⟨decide _,decide_eq_true_iff⟩
 have h1:=i0y v h0 z hz;have qv:r=!z:=by
  cases z
  ·exact hr.2 fun h=>AE (hz.2 h)
  ·cases r
   ·rfl
   ·exact absurd (hz.1 rfl) (hr.1 rfl)
 obtain⟨f,n⟩:=v;refine l7 AB ci f2c _ rfl fun E Sg hb hS=> ?_;simp only[AK,AJ] at hb;cbv;refine lu hS (Ad (h:=[.var [.fn 229 [] []],.var [u8 f,int n]]) rfl h1) ?_;subst qv;cases z<;>cbv<;>exact j7 (ga rfl) (.cons (.refl _) (.nil _)) (.inl ⟨rfl,rfl⟩)
theorem i1a {n:Nat}(hn:n<=1000000)(f:Nat->g8)(H:List ae)(gid:FuncId)(a:Nat)(p:Nat->Bool)
 (hp: ∀i,i<n->ay AC gid [(f i).av,.ptr a 0] H (ro H (bool (p i)))) (r:Int) (hr:uq n p r):
 ay AC 251 [d7 n f,.fn gid [] [.ptr a 0]] H (ro H (int r)):=by
 obtain⟨ef,jf,wy⟩: ∃ef jf,f=fun i=>g8.mk (ef i) (jf i):=⟨fun i=>(f i).fault,fun i=>(f i).n,rfl⟩;subst wy;refine l7 AB ci TC _ rfl fun E Sg hb hS=> ?_;have e8: ∀z,Sg.toNat z=z.toNat:=by subst hS;exact fun _=>rfl
 cbv;refine gg AB ci hS (fun i=>i<=n/\ ∀j,j<i->p j=AL) (fun i=>n-i)
  (fun i=>⟨dn [(0,d7 n (fun i=>⟨ef i,jf i⟩)),(1,.fn gid [] [.ptr a 0]),(7,int n),(8,int i)] 19,H,[]⟩) 0 ⟨by omega,by omega⟩ ?_ ?_
 ·exact bq rfl ⟨AA _,AA _,br (by subst hS;rfl),bg rfl,trivial⟩ (.same _) (by omega) (.inr rfl) rfl
 ·intro i hi N hN;have aq:=hp i;clear hp;cbv;split
  ·cbv;have hlt:i<n:=by clear aq hN hr;subst hS;simp[AI] at*;omega
   have aq:=aq hlt;generalize hz:p i=z at aq;refine ad hS (by clear aq hN hr;subst hS;simp[AI];omega) ?_;simp only[AU,e8,AD,AF];refine lu hS (r:=bool z) (by subst hS;exact aq) ?_;cases z
   ·cbv;refine ad hS (by clear aq hN hr;subst hS;exact e7 (by simp[AI];omega) (by simp[AI];omega)) ?_;refine hN (i+1) _ ⟨by omega,fun j hj=> ?_⟩ (by omega) (bq rfl ⟨AA _,AA _,AA _,br ?_,trivial⟩ (.same _) (by omega) (.inr rfl) rfl)
    ·by_cases e:j=i
     ·subst e;exact hz
     ·exact hi.2 j (by omega)
    ·clear aq hN hr;subst hS;simp[AI]
   ·cbv;exact j7 (br (hr.2 i hlt hz hi.2).symm) (.same _) (.inr rfl)
  ·have p0:n<=i:=by clear aq hN hr;subst hS;simp[AI] at*;omega
   cbv;exact j7 (bg (hr.1 fun j hj=>hi.2 j (by omega)).symm) (.same _) (.inr rfl)
theorem h7y {n:Nat}(hn:n<=1000000)(f:Nat->g8)(H:List ae)(gid:FuncId)(a:Nat)(p:Nat->Bool)
 (hp: ∀i,i<n->ay AC gid [(f i).av,.ptr a 0] H (ro H (bool (p i)))) (r:Bool) (hr:r=AH↔ ∃i,i<n/\p i=AH):
 ay AC 208 [d7 n f,.fn gid [] [.ptr a 0]] H (ro H (bool r)):=by
 obtain⟨z,hz,jl,eb⟩: ∃z,uq n p z/\(0<=z-> ∃i,i<n/\p i=AH)/\((∃i,i<n/\p i=AH)->0<=z):=JS n p;have aq:=i1a hn f H gid a p hp z hz;have qv:0<=z↔r=AH:=⟨fun h=>hr.2 (jl h),fun h=>eb (hr.1 h)⟩;clear hp hz jl eb hr;refine l7 AB ci Ty _ rfl fun E Sg hb hS=> ?_;cbv;refine lu hS aq ?_;cbv;refine j7 (ga ?_) (.same _) (.inr rfl);clear aq;subst hS;simp[AI];cases r
 ·simp at qv⊢;omega
 ·simpa using qv
theorem JJ {n:Nat}{P:Nat->Prop}{p:Nat->Bool}(hp: ∀i,p i=AH↔ ¬P i){r:Bool}(hr:r=AH↔ ∀i,i<n->P i):(!r)=AH↔ ∃i,i<n/\p i=AH:=by
 cases r
 ·have hr: ¬ ∀i,i<n->P i:=fun h=>AE (hr.2 h);simp only[AX,true_iff];exact AG fun h=>hr fun i hi=>AG fun h'=>h ⟨i,hi,(hp i).2 h'⟩
 ·have hr:=hr.1 rfl;simp only[AY,AT,false_iff];rintro⟨i,hi,h⟩;exact (hp i).1 h (hr i hi)
theorem i2y {n:Nat}(hn:n<=1000000)(f:Nat->g8)(h0: ∀i,i<n->0<=(f i).fault)(r:Bool)(hr:r=AH↔ ∀i,i<n->gb (f i)):au AC AH 228 [d7 n f,.fn 229 [] []] (bool r):=by
 obtain⟨p,hp⟩: ∃p:Nat->Bool,∀i,p i=AH↔ ¬gb (f i):=by classical exact⟨fun i=>decide (¬gb (f i)),fun i=>decide_eq_true_iff⟩
 have aq:=h7y hn f [.var [.fn 229 [] []]] 262 0 p (fun i hi=>i6z (f i) (h0 i hi) (p i) (hp i)) (!r) (JJ hp hr);clear hr hp;refine j6 (cr AB ci e9s _ rfl fun E Sg hb hS=> ?_);cbv;refine lu hS aq ?_;cases r<;>cbv
 ·exact ga rfl
 ·exact ga rfl
theorem i4z {n:Nat}(hn:n<=1000000)(g:Nat->Int)(v:Int)(r:Int)(hr:uq n (fun i=>decide (v=g i)) r):au AC AH 271 [ac n g,int v] (int r):=by
 refine su (cr AB ci f0w _ rfl fun E Sg hb hS=> ?_);have e8: ∀z,Sg.toNat z=z.toNat:=by subst hS;exact fun _=>rfl
 cbv;refine gg AB ci hS (fun i=>i<=n/\ ∀j,j<i->v≠g j) (fun i=>n-i)
  (fun i=>⟨dn [(0,ac n g),(1,int v),(7,int n),(8,int i)] 19,[],[]⟩) 0 ⟨by omega,by omega⟩ ?_ ?_
 ·exact bq rfl ⟨AA _,AA _,br (by subst hS;rfl),bg rfl,trivial⟩ (.nil _) (by omega) (.inr rfl) rfl
 ·intro i hi N hN;cbv;split
  ·have hlt:i<n:=by clear hr;subst hS;simp[AI] at*;omega
   cbv;refine ad hS (by subst hS;simp[AI];omega) ?_;simp only[AU,e8,AD,AF];split
   ·have hx:v=g i:=by clear hr;subst hS;simp[AI] at*;assumption
    cbv;exact br (hr.2 i hlt (decide_eq_true hx) fun j hj=>decide_eq_false (hi.2 j hj)).symm
   ·have hx:v≠g i:=by clear hr;subst hS;simp[AI] at*;assumption
    cbv;refine ad hS (by subst hS;exact e7 (by simp[AI];omega) (by simp[AI];omega)) ?_;refine hN (i+1) _ ⟨by omega,fun j hj=> ?_⟩ (by omega) (bq rfl ⟨AA _,AA _,AA _,br (by subst hS;simp[AI]),trivial⟩ (.nil _) (by omega) (.inr rfl) rfl);by_cases e:j=i
    ·subst e;exact hx
    ·exact hi.2 j (by omega)
  ·have p0:n<=i:=by clear hr;subst hS;simp[AI] at*;omega
   cbv;exact bg (hr.1 fun j hj=>decide_eq_false (hi.2 j (by omega))).symm
def WV (od:Nat->Int)(no:Nat)(v:Int):Int:=if pos od v no 0<no then (pos od v no 0:Int) else-1
theorem i0i (od:Nat->Int)(no:Nat)(v:Int):uq no (fun i=>decide (v=od i)) (WV od no v):=by
 constructor
 ·intro h;have:pos od v no 0=0+no:=h6w fun l _ hl=>by have:=of_decide_eq_false (h l (by omega));exact fun e=>this e.symm
  rw[WV,if_neg (by omega)]
 ·intro i hi hp hj;have:pos od v no 0=i:=TM (by omega) (by omega) (of_decide_eq_true hp).symm fun l _ hl=>by have:=of_decide_eq_false (hj l hl);exact fun e=>this e.symm
  rw[WV,this,if_pos hi]
theorem i1b {ns no:Nat}(jn:no<=1000000)(sz od:Nat->Int)(v:Int):au AC AH 265 [.agg [ac ns sz,ac no od],int v] (int (WV od no v)):=by have h1:=i4z jn od v _ (i0i od no v);generalize WV od no v=r at h1;refine su (cr AB ci f0v _ rfl fun E Sg hb hS=> ?_);cbv;refine bf hS (int r) (by subst hS;exact h1) ?_;cbv;exact AA _
theorem R8 (k:Int)(hk: -1000001<=k)(cp:k<=1000000):au AC AH 200 [int k] (int (-1-k)):=by refine su (cr AB ci e7m _ rfl fun E Sg hb hS=> ?_);generalize hr: -1-k=r;cbv;refine ad hS (by subst hS;exact e7 (by simp[AI];omega) (by simp[AI];omega)) ?_;refine br ?_;subst hS;simp[AI];omega
theorem i4i (k:Int)(hk:rq k)(h0:k<0):au AC AH 200 [int k] (int (-1-k)):=by simp only[rq] at hk;refine su (cr AB ci e7m _ rfl fun E Sg hb hS=> ?_);generalize hr: -1-k=r;cbv;refine ad hS (by subst hS;exact e7 (by simp[AI];omega) (by simp[AI];omega)) ?_;refine br ?_;subst hS;simp[AI];omega
def g7.Xa (d:g7):AV:= .agg [ac d.ns d.sz,ac d.no d.od,ac d.ns d.sz,ac d.no d.od,d7 d.ne d.en,WD d.nn d.var d.nk d.dq,int d.root]
def yh (d:g7)(k below XA:Int):Prop:=if k<0 then-1-k<d.ne else k<below/\XA<WV d.od d.no (d.var k.toNat)
theorem h9f (d:g7)(hd:d.no<=1000000)(k below XA:Int)(hw:rq k)(hb:0<=k->k<below->k<d.nn)(r:Bool)(hr:r=AH↔yh d k below XA):au AC AH 232 [d.Xa,int k,int below,int XA] (bool r):=by
 have GK:=fun v=>i1b (ns:=d.ns) hd d.sz d.od v;have he:=fun h0=>i4i k hw h0;simp only[yh] at hr;obtain⟨q,hq⟩:=xB fun v:Int=>WV d.od d.no v;simp only[hq] at GK hr;clear hq;obtain⟨ns,sz,no,od,ne,en,nn,var,nk,dq,root⟩:=d;simp only at GK hr hb;refine j6 (cr AB ci f1y _ rfl fun E Sg k7 hS=> ?_);have e8: ∀z,Sg.toNat z=z.toNat:=by subst hS;exact fun _=>rfl
 cbv;split
 ·have h0:k<0:=by clear GK hr he;subst hS;simp[AI] at*;assumption
  rw[if_pos h0] at hr;obtain⟨e,hee⟩:=xA (-1-k);have he:=he h0;rw[hee] at he hr;cbv;refine bf hS (int e) (by subst hS;exact he) ?_;cbv;refine ad hS (by clear GK he hr;subst hS;simp[AI]) ?_;refine ga ?_;clear GK he;subst hS;simp only[AI];cases r
  ·exact decide_eq_false fun h=>AE (hr.2 h)
  ·exact decide_eq_true (hr.1 rfl)
 ·have h0: ¬k<0:=by clear GK hr he;subst hS;simp[AI] at*;omega
  rw[if_neg h0] at hr;cbv;split
  ·have hlt:k<below:=by clear GK hr he;subst hS;simp[AI] at*;assumption
   have sj:=hb (by omega) hlt;cbv;refine ad hS (by subst hS;exact⟨by omega,sj⟩) ?_;simp only[AU,e8,AD,AF];refine bf hS (int (q (var k.toNat))) (by subst hS;exact GK _) ?_;cbv;refine ga ?_;clear GK he;subst hS;simp only[AI];cases r
   ·exact decide_eq_false fun h=>AE (hr.2 ⟨hlt,h⟩)
   ·exact decide_eq_true (hr.1 rfl).2
  ·have hlt: ¬k<below:=by clear GK hr he;subst hS;simp[AI] at*;omega
   cbv;exact jq hr fun h=>hlt h.1
def Yp (d:g7)(i:Nat):Prop:=((0<=d.var i/\d.var i<=(d.ns:Int)-1)/\(d.nk i:Int)=d.sz (d.var i).toNat)/\ ∀j,j<d.nk i->yh d (d.dq i j) i (WV d.od d.no (d.var i))
theorem i5m (d:g7)(hd:d.no<=1000000)(i:Nat)(hi:i<d.nn)(k:Int)(hw:rq k)(r:Bool)(hr:r=AH↔yh d k i (WV d.od d.no (d.var i))):
 ay AC 264 [int k,.ptr 0 0,.ptr 1 0,.ptr 2 0] [.var [ac d.ns d.sz,ac d.no d.od,ac d.ns d.sz,ac d.no d.od,d7 d.ne d.en,WD d.nn d.var d.nk d.dq,int d.root],.var [int i],.var [int (d.var i),ac (d.nk i) (d.dq i)]]
  (ro [.var [ac d.ns d.sz,ac d.no d.od,ac d.ns d.sz,ac d.no d.od,d7 d.ne d.en,WD d.nn d.var d.nk d.dq,int d.root],.var [int i],.var [int (d.var i),ac (d.nk i) (d.dq i)]] (bool r)):=by
 have h1:=i1b (ns:=d.ns) hd d.sz d.od (d.var i);have h2:=h9f d hd k i (WV d.od d.no (d.var i)) hw (fun _ h=>Int.lt_trans h (Aa.2 hi)) r hr;generalize WV d.od d.no (d.var i)=q at h1 h2;clear hr;obtain⟨ns,sz,no,od,ne,en,nn,var,nk,dq,root⟩:=d;refine l7 AB ci f1g _ rfl fun E Sg hb hS=> ?_;cbv;refine bf hS (int q) (by subst hS;exact h1) ?_;cbv
 repeat' (with_reducible apply ad hS)
 all_goals try (clear h1 h2;subst hS;simp[AI];done)
 refine bf hS (bool r) (by subst hS;exact h2) ?_;cbv;exact j7 (AA _) (.same _) (.inr rfl)
theorem i6f (d:g7)(hd:d.no<=1000000)(i:Nat)(hi:i<d.nn)(k:Int)(hw:rq k)(z:Bool)(hz:z=AH↔ ¬yh d k i (WV d.od d.no (d.var i))):
 ay AC 263 [int k,.ptr 3 0] [.var [ac d.ns d.sz,ac d.no d.od,ac d.ns d.sz,ac d.no d.od,d7 d.ne d.en,WD d.nn d.var d.nk d.dq,int d.root],.var [int i],.var [int (d.var i),ac (d.nk i) (d.dq i)],.var [.fn 264 [] [.ptr 0 0,.ptr 1 0,.ptr 2 0]]]
  (ro [.var [ac d.ns d.sz,ac d.no d.od,ac d.ns d.sz,ac d.no d.od,d7 d.ne d.en,WD d.nn d.var d.nk d.dq,int d.root],.var [int i],.var [int (d.var i),ac (d.nk i) (d.dq i)],.var [.fn 264 [] [.ptr 0 0,.ptr 1 0,.ptr 2 0]]] (bool z)):=by
 have h1:=i5m d hd i hi k hw (!z) (by
  cases z
  ·exact⟨fun _=>AG fun h=>AE (hz.2 h),fun _=>rfl⟩
  ·exact⟨fun h=>AE h,fun h=>absurd h (hz.1 rfl)⟩)
 clear hz;obtain⟨ns,sz,no,od,ne,en,nn,var,nk,dq,root⟩:=d;refine l7 AB ci TD _ rfl fun E Sg hb hS=> ?_;cbv;refine lj hS (AQ h1 [0,1,2] rfl rfl ⟨AR _,AR _,AR _,trivial⟩) ?_;rintro pg v H' ⟨pg0,v0,h0,⟨rfl,rfl,rfl⟩,rfl,rfl,rfl⟩;cases z<;>cbv<;>exact j7 (ga rfl) (.same _) (.inr rfl)
theorem i5c (d:g7)(hd:d.no<=1000000)(i:Nat)(hi:i<d.nn)(hn:d.nk i<=1000000)(hw: ∀j,j<d.nk i->rq (d.dq i j))(r:Bool)(hr:r=AH↔ ∀j,j<d.nk i->yh d (d.dq i j) i (WV d.od d.no (d.var i))):
 ay AC 230 [ac (d.nk i) (d.dq i),.fn 264 [] [.ptr 0 0,.ptr 1 0,.ptr 2 0]] [.var [ac d.ns d.sz,ac d.no d.od,ac d.ns d.sz,ac d.no d.od,d7 d.ne d.en,WD d.nn d.var d.nk d.dq,int d.root],.var [int i],.var [int (d.var i),ac (d.nk i) (d.dq i)]]
  (ro [.var [ac d.ns d.sz,ac d.no d.od,ac d.ns d.sz,ac d.no d.od,d7 d.ne d.en,WD d.nn d.var d.nk d.dq,int d.root],.var [int i],.var [int (d.var i),ac (d.nk i) (d.dq i)]] (bool r)):=by
 obtain⟨p,hp⟩: ∃p:Nat->Bool,∀j,p j=AH↔ ¬yh d (d.dq i j) i (WV d.od d.no (d.var i)):=by classical exact⟨fun j=>decide (¬yh d (d.dq i j) i (WV d.od d.no (d.var i))),fun j=>decide_eq_true_iff⟩
 have aq:=h5w hn (d.dq i) _ 263 3 p (fun j hj=>i6f d hd i hi (d.dq i j) (hw j hj) (p j) (hp j)) (!r) (JJ hp hr);clear hr hp hw;obtain⟨ns,sz,no,od,ne,en,nn,var,nk,dq,root⟩:=d;refine l7 AB ci TA _ rfl fun E Sg hb hS=> ?_;simp only[AK,AJ] at hb;cbv;refine lu hS aq ?_;cases r<;>cbv<;>exact j7 (ga rfl) (.cons (.refl _) (.cons (.refl _) (.cons (.refl _) (.nil _)))) (.inl ⟨rfl,rfl⟩)
theorem h8t (d:g7)(hf:d.fit)(i:Nat)(hi:i<d.nn)(r:Bool)(hr:r=AH↔Yp d i):au AC AH 231 [d.Xa,int i] (bool r):=by
 obtain⟨z,hz⟩: ∃z:Bool,z=AH↔0<=d.var i/\d.var i<=(d.ns:Int)-1:=by classical exact⟨decide _,decide_eq_true_iff⟩
 obtain⟨z2,eb⟩: ∃z:Bool,z=AH↔ ∀j,j<d.nk i->yh d (d.dq i j) i (WV d.od d.no (d.var i)):=by classical exact⟨decide _,decide_eq_true_iff⟩
 have h1:=h6p 0 ((d.ns:Int)-1) (d.var i) z hz;have h2:=i5c d hf.no i hi (hf.nk i hi) (hf.dq i hi) z2 eb;have nu:=hf.ns;have p0:=hf.nk i hi;simp only[Yp,<-eb] at hr;clear eb hf;obtain⟨ns,sz,no,od,ne,en,nn,var,nk,dq,root⟩:=d;simp only at h1 h2 nu p0 hr hz hi;refine j6 (cr AB ci f1q _ rfl fun E Sg hb hS=> ?_);have e8: ∀z,Sg.toNat z=z.toNat:=by subst hS;exact fun _=>rfl
 cbv;refine ad hS (by clear h1 h2;subst hS;exact⟨Int.natCast_nonneg i,Aa.2 hi⟩) ?_;simp only[AU,e8,AD,AF];refine ad hS (by clear h1 h2;subst hS;exact e7 (by simp[AI];omega) (by simp[AI];omega)) ?_;refine ad hS (by clear h1 h2;subst hS;simp[AI]) ?_;refine bf hS (bool z) (by subst hS;exact h1) ?_;cases z
 ·cbv
  repeat' (with_reducible apply ad hS)
  all_goals try (clear h1 h2;subst hS;simp[AI];done)
  exact jq hr fun h=>AE (hz.2 h.1.1)
 ·have hv:=hz.1 rfl;cbv
  repeat' (with_reducible apply ad hS)
  all_goals try (clear h1 h2;subst hS;first|exact i3t hv|(simp[AI];done))
  simp only[AU,e8,AD,AF];split
  ·have ck:(nk i:Int)≠sz (var i).toNat:=by clear h1 h2;subst hS;simp[AI] at*;assumption
   cbv;exact jq hr fun h=>ck h.1.2
  ·have heq:(nk i:Int)=sz (var i).toNat:=by clear h1 h2;subst hS;simp[AI] at*;assumption
   cbv;refine lu hS h2 ?_;cbv;refine ga ?_;cases r
   ·cases z2
    ·rfl
    ·exact absurd (hr.2 ⟨⟨hv,heq⟩,rfl⟩) (by simp)
   ·exact (hr.1 rfl).2
theorem i6k (d:g7)(hf:d.fit)(i:Nat)(hi:i<d.nn)(z:Bool)(hz:z=AH↔ ¬Yp d i):
 ay AC 263 [int i,.ptr 0 0] [.var [.fn 231 [d.Xa] []]] (ro [.var [.fn 231 [d.Xa] []]] (bool z)):=by
 have h1:=h8t d hf i hi (!z) (by
  cases z
  ·exact⟨fun _=>AG fun h=>AE (hz.2 h),fun _=>rfl⟩
  ·exact⟨fun h=>AE h,fun h=>absurd h (hz.1 rfl)⟩)
 clear hz hf;obtain⟨ns,sz,no,od,ne,en,nn,var,nk,dq,root⟩:=d;refine l7 AB ci TD _ rfl fun E Sg hb hS=> ?_;cbv;refine lu hS (Ad (h:=[.var [.fn 231 [g7.Xa ⟨ns,sz,no,od,ne,en,nn,var,nk,dq,root⟩] []]]) rfl h1) ?_;cases z<;>cbv<;>exact j7 (ga rfl) (.same _) (.inr rfl)
theorem i5g (d:g7)(hf:d.fit)(r:Bool)(hr:r=AH↔ ∀i,i<d.nn->Yp d i):
 ay AC 230 [ac d.nn fun i=>(i:Int),.fn 231 [d.Xa] []] [] (ro [] (bool r)):=by
 obtain⟨p,hp⟩: ∃p:Nat->Bool,∀j,p j=AH↔ ¬Yp d j:=by classical exact⟨fun j=>decide (¬Yp d j),fun j=>decide_eq_true_iff⟩
 have aq:=h5w hf.nn (fun i=>(i:Int)) _ 263 0 p (fun j hj=>i6k d hf j hj (p j) (hp j)) (!r) (JJ hp hr);clear hr hp hf;obtain⟨ns,sz,no,od,ne,en,nn,var,nk,dq,root⟩:=d;refine l7 AB ci TA _ rfl fun E Sg hb hS=> ?_;simp only[AK,AJ] at hb;cbv;refine lu hS aq ?_;cases r<;>cbv<;>exact j7 (ga rfl) (.nil _) (.inl ⟨rfl,rfl⟩)
def i3y (d:g7):Prop:=(∀i,i<d.ne->gb (d.en i))/\(∀i,i<d.nn->Yp d i)/\yh d d.root d.nn (-1)
theorem NI {ns no:Nat}{od:Nat->Int}(h:y5 ns no od){v:Int}(hv:0<=v/\v<=(ns:Int)-1): ∃p,p<no/\pos od v no 0=p/\WV od no v=p:=by
 have hex: ∃p,p<no/\od p=v:=by
  apply AG;intro hc;have hn:no=ns:=h.1;have hlen:=QR (no-1) (L no fun i=>if od i<v then od i else od i-1) (by
   rw[NC];intro i hi k hk;have h1:=(h.2 i hi).2 k hk;have fw:od i≠v:=fun e=>hc ⟨i,hi,e⟩;have mn:od k≠v:=fun e=>hc ⟨k,by omega,e⟩;split<;>split<;>omega) (fun x hx=>by
   obtain⟨i,hi,rfl⟩:=yd.1 hx;have h1:=(h.2 i hi).1;have fw:od i≠v:=fun e=>hc ⟨i,hi,e⟩;split<;>omega)
  rw[jt] at hlen;omega
 obtain⟨p,hp,e⟩:=hex;have ck: ∀l,l<p->od l≠v:=fun l hl e2=>(h.2 p hp).2 l hl (e2.trans e.symm);have h1:pos od v no 0=p:=TM (by omega) (by omega) e fun l _ hl=>ck l hl;exact⟨p,hp,h1,by rw[WV,h1,if_pos hp]⟩
theorem i0a {d:g7}(ho:y5 d.ns d.no d.od):i3y d↔mw d:=by
 have dq:(∀i,i<d.nn->0<=d.var i/\d.var i<=(d.ns:Int)-1)-> ∀i,i<d.nn-> ∀k,(yh d k i (WV d.od d.no (d.var i))↔xz d k i/\rv d i<rv d k):=by
  intro hv i hi k;obtain⟨p,hp,e1,e2⟩:=NI ho (hv i hi);have Qd:rv d i=p:=by rw[rv,if_pos (by omega)];simpa using e1
  rw[e2,Qd];unfold yh xz;by_cases hk:k<0
  ·rw[if_pos hk,if_neg (by omega)];have:rv d k=d.no:=by rw[rv,if_neg (by omega)]
   rw[this];constructor
   ·intro h;exact⟨by omega,hp⟩
   ·intro h;omega
  ·rw[if_neg hk,if_pos (by omega)];constructor
   ·rintro⟨h1,h2⟩;obtain⟨q,hq,f1,f2⟩:=NI ho (hv k.toNat (by omega));have:rv d k=q:=by rw[rv,if_pos (by omega)];exact f1
    rw[this];rw[f2] at h2;exact⟨h1,by omega⟩
   ·rintro⟨h1,h2⟩;obtain⟨q,hq,f1,f2⟩:=NI ho (hv k.toNat (by omega));have:rv d k=q:=by rw[rv,if_pos (by omega)];exact f1
    rw[this] at h2;rw[f2];exact⟨h1,by omega⟩
 have root:(∀i,i<d.nn->0<=d.var i/\d.var i<=(d.ns:Int)-1)->(yh d d.root d.nn (-1)↔xz d d.root d.nn):=by
  intro hv;unfold yh xz;by_cases hk:d.root<0
  ·rw[if_pos hk,if_neg (by omega)];omega
  ·rw[if_neg hk,if_pos (by omega)];constructor
   ·exact fun h=>h.1
   ·intro h;obtain⟨q,hq,f1,f2⟩:=NI ho (hv d.root.toNat (by omega));rw[f2];exact⟨h,by omega⟩
 unfold i3y mw;constructor
 ·rintro⟨a,b,c⟩;have hv:=fun i hi=>(b i hi).1.1;exact⟨a,fun i hi=>⟨(b i hi).1,fun j hj=>(dq hv i hi _).1 ((b i hi).2 j hj)⟩,(root hv).1 c⟩
 ·rintro⟨a,b,c⟩;have hv:=fun i hi=>(b i hi).1.1;exact⟨a,fun i hi=>⟨(b i hi).1,fun j hj=>(dq hv i hi _).2 ((b i hi).2 j hj)⟩,(root hv).2 c⟩
def Tu:AV:= .agg [.d .nil,.d .nil,.d .nil,.d .nil,.d .nil,.d .nil,int 0]
theorem h7g (d:g7)(hf:d.fit)(h0: ∀i,i<d.ne->0<=(d.en i).fault)(jn:d.no<=12)(r:Int)(hr:Gi d=r):
 ∃v,(v=d.Xa\/pr d.ns d.no d.sz d.od≠0/\v=Tu)/\au AC AL 196 [d.av] (.tuple [v,int r]):=by
 obtain⟨e,he⟩:=xA (pr d.ns d.no d.sz d.od);have h1:=h5l hf.ns jn d.sz d.od e he;obtain⟨z1,jl⟩: ∃z:Bool,z=AH↔ ∀i,i<d.ne->gb (d.en i):=by classical exact⟨decide _,decide_eq_true_iff⟩
 obtain⟨z2,eb⟩: ∃z:Bool,z=AH↔ ∀i,i<d.nn->Yp d i:=by classical exact⟨decide _,decide_eq_true_iff⟩
 obtain⟨z3,LR⟩: ∃z:Bool,z=AH↔yh d d.root d.nn (-1):=by classical exact⟨decide _,decide_eq_true_iff⟩
 have h2:=i2y hf.ne d.en h0 z1 jl;have h3:=i5g d hf z2 eb;have h4:=h9f d hf.no d.root d.nn (-1) hf.root (fun _ h=>h) z3 LR;have h5:=h6o hf.nn;have wz:=hf.nn;rw[Gi,he] at hr;have r1:e≠0->e=r:=fun h=>by rw[<-hr,if_pos h]
 have r2:e=0->6000<d.nn->5=r:=fun h g=>by rw[<-hr,if_neg (fun k=>k h),if_pos g]
 have hl:e=0->((z1=AH/\z2=AH/\z3=AH)↔mw d):=fun h=>by rw[<-i0a (IU (he.trans h)).2.2.2,jl,eb,LR];exact Iff.rfl
 have r3:e=0-> ¬6000<d.nn->z1=AH->z2=AH->z3=AH->0=r:=fun h g a b c=>by rw[<-hr,if_neg (fun k=>k h),if_neg g,if_pos ((hl h).1 ⟨a,b,c⟩)]
 have r4:e=0-> ¬6000<d.nn-> ¬(z1=AH/\z2=AH/\z3=AH)->4=r:=fun h g a=>by rw[<-hr,if_neg (fun k=>k h),if_neg g,if_neg (fun k=>a ((hl h).2 k))]
 clear hr hl jl eb LR hf h0;by_cases hz:e=0
 ·refine⟨d.Xa,.inl rfl,?_⟩;subst hz;obtain⟨ns,sz,no,od,ne,en,nn,var,nk,dq,root⟩:=d;simp only at h1 h2 h3 h4 h5 wz r2 r3 r4 jn;obtain⟨res,cq⟩: ∃res,res=g7.Xa ⟨ns,sz,no,od,ne,en,nn,var,nk,dq,root⟩:=⟨_,rfl⟩;rw[<-cq];refine cr AB ci f0j _ rfl fun E Sg hb hS=> ?_;have e8: ∀z,Sg.toNat z=z.toNat:=by subst hS;exact fun _=>rfl
  cbv;refine bf hS (int 0) (by subst hS;exact h1) ?_;cbv;split
  ·rename_i h;exfalso;clear h1 h2 h3 h4 h5;subst hS;simp[AI] at h
  cbv;split
  ·have h6:6000<nn:=by clear h1 h2 h3 h4 h5;subst hS;simp[AI] at*;omega
   cbv;subst cq;exact AS (.cons (AA _) (.cons (bg (r2 trivial h6)) .nil))
  have h6: ¬6000<nn:=by clear h1 h2 h3 h4 h5;subst hS;simp[AI] at*;omega
  cbv;refine bf hS (bool z1) (by subst hS;exact h2) ?_;cases z1
  ·cbv;subst cq;exact AS (.cons (AA _) (.cons (bg (r4 trivial h6 (by simp))) .nil))
  cbv;refine bf hS (ac nn fun i=>(i:Int)) (by subst hS;exact h5) ?_;cbv;refine ad hS (by clear h1 h2 h3 h4 h5;subst hS;simp[AI]) ?_;refine lj hS (AQ h3 [] rfl rfl trivial) ?_;rintro pg v H' ⟨pg0,v0,h0,⟨rfl,rfl,rfl⟩,rfl,rfl,rfl⟩;cases z2
  ·cbv;subst cq;exact AS (.cons (AA _) (.cons (bg (r4 trivial h6 (by simp))) .nil))
  cbv;refine bf hS (bool z3) (by subst hS;exact h4) ?_;cases z3
  ·cbv;subst cq;exact AS (.cons (AA _) (.cons (bg (r4 trivial h6 (by simp))) .nil))
  ·cbv;subst cq;exact AS (.cons (AA _) (.cons (bg (r3 trivial h6 rfl rfl rfl)) .nil))
 ·refine⟨Tu,.inr ⟨fun h=>hz (he.symm.trans h),rfl⟩,?_⟩;obtain⟨ns,sz,no,od,ne,en,nn,var,nk,dq,root⟩:=d;simp only at h1;obtain⟨res,cq⟩: ∃res,res=Tu:=⟨_,rfl⟩;rw[<-cq];refine cr AB ci f0j _ rfl fun E Sg hb hS=> ?_;cbv;refine bf hS (int e) (by subst hS;exact h1) ?_;cbv;split
  ·cbv;subst cq;exact AS (.cons (fl.agg (.cons (AA _) (.cons (AA _) (.cons (AA _) (.cons (AA _) (.cons (AA _) (.cons (AA _) (.cons (bg rfl) .nil)))))))) (.cons (br (r1 hz)) .nil))
  ·rename_i h;exfalso;clear h1 h2 h3 h4 h5;subst hS;simp[AI] at h;exact hz h
def A_ (ns no:Nat)(sz od:Nat->Int)(pg:List Nat)(v:AV)(h':List ae):Prop:=
 pg=[]/\v= .ptr 3 0/\h'=[.var [.any,.any],.map AH [.u8,.i64] 0 (fun _=>AP),.map AH [.i64,.i64,.i64,.i64,.i64,.i64,.i64,.i64,.i64,.i64,.i64,.i64,.i64] 0 (fun _=>AP),
  .var [ac ns sz,ac no od,ac ns sz,ac no od,.d .nil,.d .nil,int 0,.map 1,.map 2]]
theorem h8o {ns no:Nat}(hs:ns<=1000000)(ho:no<=1000000)(sz od:Nat->Int):ay AC 236 [.agg [ac ns sz,ac no od]] [] (A_ ns no sz od):=by have h1:=i2c hs sz;have h2:=i2c ho od;refine mh AB ci e8n rfl fun E Sg hb hS F hF=> ?_;simp only[AJ] at hb;cbv;refine bf hS (ac ns sz) (by subst hS;exact h1) ?_;cbv;refine bf hS (ac no od) (by subst hS;exact h2) ?_;cbv;exact⟨[],by simp,hF (.cons (Ac (.cons (.any _) (.cons (.any _) .nil))) (.cons (.refl _) (.cons (.refl _) (.cons (Ac (.cons (AA _) (.cons (AA _) (.cons (AA _) (.cons (AA _) (.cons (AA _) (.cons (AA _) (.cons (bg rfl) (.cons (AA _) (.cons (AA _) .nil)))))))))) (.nil _))))) (AA _) (by simp) (.inr rfl) ⟨rfl,rfl,rfl⟩⟩
abbrev LZ:List IntKind:=[.i64,.i64,.i64,.i64,.i64,.i64,.i64,.i64,.i64,.i64,.i64,.i64,.i64]
def WH (ns no:Nat)(sz od:Nat->Int)(q1 q2:Nat)(f1 f2:List KC->Option Int)(e1 e2:Nat->List DV):List ae:=
 [.var [ac ns sz,ac no od,ac ns sz,ac no od,.bi 3 2 AP q1 AL,.bi 4 2 AP q2 AL,int 0,.map 1,.map 2],.map AH [.u8,.i64] q1 f1,.map AH LZ q2 f2,.arr 2 q1 e1,.arr 2 q2 e2]
def i9g (ns no:Nat)(sz od:Nat->Int)(q1 q2:Nat)(f1 f2:List KC->Option Int)(e1 e2:Nat->List DV)(c:g8)(pg:List Nat)(v:AV)(h':List ae):Prop:=
 pg=[3]/\((∃z,f1 [.i c.fault,.i c.n]=some z/\v=int (-1-z)/\h'=WH ns no sz od q1 q2 f1 f2 e1 e2)\/
  (f1 [.i c.fault,.i c.n]=AP/\v=int (-1-(q1:Int))/\h'=WH ns no sz od (q1+1) q2 (fun k=>if k=[.i c.fault,.i c.n] then some (q1:Int) else f1 k) f2 (fun i=>if i<q1 then e1 i else c.row) e2))
theorem i6d {ns no:Nat}(sz od:Nat->Int){q1 q2:Nat}(hq:q1<=1000000)(f1 f2:List KC->Option Int)(e1 e2:Nat->List DV)(c:g8)
 (hf: ∀z,f1 [.i c.fault,.i c.n]=some z->0<=z/\z<=1000000) (hc:(0<=c.fault/\c.fault<=4)/\ -9999<=c.n/\c.n<=9999):ay AC 238 [.ptr 0 0,c.av] (WH ns no sz od q1 q2 f1 f2 e1 e2) (i9g ns no sz od q1 q2 f1 f2 e1 e2 c):=by
 obtain⟨cf,cn⟩:=c;simp only at hf hc;refine mh AB ci e8i rfl fun E Sg hb hS F hF=> ?_;simp only[WH,AK,AJ] at hb;cases hk:f1 [.i cf,.i cn] with
 |some z=>
  have hz:=hf z hk;have hh:Sg.WG f1 [.i cf,.i cn]=AH:=by subst hS;simp[AI,hk]
  have hg:Sg.W6 f1 [.i cf,.i cn]=z:=by subst hS;simp[AI,hk]
  have he:=R8 z (by omega) (by omega);cbv;simp only[hh,hg];cbv;refine ad hS (by clear he;subst hS;simp[AI,AN,AO,AM];omega) ?_;refine ad hS (by clear he;subst hS;exact e7 (by omega) (by omega)) ?_;refine bf hS (int (-1-z)) (by subst hS;exact he) ?_;cbv;refine⟨[3],by simp,hF (h1:=WH ns no sz od q1 q2 f1 f2 e1 e2) (.cons (.refl _) (.cons (.refl _) (.cons (.refl _) (.cons (.refl _) (.cons (.refl _) (.nil _)))))) (v0:=int (-1-z)) (AA _) (by simp[WH]) (.inl ⟨rfl,rfl⟩) ⟨rfl,.inl ⟨z,hk,rfl,rfl⟩⟩⟩
 |none=>
  have hh:Sg.WG f1 [.i cf,.i cn]=AL:=by subst hS;simp[AI,hk]
  have he:=R8 (q1:Int) (by omega) (by omega);cbv;simp only[hh];cbv;refine ad hS (by clear he;subst hS;simp[AI,AN,AO,AM];omega) ?_;refine ad hS (by clear he;subst hS;exact e7 (by omega) (by omega)) ?_;refine ad hS (by clear he;subst hS;simp[AI,AN,AO,AM];omega) ?_;refine ad hS (by clear he;subst hS;exact e7 (by omega) (by omega)) ?_;refine ad hS (by clear he;subst hS;simp[AI]) ?_;refine ad hS trivial ?_;refine ad hS (by clear he;subst hS;simp[AI];omega) ?_;refine bf hS (int (-1-(q1:Int))) (by subst hS;exact he) ?_;cbv;refine⟨[3],by simp,hF (h1:=WH ns no sz od (q1+1) q2 (fun k=>if k=[.i cf,.i cn] then some (q1:Int) else f1 k) f2 (fun i=>if i<q1 then e1 i else g8.row ⟨cf,cn⟩) e2)
   (.cons (Ac (.cons (AA _) (.cons (AA _) (.cons (AA _) (.cons (AA _) (.cons (by clear he;subst hS;exact AA _) (.cons (AA _) (.cons (AA _) (.cons (AA _) (.cons (AA _) .nil))))))))))
     (.cons (bx.map (by clear he;subst hS;simp[AI,hk]) (fun k=>by clear he;subst hS;simp[AI])) (.cons (.refl _) (.cons (bx.Yc (by clear he;subst hS;rfl) (fun i hi=> ?_)) (.cons (.refl _) (.nil _)))))) (v0:=int (-1-(q1:Int))) (AA _) (by simp[WH]) (.inl ⟨rfl,rfl⟩) ⟨rfl,.inr ⟨hk,rfl,rfl⟩⟩⟩
  clear he;subst hS;simp only[AI] at hi⊢;split
  ·rfl
  ·have:i-q1=0:=by omega
   rw[this];rfl
def kH (n:Nat)(u:Nat->Int):List ae:=[g9 n u,.var [.bi 0 1 AP n AL]]
theorem i4x {n:Nat}(hn:1<=n)(u:Nat->Int)(x:Int)(r:Bool)(hr:r=AH↔x=u 0):ay AC 266 [int x,.ptr 1 0] (kH n u) (ro (kH n u) (bool r)):=by
 refine l7 AB ci e7v _ rfl fun E Sg hb hS=> ?_;have e8: ∀z,Sg.toNat z=z.toNat:=by subst hS;exact fun _=>rfl
 cbv
 repeat' (with_reducible apply ad hS)
 all_goals try (subst hS;simp[AI]<;>omega;done)
 simp only[AU,e8,AD,AF]
 repeat' (with_reducible apply ad hS)
 all_goals try (subst hS;simp[AI]<;>omega;done)
 refine j7 (ga ?_) (.same _) (.inr rfl);subst hS;simp only[AI];cases r
 ·exact decide_eq_false fun h=>AE (hr.2 h)
 ·exact decide_eq_true (hr.1 rfl)
def ZM (n:Nat)(u:Nat->Int):List ae:=[g9 n u,.var [.bi 0 1 AP n AL],.var [.fn 266 [] [.ptr 1 0]]]
theorem i5r {n:Nat}(hn:1<=n)(u:Nat->Int)(x:Int)(r:Bool)(hr:r=AH↔ ¬x=u 0):ay AC 263 [int x,.ptr 2 0] (ZM n u) (ro (ZM n u) (bool r)):=by
 have h1:=i4x hn u x (!r) (by
  cases r
  ·exact⟨fun _=>AG fun h=>AE (hr.2 h),fun _=>rfl⟩
  ·exact⟨fun h=>AE h,fun h=>absurd h (hr.1 rfl)⟩)
 clear hr;refine l7 AB ci TD _ rfl fun E Sg hb hS=> ?_;cbv;refine lj hS (AQ h1 [0,1] rfl rfl ⟨AR _,AR _,trivial⟩) ?_;rintro pg v H' ⟨pg0,v0,h0,⟨rfl,rfl,rfl⟩,rfl,rfl,rfl⟩;cases r<;>cbv<;>exact j7 (ga rfl) (.same _) (.inr rfl)
theorem i1c {n:Nat}(hn:n<=1000000)(u:Nat->Int)(o1 o2:ae)(gid:FuncId)(a:Nat)(p:Nat->Bool)
 (hp: ∀i,i<n->ay AC gid [int (u i),.ptr a 0] [g9 n u,o1,o2] (ro [g9 n u,o1,o2] (bool (p i)))) (r:Int) (hr:uq n p r):
 ay AC 215 [.bi 0 1 AP n AL,.fn gid [] [.ptr a 0]] [g9 n u,o1,o2] (ro [g9 n u,o1,o2] (int r)):=by
 refine l7 AB ci Tz _ rfl fun E Sg hb hS=> ?_;have e8: ∀z,Sg.toNat z=z.toNat:=by subst hS;exact fun _=>rfl
 simp only[AK,AJ] at hb;cbv;refine gg AB ci hS (fun i=>i<=n/\ ∀j,j<i->p j=AL) (fun i=>n-i)
  (fun i=>⟨dn [(0,.bi 0 1 AP n AL),(1,.fn gid [] [.ptr a 0]),(7,int n),(8,int i)] 19,[g9 n u,o1,o2],[]⟩) 0 ⟨by omega,by omega⟩ ?_ ?_
 ·exact bq rfl ⟨AA _,AA _,br (by subst hS;rfl),bg rfl,trivial⟩ (.same _) (by simp;omega) (.inr rfl) rfl
 ·intro i hi N hN;have aq:=hp i;clear hp;cbv;split
  ·cbv;have hlt:i<n:=by clear aq hN hr;subst hS;simp[AI] at*;omega
   have aq:=aq hlt;generalize hz:p i=z at aq;refine ad hS (by clear aq hN hr;subst hS;simp[AI];omega) ?_;simp only[AU,e8,AD,AF];refine ad hS (by clear aq hN hr;subst hS;simp[AI];omega) ?_;refine lu hS (r:=bool z) (by subst hS;exact aq) ?_;cases z
   ·cbv;refine ad hS (by clear aq hN hr;subst hS;exact e7 (by simp[AI];omega) (by simp[AI];omega)) ?_;refine hN (i+1) _ ⟨by omega,fun j hj=> ?_⟩ (by omega) (bq rfl ⟨AA _,AA _,AA _,br ?_,trivial⟩ (.same _) (by simp;omega) (.inr rfl) rfl)
    ·by_cases e:j=i
     ·subst e;exact hz
     ·exact hi.2 j (by omega)
    ·clear aq hN hr;subst hS;simp[AI]
   ·cbv;exact j7 (br (hr.2 i hlt hz hi.2).symm) (.same _) (.inr rfl)
  ·have p0:n<=i:=by clear aq hN hr;subst hS;simp[AI] at*;omega
   cbv;exact j7 (bg (hr.1 fun j hj=>hi.2 j (by omega)).symm) (.same _) (.inr rfl)
theorem h7k {n:Nat}(hn:n<=1000000)(u:Nat->Int)(o1 o2:ae)(gid:FuncId)(a:Nat)(p:Nat->Bool)
 (hp: ∀i,i<n->ay AC gid [int (u i),.ptr a 0] [g9 n u,o1,o2] (ro [g9 n u,o1,o2] (bool (p i)))) (r:Bool) (hr:r=AH↔ ∃i,i<n/\p i=AH):
 ay AC 188 [.bi 0 1 AP n AL,.fn gid [] [.ptr a 0]] [g9 n u,o1,o2] (ro [g9 n u,o1,o2] (bool r)):=by
 obtain⟨z,hz,jl,eb⟩: ∃z,uq n p z/\(0<=z-> ∃i,i<n/\p i=AH)/\((∃i,i<n/\p i=AH)->0<=z):=JS n p;have aq:=i1c hn u o1 o2 gid a p hp z hz;have qv:0<=z↔r=AH:=⟨fun h=>hr.2 (jl h),fun h=>eb (hr.1 h)⟩;clear hp hz jl eb hr;refine l7 AB ci Tx _ rfl fun E Sg hb hS=> ?_;cbv;refine lu hS aq ?_;cbv;refine j7 (ga ?_) (.same _) (.inr rfl);clear aq;subst hS;simp[AI];cases r
 ·simp at qv⊢;omega
 ·simpa using qv
theorem h4f {n:Nat}(hn:1<=n)(oa:n<=1000000)(u:Nat->Int)(r:Bool)(hr:r=AH↔ ∀i,i<n->u i=u 0):
 ay AC 230 [.bi 0 1 AP n AL,.fn 266 [] [.ptr 1 0]] (kH n u) (ro (kH n u) (bool r)):=by
 obtain⟨p,hp⟩: ∃p:Nat->Bool,∀j,p j=AH↔ ¬u j=u 0:=by classical exact⟨fun j=>decide (¬u j=u 0),fun j=>decide_eq_true_iff⟩
 have aq:=h7k oa u (.var [.bi 0 1 AP n AL]) (.var [.fn 266 [] [.ptr 1 0]]) 263 2 p (fun j hj=>i5r hn u (u j) (p j) (hp j)) (!r) (JJ hp hr);clear hr hp;refine l7 AB ci TA _ rfl fun E Sg hb hS=> ?_;simp only[kH,AK,AJ] at hb;cbv;refine lu hS aq ?_;cases r<;>cbv<;>exact j7 (ga rfl) (.cons (.refl _) (.cons (.refl _) (.nil _))) (.inl ⟨rfl,rfl⟩)
end Go.Proofs.Tryz.Run
