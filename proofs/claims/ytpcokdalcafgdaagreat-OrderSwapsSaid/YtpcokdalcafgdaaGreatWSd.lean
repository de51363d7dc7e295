/- The program's node: lists that are equal, within, numbers, tests of all elements. Clone, Sort and CheckFrame of the program's node. Sorting few numbers. Sort of few numbers; CheckFrame. Conditions: none. -/
import Derived.Test.YtpcokdalcafgdaaGreatWLq
import Derived.Test.YtpcokdalcafgdaaGreatWNa
import Derived.Test.YtpcokdalcafgdaaGreatWNc
import Derived.Test.YtpcokdalcafgdaaGreatWLh
import Derived.Test.YtpcokdalcafgdaaGreatWNb
import Derived.Test.YtpcokdalcafgdaaGreatWOh
import Derived.Test.YtpcokdalcafgdaaGreatWPm0
import Derived.Test.YtpcokdalcafgdaaGreatWQd
import Derived.Test.YtpcokdalcafgdaaGreatWQf
set_option linter.unusedSimpArgs false
set_option linter.unusedVariables false
set_option maxHeartbeats 0
namespace Go.Proofs.Tryz.Run
open Go Go.Vf Go.Proofs
open Go.Proofs.YtpcokdalcafgdaaGreat
theorem d2i {n:Nat}(hn:n<=1000000)(g:Nat->Int)(H:List a0i)(gid:FuncId)(a:Nat)(p:Nat->Bool)
 (hp: ∀i,i<n->a0g Tryz.prog gid [int (g i),.ptr a 0] H (ro H (bool (p i)))) (r:Int) (hr:a4i n p r):
 a0g Tryz.prog 175 [isl n g,.fn gid [] [.ptr a 0]] H (ro H (int r)):=by
 refine a1p Tryz.mixed okP d9f _ rfl fun E Sg hb hS=> ?_
 have ett: ∀z,Sg.toNat z=z.toNat:=by subst hS;exact fun _=>rfl
 cbv
 refine a0y Tryz.mixed okP hS (fun i=>i<=n/\ ∀j,j<i->p j=false) (fun i=>n-i)
  (fun i=>⟨a2l [(0,isl n g),(1,.fn gid [] [.ptr a 0]),(7,int n),(8,int i)] 19,H,[]⟩) 0 ⟨by omega,by omega⟩ ?_ ?_
 ·exact a0m rfl ⟨a0b.refl _,a0b.refl _,a1f (by subst hS;rfl),a1m rfl,trivial⟩ (.same _) (by omega) (.inr rfl) rfl
 ·intro i hi N hN
  have hin:=hp i
  clear hp
  cbv
  split
  ·cbv
   have hlt:i<n:=by clear hin hN hr;subst hS;simp[std] at*;omega
   have hin:=hin hlt
   generalize hz:p i=z at hin
   refine a0a hS (by clear hin hN hr;subst hS;simp[std];omega) ?_
   simp only[nat,ett,Int.ofNat_eq_natCast,Int.toNat_natCast]
   refine a2a hS (r:=bool z) (by subst hS;exact hin) ?_
   cases z
   ·cbv
    refine a0a hS (by clear hin hN hr;subst hS;exact a0h (by simp[std];omega) (by simp[std];omega)) ?_
    refine hN (i+1) _ ⟨by omega,fun j hj=> ?_⟩ (by omega) (a0m rfl ⟨a0b.refl _,a0b.refl _,a0b.refl _,a1f ?_,trivial⟩ (.same _) (by omega) (.inr rfl) rfl)
    ·by_cases e:j=i
     ·subst e;exact hz
     ·exact hi.2 j (by omega)
    ·clear hin hN hr;subst hS;simp[std]
   ·cbv
    exact a1o (a1f (hr.2 i hlt hz hi.2).symm) (.same _) (.inr rfl)
  ·have hni:n<=i:=by clear hin hN hr;subst hS;simp[std] at*;omega
   cbv
   exact a1o (a1m (hr.1 fun j hj=>hi.2 j (by omega)).symm) (.same _) (.inr rfl)
theorem b3g {n:Nat}(hn:n<=1000000)(g:Nat->Int)(H:List a0i)(gid:FuncId)(a:Nat)(p:Nat->Bool)
 (hp: ∀i,i<n->a0g Tryz.prog gid [int (g i),.ptr a 0] H (ro H (bool (p i)))) (r:Bool) (hr:r=true↔ ∃i,i<n/\p i=true):
 a0g Tryz.prog 143 [isl n g,.fn gid [] [.ptr a 0]] H (ro H (bool r)):=by
 obtain⟨z,hz,hz1,hz2⟩: ∃z,a4i n p z/\(0<=z-> ∃i,i<n/\p i=true)/\((∃i,i<n/\p i=true)->0<=z):=a5h n p
 have hin:=d2i hn g H gid a p hp z hz
 have hzr:0<=z↔r=true:=⟨fun h=>hr.2 (hz1 h),fun h=>hz2 (hr.1 h)⟩
 clear hp hz hz1 hz2 hr
 refine a1p Tryz.mixed okP e0c _ rfl fun E Sg hb hS=> ?_
 cbv
 refine a2a hS hin ?_
 cbv
 refine a1o (a0v ?_) (.same _) (.inr rfl)
 clear hin
 subst hS
 simp[std]
 cases r
 ·simp at hzr⊢;omega
 ·simpa using hzr
theorem f6t (a lo up:Int)(r:Bool)(hr:r=true↔ ¬(lo<=a/\a<=up)):a0g Tryz.prog 176 [int a,.ptr 0 0,.ptr 1 0] [.var [int lo],.var [int up]] (ro [.var [int lo],.var [int up]] (bool r)):=by
 refine a1p Tryz.mixed okP f4v _ rfl fun E Sg hb hS=> ?_
 cbv
 repeat' (split<;>cbv)
 all_goals
  refine a1o (a0v ?_) (.same _) (.inr rfl)
  subst hS
  simp[std] at*
  cases r<;>simp at* <;>omega
theorem c3d (lo up:Int){n:Nat}(hn:n<=1000000)(g:Nat->Int)(r:Bool)(hr:r=true↔ ∀i,i<n->lo<=g i/\g i<=up):a0j Tryz.prog true 149 [int lo,int up,isl n g] (bool r):=by
 have hin:=c6r hn g (.var [int lo]) (.var [int up]) 176 (fun i=>decide (¬(lo<=g i/\g i<=up))) (fun i _=>f6t (g i) lo up _ decide_eq_true_iff) (!r) (by
  cases r
  ·have hr: ¬ ∀i,i<n->lo<=g i/\g i<=up:=fun h=>Bool.noConfusion (hr.2 h)
   simp only[Bool.not_false,decide_eq_true_eq,true_iff]
   exact Classical.byContradiction fun h=>hr fun i hi=>Classical.byContradiction fun h'=>h ⟨i,hi,h'⟩
  ·have hr:=hr.1 rfl
   simp only[Bool.not_true,decide_eq_true_eq,Bool.false_eq_true,false_iff]
   rintro⟨i,hi,h⟩
   exact h (hr i hi))
 refine a0s (a0d Tryz.mixed okP f1v _ rfl fun E Sg hb hS=> ?_)
 cbv
 refine a2a hS hin ?_
 cases r<;>cbv
 ·exact a0v rfl
 ·exact a0v rfl
theorem b7m (lo up x:Int)(r:Bool)(hr:r=true↔lo<=x/\x<=up):a0j Tryz.prog true 149 [int lo,int up,.d (.sl 1 1 (Vf.rowAt [[.int .i64 (.v x)]]))] (bool r):=
 a0j.like (.cons (a0b.refl _) (.cons (a0b.refl _) (.cons d3c .nil))) (c3d lo up (by omega) (fun _=>x) r (by rw[hr];exact⟨fun h _ _=>h,fun h=>h 0 (by omega)⟩))
theorem a8r {n m:Nat}(hn:n<=1000000)(g h:Nat->Int)(r:Bool)(hr:r=true↔L n g=L m h):a0j Tryz.prog true 122 [isl n g,isl m h] (bool r):=by
 have hiff:L n g=L m h↔n=m/\ ∀i,i<n->g i=h i:=by
  constructor
  ·intro e
   have el:n=m:=by simpa [a0k] using congrArg List.length e
   subst el
   refine⟨rfl,fun j hj=> ?_⟩
   have:=congrArg (fun l=>l[j]?) e
   simpa [L,hj] using this
  ·rintro⟨rfl,hh⟩;exact a3i hh
 rw[hiff] at hr
 refine a0s (a0d Tryz.mixed okP f2v _ rfl fun E Sg hb hS=> ?_)
 have ett: ∀z,Sg.toNat z=z.toNat:=by subst hS;exact fun _=>rfl
 cbv
 split
 ·have hne:n≠m:=by subst hS;simp[std] at*;omega
  cbv
  exact a2i hr fun h=>hne h.1
 have hnm:n=m:=by subst hS;simp[std] at*;omega
 subst hnm
 cbv
 refine a0y Tryz.mixed okP hS (fun i=>i<=n/\ ∀j,j<i->g j=h j) (fun i=>n-i)
  (fun i=>⟨a2l [(0,isl n g),(1,isl n h),(12,int n),(13,int i)] 26,[],[]⟩) 0 ⟨by omega,by omega⟩ ?_ ?_
 ·exact a0m rfl ⟨a0b.refl _,a0b.refl _,a1f (by subst hS;rfl),a1m rfl,trivial⟩ (.nil _) (by omega) (.inr rfl) rfl
 ·intro i hi N hN
  cbv
  split
  ·have hlt:i<n:=by subst hS;simp[std] at*;omega
   cbv
   refine a0a hS (by subst hS;simp[std];omega) ?_
   refine a0a hS (by subst hS;simp[std];omega) ?_
   simp only[nat,ett,Int.ofNat_eq_natCast,Int.toNat_natCast]
   split
   ·have hx:g i≠h i:=by subst hS;simp[std] at*;assumption
    cbv
    exact a2i hr fun hh=>hx (hh.2 i hlt)
   ·have hx:g i=h i:=by subst hS;simp[std] at*;assumption
    cbv
    refine a0a hS (by subst hS;exact a0h (by simp[std];omega) (by simp[std];omega)) ?_
    refine hN (i+1) _ ⟨by omega,fun j hj=> ?_⟩ (by omega) (a0m rfl ⟨a0b.refl _,a0b.refl _,a0b.refl _,a1f (by subst hS;simp[std]),trivial⟩ (.nil _) (by omega) (.inr rfl) rfl)
    by_cases e:j=i
    ·subst e;exact hx
    ·exact hi.2 j (by omega)
  ·have hall: ∀j,j<n->g j=h j:=by
    have:n<=i:=by subst hS;simp[std] at*;omega
    exact fun j hj=>hi.2 j (by omega)
   cbv
   exact b8q hr ⟨rfl,hall⟩
theorem b8m {n:Nat}(hn:n<=1000000):a0j Tryz.prog false 151 [int n] (isl n fun i=>(i:Int)):=by
 refine a0d Tryz.mixed okP e9q _ rfl fun E Sg hb hS=> ?_
 have ett: ∀z,Sg.toNat z=z.toNat:=by subst hS;exact fun _=>rfl
 generalize hres:isl n (fun i=>(i:Int))=res
 cbv
 refine a0a hS (by subst hS;simp[std]) (a0a hS (by subst hS;simp[std,big];omega) ?_)
 simp only[nat,ett,Int.ofNat_eq_natCast,Int.toNat_natCast]
 refine a0y Tryz.mixed okP hS (σ:=Nat×(Nat->Int)) (fun s=>s.1<=n/\ ∀j,j<s.1->s.2 j=j) (fun s=>n-s.1)
  (fun s=>⟨a2l [(0,int n),(3,.msl 0 1 none n false),(7,int n),(8,int s.1)] 17,[arrI n s.2],[]⟩) (0,fun _=>0) ⟨by simp,by simp⟩ ?_ ?_
 ·refine a0m rfl ⟨a0b.refl _,a0b.refl _,a0b.refl _,a1m rfl,trivial⟩ (.cons (a0f.arrr rfl (fun i hi=>by subst hS;simp only[std] at hi⊢;rw[if_pos hi];exact .one (.int rfl))) (.nil _)) (by simp;omega) (.inr rfl) rfl
 ·rintro⟨i,u⟩ ⟨hi1,hi2⟩ N hN
  simp only at hi1 hi2 hN
  cbv
  split
  ·have hlt:i<n:=by subst hS;simp[std] at*;omega
   cbv
   refine a0a hS (by subst hS;simp[std];omega) ?_
   simp only[nat,ett,Int.ofNat_eq_natCast,Int.toNat_natCast]
   refine a0a hS (by subst hS;simp[std];omega) ?_
   refine a0a hS (by subst hS;exact a0h (by simp[std];omega) (by simp[std];omega)) ?_
   refine hN (i+1,fun j=>if j=i then (i:Int) else u j) _ ⟨by simp;omega,fun j hj=> ?_⟩ (by simp;omega) (a0m rfl ⟨a0b.refl _,a0b.refl _,a0b.refl _,a1f (by subst hS;simp[std]),trivial⟩ (.cons (a0f.arrI rfl fun j hj=> ?_) (.nil _)) (by simp;omega) (.inr rfl) rfl)
   ·by_cases e:j=i
    ·subst e;simp
    ·simp only[if_neg e];exact hi2 j (by simp at hj;omega)
   ·subst hS
    simp only[std]
    split<;>rfl
  ·have hin:i=n:=by subst hS;simp[std] at*;omega
   subst hin
   cbv
   subst hres
   refine a0a hS (by subst hS;simp[std]) ?_
   exact a0b.isl rfl fun j hj=>hi2 j hj
theorem e2o {n:Nat}(hn:n<=1000000)(g:Nat->Int)(res:AV)(hres:res=isl n g):a0j Tryz.prog false 98 [isl n g] res:=by
 cases n with
 |zero=>
  refine a0j.empty fun a cap=> ?_
  refine a0d Tryz.mixed okP f0k _ rfl fun E Sg hb hS=> ?_
  cases a with
  |none=>
   cbv
   subst hres
   exact a0b.nil0
  |some a=>
   cbv
   repeat' ((first|(with_reducible apply a0a hS))<;>cbv)
   all_goals try (subst hS;simp[std,nat,IX.val,big] at* <;>omega)
   subst hres
   exact a0b.sl' (by subst hS;rfl) fun i hi=>by subst hS;simp[std] at hi
 |succ n=>
  refine a0d Tryz.mixed okP f0k _ rfl fun E Sg hb hS=> ?_
  cbv
  repeat' ((first|(with_reducible apply a0a hS))<;>cbv)
  all_goals try (subst hS;simp[std,nat,IX.val,big] at* <;>omega)
  subst hres
  refine a0b.sl' (by subst hS;simp[std]) fun i hi=> ?_
  subst hS
  simp[std]
theorem d5k {n:Nat}(hn:n<=1000000)(g:Nat->Int):a0j Tryz.prog false 98 [isl n g] (isl n g):=e2o hn g _ rfl
def f2b (n:Nat)(g:Nat->Int)(pg:List Nat)(v:AV)(h':List a0i):Prop:=pg=[]/\v= .msl 0 1 none n false/\h'=[arrI n g]
theorem c8h {n:Nat}(hn:n<=1000000)(g:Nat->Int):a0g Tryz.prog 98 [isl n g] [] (f2b n g):=by
 cases n with
 |zero=>
  refine a0g.empty fun a cap=>a0g.ret_nil 1 (fun i=>[.int .i64 (.v (g i))]) ?_
  refine a1b Tryz.mixed okP f0k rfl fun E Sg hb hS F hF=> ?_
  cases a with
  |none=>
   cbv
   exact⟨[],by simp,hF (.nil _) (a0b.refl _) (by simp) (.inr rfl) (.inl ⟨rfl,rfl,rfl,rfl⟩)⟩
  |some a=>
   cbv
   repeat' ((first|(with_reducible apply a0a hS))<;>cbv)
   all_goals try (subst hS;simp[std,nat,IX.val,big] at* <;>omega)
   refine⟨[],by simp,hF (h1:=[arrI 0 g]) (.cons (a0f.arrI (by subst hS;rfl) fun j hj=>by subst hS;simp[std] at hj) (.nil _)) (v0:= .msl 0 1 none 0 false) (by subst hS;exact a0b.refl _) (by simp) (.inr rfl) (.inr ⟨rfl,rfl,rfl⟩)⟩
 |succ n=>
  refine a1b Tryz.mixed okP f0k rfl fun E Sg hb hS F hF=> ?_
  cbv
  repeat' ((first|(with_reducible apply a0a hS))<;>cbv)
  all_goals try (subst hS;simp[std,nat,IX.val,big] at* <;>omega)
  refine⟨[],by simp,hF (h1:=[arrI (n+1) g]) (.cons (a0f.arrI (by subst hS;simp[std]) fun j hj=>by subst hS;simp[std]) (.nil _)) (v0:= .msl 0 1 none (n+1) false) (by subst hS;simp only[std,Nat.zero_add];exact a0b.refl _) (by simp) (.inr rfl) ⟨rfl,rfl,rfl⟩⟩
def b6z (n:Nat)(u g:Nat->Int):Prop:=
 ∃s t:Nat->Nat,(∀i,i<n->s i<n/\t i<n/\s (t i)=i/\t (s i)=i)/\ ∀i,i<n->u i=g (s i)
theorem b6z.refl (n:Nat)(g:Nat->Int):b6z n g g:=⟨id,id,fun i hi=>⟨hi,hi,rfl,rfl⟩,fun i hi=>rfl⟩
def sw (j k i:Nat):Nat:=if i=j then k else if i=k then j else i
theorem e2v (j k i:Nat):sw j k (sw j k i)=i:=by
 unfold sw
 (repeat' split)<;>omega
theorem c5g {n j k i:Nat}(hj:j<n)(hk:k<n)(hi:i<n):sw j k i<n:=by
 unfold sw
 (repeat' split)<;>omega
theorem b6z.swap {n:Nat}{u g:Nat->Int}(h:b6z n u g){j k:Nat}(hj:j<n)(hk:k<n):b6z n (fun i=>u (sw j k i)) g:=by
 obtain⟨s,t,h1,h2⟩:=h
 refine⟨fun i=>s (sw j k i),fun i=>sw j k (t i),fun i hi=> ?_,fun i hi=>h2 _ (c5g hj hk hi)⟩
 obtain⟨a1,a2,a3,a4⟩:=h1 i hi
 refine⟨(h1 _ (c5g hj hk hi)).1,c5g hj hk a2,?_,?_⟩
 ·simp only[e2v];exact a3
 ·simp only[(h1 _ (c5g hj hk hi)).2.2.2,e2v]
theorem b7k {n:Nat}{u g:Nat->Int}(h:b6z n u g)(hs: ∀p q,p<q->q<n->u p<=u q):(∀i,i<n->u i=i)↔a1u n n g:=by
 obtain⟨s,t,h1,h2⟩:=h
 have hg: ∀k,k<n->g k=u (t k):=fun k hk=>by rw[h2 _ (h1 k hk).2.1,(h1 k hk).2.2.1]
 constructor
 ·intro hu
  refine⟨rfl,fun i hi=> ?_⟩
  have hi':=(h1 i hi).2.1
  rw[hg i hi,hu _ hi']
  refine⟨by omega,fun k hk e=> ?_⟩
  have hk':k<n:=by omega
  rw[hg k hk',hu _ (h1 k hk').2.1] at e
  have e2:t k=t i:=by omega
  have:s (t k)=s (t i):=by rw[e2]
  rw[(h1 k hk').2.2.1,(h1 i hi).2.2.1] at this
  omega
 ·rintro⟨_,ho⟩
  have hne: ∀p q,p<q->q<n->u p≠u q:=fun p q hpq hq e=>by
   rw[h2 p (by omega),h2 q hq] at e
   have hsp:=(h1 p (by omega)).1
   have hsq:=(h1 q hq).1
   have hsne:s p≠s q:=fun e=>by
    have:t (s p)=t (s q):=by rw[e]
    rw[(h1 p (by omega)).2.2.2,(h1 q hq).2.2.2] at this
    omega
   rcases Nat.lt_or_ge (s p) (s q) with h3|h3
   ·exact (ho (s q) hsq).2 (s p) h3 e
   ·exact (ho (s p) hsp).2 (s q) (by omega) e.symm
  have hlt: ∀p q,p<q->q<n->u p<u q:=fun p q hpq hq=>by
   have a:=hs p q hpq hq
   have b:=hne p q hpq hq
   omega
  have hlo: ∀i,i<n->(i:Int)<=u i:=by
   intro i
   induction i with
   |zero=>intro hi;rw[h2 0 hi];exact (ho _ (h1 0 hi).1).1.1
   |succ i ih=>intro hi;have:=ih (by omega);have:=hlt i (i+1) (by omega) hi;omega
  have hup: ∀d i,i+d+1=n->u i<=i:=by
   intro d
   induction d with
   |zero=>intro i hi;have:=(ho _ (h1 i (by omega)).1).1.2;rw[h2 i (by omega)];omega
   |succ d ih=>intro i hi;have:=ih (i+1) (by omega);have:=hlt i (i+1) (by omega) (by omega);omega
  intro i hi
  have a:=hlo i hi
  have b:=hup (n-1-i) i (by omega)
  omega
theorem c5s (a:Int):a0j Tryz.prog true 94 [int a] (bool false):=by
 refine a0s (a0d Tryz.mixed okP g0e _ rfl fun E Sg hb hS=> ?_)
 cbv
 refine a0v ?_
 subst hS
 simp[std]
theorem e4s (a b:Int)(r:Bool)(hr:r=true↔a<b):a0j Tryz.prog true 194 [int a,int b] (bool r):=by
 have h1:=c5s a
 refine a0s (a0d Tryz.mixed okP f3k _ rfl fun E Sg hb hS=> ?_)
 cbv
 refine a0e hS (bool false) (by subst hS;exact h1) ?_
 cbv
 refine a0v ?_
 subst hS
 simp[std]
 cases r
 ·have: ¬a<b:=fun h=>Bool.noConfusion (hr.2 h)
  simpa using this
 ·simpa using hr.1 rfl
def e6o (n:Nat)(g:Nat->Int)(pg:List Nat)(v:AV)(h':List a0i):Prop:=pg=[]/\ ∃u,b6z n u g/\(∀p q,p<q->q<n->u p<=u q)/\h'=[arrI n u]
theorem c3r {n:Nat}(hn:n<=1000000)(g:Nat->Int):a0g Tryz.prog 188 [.msl 0 1 none n false,int 0,int n] [arrI n g] (e6o n g):=by
 refine a1b Tryz.mixed okP f0f rfl fun E Sg hb hS F hF=> ?_
 simp only[List.length_cons,List.length_nil] at hb
 have ett: ∀z,Sg.toNat z=z.toNat:=by subst hS;exact fun _=>rfl
 cbv
 refine a0a hS (by subst hS;simp[std,IntKind.wrap,IntKind.bits,IntKind.signed]) ?_
 refine a0y Tryz.mixed okP hS (σ:=Nat×(Nat->Int)) (fun s=>1<=s.1/\(s.1<=n\/n=0/\s.1=1)/\b6z n s.2 g/\ ∀p q,p<q->q<s.1->q<n->s.2 p<=s.2 q) (fun s=>n-s.1)
  (fun s=>⟨a2l [(0,.msl 0 1 none n false),(1,int 0),(2,int n),(6,int s.1)] 49,[arrI n s.2],[]⟩) (1,g) ⟨by simp,by simp;omega,b6z.refl n g,fun p q h1 h2=>by simp at h2;omega⟩ ?_ ?_
 ·exact a0m rfl ⟨a0b.refl _,a0b.refl _,a0b.refl _,a1f (by subst hS;rfl),trivial⟩ (.cons (.refl _) (.nil _)) (by simp;omega) (.inr rfl) rfl
 ·rintro⟨i,u⟩ ⟨hi0,hi1,hi2,hi3⟩ N hN
  simp only at hi0 hi1 hi2 hi3 hN
  cbv
  split
  ·have hlt:i<n:=by subst hS;simp[std] at*;omega
   cbv
   refine a0y Tryz.mixed okP hS (σ:=Nat×(Nat->Int)) (fun s=>s.1<=i/\b6z n s.2 g/\(∀p q,p<q->q<=i->p≠s.1->q≠s.1->s.2 p<=s.2 q)/\ ∀q,s.1<q->q<=i->s.2 s.1<=s.2 q) (fun s=>s.1)
    (fun s=>⟨a2l [(0,.msl 0 1 none n false),(1,int 0),(2,int n),(6,int i),(7,int s.1)] 49,[arrI n s.2],[]⟩) (i,u) ⟨by simp,hi2,fun p q h1 h2 h3 h4=>hi3 p q h1 (by simp at h4;omega) (by omega),fun q h1 h2=>by simp at h1;omega⟩ ?_ ?_
   ·exact a0m rfl ⟨a0b.refl _,a0b.refl _,a0b.refl _,a0b.refl _,a0b.refl _,trivial⟩ (.cons (.refl _) (.nil _)) (by simp;omega) (.inr rfl) rfl
   ·rintro⟨j,u⟩ ⟨hj0,hj1,hj2,hj3⟩ N2 hN2
    simp only at hj0 hj1 hj2 hj3 hN2
    cbv
    split
    ·have hj:0<j:=by clear hN hN2 hF;subst hS;simp[std] at*;try assumption
     obtain⟨j,rfl⟩: ∃k,j=k+1:=⟨j-1,by omega⟩
     obtain⟨z,hz⟩: ∃z:Bool,z=true↔u (j+1)<u j:=⟨decide _,decide_eq_true_iff⟩
     have hls:=e4s (u (j+1)) (u j) z hz
     have ej:Sg.isub (Int.ofNat (j+1)) (Int.ofNat 1)=Int.ofNat j:=by subst hS;simp[std]
     have eu: ∀(f:Nat->List DV) (r:List DV),Sg.upd f j.succ r j=f j:=by subst hS;intro f r;simp[std]
     cbv
     simp only[ej]
     refine a0a hS (by subst hS;simp[std]<;>omega) ?_
     refine a0a hS (by subst hS;exact a0h (by simp[std]<;>omega) (by simp[std]<;>omega)) ?_
     refine a0a hS (by subst hS;simp[std]<;>omega) ?_
     refine a0a hS (by subst hS;simp[std]<;>omega) ?_
     refine a0a hS (by subst hS;simp[std]<;>omega) ?_
     simp only[nat,ett,Int.ofNat_eq_natCast,Int.toNat_natCast]
     refine a0e hS (bool z) (by subst hS;exact hls) ?_
     cases z
     ·have hle:u j<=u (j+1):=by
       have: ¬u (j+1)<u j:=fun h=>Bool.noConfusion (hz.2 h)
       omega
      cbv
      refine a0a hS (by subst hS;exact a0h (by simp[std];omega) (by simp[std];omega)) ?_
      refine hN (i+1,u) _ ⟨by simp,by simp;omega,hj1,fun p q h1 h2 h3=> ?_⟩ (by simp;omega) (a0m rfl ⟨a0b.refl _,a0b.refl _,a0b.refl _,a1f (by subst hS;simp[std]),trivial⟩ (.cons (.refl _) (.nil _)) (by simp;omega) (.inr rfl) rfl)
      simp only at h2⊢
      by_cases e1:p=j+1
      ·subst e1;exact hj3 q h1 (by omega)
      ·by_cases e2:q=j+1
       ·subst e2
        by_cases e3:p=j
        ·subst e3;exact hle
        ·exact Int.le_trans (hj2 p j (by omega) (by omega) e1 (by omega)) hle
       ·exact hj2 p q h1 (by omega) e1 e2
     ·have hlt2:=hz.1 rfl
      cbv
      simp only[ej]
      refine a0a hS (by subst hS;exact a0h (by simp[std]<;>omega) (by simp[std]<;>omega)) ?_
      refine a0a hS (by subst hS;exact a0h (by simp[std]<;>omega) (by simp[std]<;>omega)) ?_
      simp only[nat,ett,Int.ofNat_eq_natCast,Int.toNat_natCast,eu]
      cbv
      simp only[ej,nat,ett,Int.ofNat_eq_natCast,Int.toNat_natCast,eu]
      have ej3:Sg.isub ((j.succ:Nat):Int) ((1:Nat):Int)=(j:Int):=ej
      refine a0a hS (by subst hS;simp[std]<;>omega) ?_
      refine a0a hS (by subst hS;simp[std]<;>omega) ?_
      refine a0a hS (by subst hS;simp[std]<;>omega) ?_
      refine a0a hS (by subst hS;simp[std]<;>omega) ?_
      refine a0a hS (by subst hS;simp[std]<;>omega) ?_
      refine a0a hS (by subst hS;simp[std]<;>omega) ?_
      refine a0a hS (by subst hS;simp[std]<;>omega) ?_
      refine a0a hS (by subst hS;simp[std]<;>omega) ?_
      have hin:Sg.inr .i64 (Sg.isub ((j.succ:Nat):Int) ((1:Nat):Int)):=by rw[ej3];subst hS;exact a0h (by omega) (by omega)
      refine a0a hS hin ?_
      refine hN2 (j,fun k=>u (sw (j+1) j k)) _ ⟨by simp;omega,hj1.swap (by omega) (by omega),fun p q h1 h2 h3 h4=> ?_,fun q h1 h2=> ?_⟩ (by simp) (a0m rfl ⟨a0b.refl _,a0b.refl _,a0b.refl _,a0b.refl _,a1f ej3,trivial⟩ (.cons (a0f.arrI rfl fun k hk=> ?_) (.nil _)) (by simp;omega) (.inr rfl) rfl)
      ·simp only at h1 h2 h3 h4⊢
       unfold sw
       by_cases e1:p=j+1
       ·rw[if_pos e1,if_neg (by omega),if_neg (by omega)]
        exact hj2 j q (by omega) h2 (by omega) (by omega)
       ·by_cases e2:q=j+1
        ·rw[if_neg e1,if_neg h3,if_pos e2]
         exact hj2 p j (by omega) (by omega) e1 (by omega)
        ·rw[if_neg e1,if_neg h3,if_neg e2,if_neg h4]
         exact hj2 p q h1 h2 e1 e2
      ·simp only at h1 h2⊢
       unfold sw
       rw[if_neg (show¬j=j+1 by omega),if_pos rfl]
       by_cases e2:q=j+1
       ·rw[if_pos e2];omega
       ·rw[if_neg e2,if_neg (by omega)]
        exact hj3 q (by omega) h2
      ·subst hS
       simp only[std,sw]
       by_cases e1:k=j
       ·subst e1;simp
       ·by_cases e2:k=j+1
        ·subst e2;simp
        ·simp[e1,e2]
    ·have hj:j=0:=by clear hN hN2 hF;subst hS;simp[std] at*;omega
     subst hj
     cbv
     refine a0a hS (by subst hS;exact a0h (by simp[std];omega) (by simp[std];omega)) ?_
     refine hN (i+1,u) _ ⟨by simp,by simp;omega,hj1,fun p q h1 h2 h3=> ?_⟩ (by simp;omega) (a0m rfl ⟨a0b.refl _,a0b.refl _,a0b.refl _,a1f (by subst hS;simp[std]),trivial⟩ (.cons (.refl _) (.nil _)) (by simp;omega) (.inr rfl) rfl)
     simp only at h2⊢
     by_cases e1:p=0
     ·subst e1;exact hj3 q h1 (by omega)
     ·exact hj2 p q h1 (by omega) e1 (by omega)
  ·have hni:n<=i:=by clear hN hF;subst hS;simp[std] at*;omega
   cbv
   exact⟨[],by simp,hF (h1:=[arrI n u]) (.cons (.refl _) (.nil _)) (a0b.refl _) (by simp) (.inr rfl) ⟨rfl,u,hi2,fun p q h1 h2=>hi3 p q h1 (by omega) h2,rfl⟩⟩
theorem a0j.resLike {own:Bool}{f:FuncId}{args:List AV}{r r':AV}(hl:a0b r r')(h:a0j Tryz.prog own f args r):a0j Tryz.prog own f args r':=
 ⟨h.1,fun w S vs hS hv=>(h.2 w S vs hS hv).mono fun e w' ⟨v,S',h1,h2,h3⟩=>⟨v,S',h1,hl _ _ _ _ h2,h3⟩⟩
def d6d (v:CA):Bool:=
 match v with
 | .d (.int .i64 _)=>true
 |_=>false
theorem a2v {n:Nat}(h:(XSn tab 100).pcall true 93 [.d (.int .u64 (.v (n:Int)))] d6d=true): ∃z:Int,a0j Tryz.prog true 93 [.d (.int .u64 (.v (n:Int)))] (int z):=by
 obtain⟨r,h1,h2⟩:=b6h Tryz.mixed okP tab_ok 100 h
 unfold d6d at h1
 split at h1
 ·rename_i x
  have h3:a0j Tryz.prog true 93 [.d (.int .u64 (.v (n:Int)))] (.d (.int .i64 x)):=by simpa [CA.toL,CA.to,CD.to] using h2
  exact⟨x.val,a0j.resLike (r:= .d (.int .i64 x)) (a0b.int rfl) h3⟩
 ·cases h1
theorem f4q: ∀n:Nat,n<=12-> ∃z:Int,a0j Tryz.prog true 93 [.d (.int .u64 (.v (n:Int)))] (int z)
 |0,_=>a2v (by kernel_rfl)
 |1,_=>a2v (by kernel_rfl)
 |2,_=>a2v (by kernel_rfl)
 |3,_=>a2v (by kernel_rfl)
 |4,_=>a2v (by kernel_rfl)
 |5,_=>a2v (by kernel_rfl)
 |6,_=>a2v (by kernel_rfl)
 |7,_=>a2v (by kernel_rfl)
 |8,_=>a2v (by kernel_rfl)
 |9,_=>a2v (by kernel_rfl)
 |10,_=>a2v (by kernel_rfl)
 |11,_=>a2v (by kernel_rfl)
 |12,_=>a2v (by kernel_rfl)
 |n+13,h=>by omega
theorem f2g {n:Nat}(hn:n<=12)(g:Nat->Int)(z:Int):a0g Tryz.prog 177 [.msl 0 1 none n false,int 0,int n,int z] [arrI n g] (e6o n g):=by
 have hin:=c3r (n:=n) (by omega) g
 refine a1b Tryz.mixed okP e9o rfl fun E Sg hb hS F hF=> ?_
 simp only[List.length_cons,List.length_nil] at hb
 cbv
 refine e3e Tryz.mixed okP hS 1 ?_
 cbv
 refine a0a hS (by subst hS;exact a0h (by simp[std]<;>omega) (by simp[std]<;>omega)) ?_
 split
 ·cbv
  refine a1a hS (a0g.frame hin [0] rfl rfl ⟨a0f.refl _,trivial⟩) ?_
  rintro pg v H' ⟨pg0,v0,h0,⟨rfl,u,h1,h2,rfl⟩,rfl,rfl,rfl⟩
  cbv
  exact⟨[],by simp,hF (h1:=[arrI n u]) (.cons (.refl _) (.nil _)) (a0b.refl _) (by simp) (.inr rfl) ⟨rfl,u,h1,h2,rfl⟩⟩
 ·rename_i h
  exfalso
  subst hS
  simp[std] at h
  omega
theorem e8l {n:Nat}(hn:n<=12)(g:Nat->Int):a0g Tryz.prog 150 [.msl 0 1 none n false] [arrI n g] (e6o n g):=by
 obtain⟨z,hz⟩:=f4q n hn
 have hin:=f2g hn g z
 refine a1b Tryz.mixed okP f3r rfl fun E Sg hb hS F hF=> ?_
 simp only[List.length_cons,List.length_nil] at hb
 have ew:Sg.iwrap .u64 (Sg.ofNat n)=(n:Int):=by
  subst hS
  simp[std,IntKind.wrap,IntKind.bits,IntKind.signed]
  omega
 cbv
 simp only[ew]
 refine a0e hS (int z) hz ?_
 cbv
 refine a1a hS (a0g.frame (args':=[.msl 0 1 none n false,int 0,.d (.int .i64 (.v (Sg.ofNat n))),int z]) (hin.like (.cons (a0b.refl _) (.cons (a0b.refl _) (.cons (a1f (by subst hS;rfl)) (.cons (a0b.refl _) .nil))))) [0] rfl rfl ⟨a0f.refl _,trivial⟩) ?_
 rintro pg v H' ⟨pg0,v0,h0,⟨rfl,u,h1,h2,rfl⟩,rfl,rfl,rfl⟩
 cbv
 exact⟨[],by simp,hF (h1:=[arrI n u]) (.cons (.refl _) (.nil _)) (a0b.refl _) (by simp) (.inr rfl) ⟨rfl,u,h1,h2,rfl⟩⟩
theorem d6i {g:Nat->Int}: ∀{n:Nat},(∀i,i<n->1<=g i/\g i<=12)->prod g n<=((12^n:Nat):Int)
 |0,_=>by simp[prod]
 |n+1,h=>by
  have h1:=d6i (g:=g) (n:=n) fun i hi=>h i (by omega)
  have h2:=h n (by omega)
  have h3:=a4m (g:=g) (n:=n) fun i hi=>(h i (by omega)).1
  have:prod g n*g n<=((12^n:Nat):Int)*12:=Int.mul_le_mul h1 h2.2 (by omega) (by omega)
  rw[prod,Nat.pow_succ]
  simpa using this
theorem g4r: ∀n:Nat,n<=6->12^n<=2985984
 |0,_=>by decide
 |1,_=>by decide
 |2,_=>by decide
 |3,_=>by decide
 |4,_=>by decide
 |5,_=>by decide
 |6,_=>by decide
 |n+7,h=>by omega
theorem a6v {n m:Nat}(hn:n<=1000000)(hm:m<=12)(g h:Nat->Int)(r:Int)(hr:a2e n m g h=r):a0j Tryz.prog true 109 [isl n g,isl m h] (int r):=by
 obtain⟨z,hz⟩: ∃z:Bool,z=true↔ ∀i,i<n->1<=g i/\g i<=12:=by classical exact⟨decide _,decide_eq_true_iff⟩
 have hw:=c3d 1 12 hn g z hz
 have hcl:=c8h (n:=m) (by omega) h
 unfold a2e at hr
 refine a1y (a0d Tryz.mixed okP f2p _ rfl fun E Sg hb hS=> ?_)
 have ett: ∀z,Sg.toNat z=z.toNat:=by subst hS;exact fun _=>rfl
 cbv
 split
 ·have h6:6<n:=by subst hS;simp[std] at*;omega
  cbv
  exact a1m (by rw[<-hr,if_pos h6];rfl)
 have h6: ¬6<n:=by subst hS;simp[std] at*;omega
 rw[if_neg h6] at hr
 cbv
 refine a0e hS (bool z) (by subst hS;exact hw) ?_
 cases z
 ·have hnz: ¬ ∀i,i<n->1<=g i/\g i<=12:=fun h=>Bool.noConfusion (hz.2 h)
  cbv
  exact a1m (by rw[<-hr,if_pos hnz];rfl)
 have hz:=hz.1 rfl
 rw[if_neg (fun h=>h hz)] at hr
 cbv
 refine a0y Tryz.mixed okP hS (σ:=Nat×Int) (fun s=>s.1<=n/\s.2=prod g s.1) (fun s=>n-s.1)
  (fun s=>⟨a2l [(0,isl n g),(1,isl m h),(5,int s.2),(17,isl n g),(18,int n),(19,int s.1)] 39,[],[]⟩) (0,1) ⟨by simp,rfl⟩ ?_ ?_
 ·exact a0m rfl ⟨a0b.refl _,a0b.refl _,a1m rfl,a0b.refl _,a1f (by subst hS;rfl),a1m rfl,trivial⟩ (.nil _) (by omega) (.inr rfl) rfl
 ·rintro⟨i,p⟩ ⟨hi1,hi2⟩ N hN
  simp only at hi1 hi2 hN
  cbv
  split
  ·have hlt:i<n:=by subst hS;simp[std] at*;omega
   have hb1:1<=prod g (i+1):=a4m fun j hj=>(hz j (by omega)).1
   have hb2:prod g (i+1)<=2985984:=Int.le_trans (d6i fun j hj=>hz j (by omega)) (by have:=g4r (i+1) (by omega);omega)
   have hpp:prod g (i+1)=p*g i:=by rw[hi2];rfl
   rw[hpp] at hb1 hb2
   cbv
   refine a0a hS (by subst hS;simp[std];omega) ?_
   simp only[nat,ett,Int.ofNat_eq_natCast,Int.toNat_natCast]
   refine a0a hS (by subst hS;exact a0h (by simp[std];omega) (by simp[std];omega)) ?_
   refine a0a hS (by subst hS;exact a0h (by simp[std];omega) (by simp[std];omega)) ?_
   exact hN (i+1,p*g i) _ ⟨by simp;omega,hpp.symm⟩ (by simp;omega) (a0m rfl ⟨a0b.refl _,a0b.refl _,a1f (by subst hS;simp[std]),a0b.refl _,a0b.refl _,a1f (by subst hS;simp[std]),trivial⟩ (.nil _) (by omega) (.inr rfl) rfl)
  ·have hin:i=n:=by subst hS;simp[std] at*;omega
   subst hin
   cbv
   split
   ·have:2000<prod g i:=by rw[<-hi2];subst hS;simp[std] at*;omega
    cbv
    exact a1m (by rw[<-hr,if_pos this];rfl)
   have hpr: ¬2000<prod g i:=by rw[<-hi2];subst hS;simp[std] at*;omega
   rw[if_neg hpr] at hr
   cbv
   refine a1a hS (a0g.frame hcl [] rfl rfl trivial) ?_
   rintro pg v H' ⟨pg0,v0,h0,⟨rfl,rfl,rfl⟩,rfl,rfl,rfl⟩
   cbv
   refine a1a hS (a0g.frame (e8l hm h) [0] rfl rfl ⟨a0f.refl _,trivial⟩) ?_
   rintro pg v H' ⟨pg0,v0,h0,⟨rfl,u,h1,h2,rfl⟩,rfl,rfl,rfl⟩
   obtain⟨z,hz2⟩: ∃z:Bool,z=true↔L m u=L i (fun k=>(k:Int)):=by classical exact⟨decide _,decide_eq_true_iff⟩
   have heq:=a8r (n:=m) (m:=i) (by omega) u (fun k=>(k:Int)) z hz2
   have hio:L m u=L i (fun k=>(k:Int))↔a1u i m h:=by
    constructor
    ·intro e
     have el:m=i:=by simpa [a0k] using congrArg List.length e
     subst el
     refine (b7k h1 h2).1 fun j hj=> ?_
     have:=congrArg (fun l=>l[j]?) e
     simpa [L,hj] using this
    ·intro e
     have el:m=i:=e.1
     subst el
     exact a3i ((b7k h1 h2).2 e)
   rw[hio] at hz2
   cbv
   refine a0e hS (isl i fun k=>(k:Int)) (by subst hS;exact b8m (by omega)) ?_
   cbv
   refine a0a hS (by subst hS;simp[std]) ?_
   refine a0e hS (bool z) (by subst hS;exact heq) ?_
   cases z
   ·cbv
    exact a1m (by rw[<-hr,if_neg (fun h=>Bool.noConfusion (hz2.2 h))];rfl)
   ·cbv
    exact a1m (by rw[<-hr,if_pos (hz2.1 rfl)];rfl)
end Go.Proofs.Tryz.Run
