/- The program's node: lists that are equal, within, numbers, tests of all elements. Clone, Sort and CheckFrame of the program's node. Sorting few numbers. Sort of few numbers; CheckFrame. Conditions: none. -/
import Derived.Test.YtbglklaocjifhaaGreatEQf
open Go.Vf.a0x renaming refl->AA,sl'->AT
open Go.Proofs.YtbglklaocjifhaaGreat.Tryz renaming mixed->AB
open Go.Proofs.Tryz renaming prog->AC
open Int renaming ofNat_eq_natCast->AD,toNat_natCast->AE,ofNat->AP,le_trans->AR
open Go.Vf renaming std->AF,nat->AS
open Bool renaming noConfusion->AG,true->AH,false->AI
open List renaming length_cons->AJ,length_nil->AL,length->AQ
open Classical renaming byContradiction->AK
open Go.IntKind renaming signed->AM,wrap->AN,bits->AO
set_option linter.unusedSimpArgs false
set_option linter.unusedVariables false
set_option maxHeartbeats 0
namespace Go.Proofs.Tryz.Run
open Go Go.Vf Go.Proofs
open Go.Proofs.YtbglklaocjifhaaGreat
theorem i0v {n:Nat}(hn:n<=1000000)(g:Nat->Int)(H:List a0f)(gid:FuncId)(a:Nat)(p:Nat->Bool)
 (hp: ∀i,i<n->a1h AC gid [int (g i),.ptr a 0] H (ro H (bool (p i)))) (r:Int) (hr:a6z n p r):
 a1h AC 215 [isl n g,.fn gid [] [.ptr a 0]] H (ro H (int r)):=by
 refine a2y AB okP e2z _ rfl fun E Sg hb hS=> ?_;have ett: ∀z,Sg.toNat z=z.toNat:=by subst hS;exact fun _=>rfl
 cbv;refine a7r AB okP hS (fun i=>i<=n/\ ∀j,j<i->p j=AI) (fun i=>n-i)
  (fun i=>⟨b5r [(0,isl n g),(1,.fn gid [] [.ptr a 0]),(7,int n),(8,int i)] 19,H,[]⟩) 0 ⟨by omega,by omega⟩ ?_ ?_
 ·exact a4c rfl ⟨AA _,AA _,b0a (by subst hS;rfl),a6c rfl,trivial⟩ (.same _) (by omega) (.inr rfl) rfl
 ·intro i hi N hN;have hin:=hp i;clear hp;cbv;split
  ·cbv;have hlt:i<n:=by clear hin hN hr;subst hS;simp[AF] at*;omega
   have hin:=hin hlt;generalize hz:p i=z at hin;refine a1g hS (by clear hin hN hr;subst hS;simp[AF];omega) ?_;simp only[AS,ett,AD,AE];refine a3v hS (r:=bool z) (by subst hS;exact hin) ?_;cases z
   ·cbv;refine a1g hS (by clear hin hN hr;subst hS;exact b6g (by simp[AF];omega) (by simp[AF];omega)) ?_;refine hN (i+1) _ ⟨by omega,fun j hj=> ?_⟩ (by omega) (a4c rfl ⟨AA _,AA _,AA _,b0a ?_,trivial⟩ (.same _) (by omega) (.inr rfl) rfl)
    ·by_cases e:j=i
     ·subst e;exact hz
     ·exact hi.2 j (by omega)
    ·clear hin hN hr;subst hS;simp[AF]
   ·cbv;exact a2s (b0a (hr.2 i hlt hz hi.2).symm) (.same _) (.inr rfl)
  ·have hni:n<=i:=by clear hin hN hr;subst hS;simp[AF] at*;omega
   cbv;exact a2s (a6c (hr.1 fun j hj=>hi.2 j (by omega)).symm) (.same _) (.inr rfl)
theorem h5w {n:Nat}(hn:n<=1000000)(g:Nat->Int)(H:List a0f)(gid:FuncId)(a:Nat)(p:Nat->Bool)
 (hp: ∀i,i<n->a1h AC gid [int (g i),.ptr a 0] H (ro H (bool (p i)))) (r:Bool) (hr:r=AH↔ ∃i,i<n/\p i=AH):
 a1h AC 188 [isl n g,.fn gid [] [.ptr a 0]] H (ro H (bool r)):=by
 obtain⟨z,hz,hz1,hz2⟩: ∃z,a6z n p z/\(0<=z-> ∃i,i<n/\p i=AH)/\((∃i,i<n/\p i=AH)->0<=z):=a9i n p;have hin:=i0v hn g H gid a p hp z hz;have hzr:0<=z↔r=AH:=⟨fun h=>hr.2 (hz1 h),fun h=>hz2 (hr.1 h)⟩;clear hp hz hz1 hz2 hr;refine a2y AB okP e3u _ rfl fun E Sg hb hS=> ?_;cbv;refine a3v hS hin ?_;cbv;refine a2s (a0s ?_) (.same _) (.inr rfl);clear hin;subst hS;simp[AF];cases r
 ·simp at hzr⊢;omega
 ·simpa using hzr
theorem i6r (a lo up:Int)(r:Bool)(hr:r=AH↔ ¬(lo<=a/\a<=up)):a1h AC 189 [int a,.ptr 0 0,.ptr 1 0] [.var [int lo],.var [int up]] (ro [.var [int lo],.var [int up]] (bool r)):=by
 refine a2y AB okP e9b _ rfl fun E Sg hb hS=> ?_;cbv
 repeat' (split<;>cbv)
 all_goals
  refine a2s (a0s ?_) (.same _) (.inr rfl);subst hS;simp[AF] at*
  cases r<;>simp at* <;>omega
theorem h7d (lo up:Int){n:Nat}(hn:n<=1000000)(g:Nat->Int)(r:Bool)(hr:r=AH↔ ∀i,i<n->lo<=g i/\g i<=up):a0j AC AH 152 [int lo,int up,isl n g] (bool r):=by
 have hin:=c0u hn g (.var [int lo]) (.var [int up]) 189 (fun i=>decide (¬(lo<=g i/\g i<=up))) (fun i _=>i6r (g i) lo up _ decide_eq_true_iff) (!r) (by
  cases r
  ·have hr: ¬ ∀i,i<n->lo<=g i/\g i<=up:=fun h=>AG (hr.2 h);simp only[Bool.not_false,decide_eq_true_eq,true_iff];exact AK fun h=>hr fun i hi=>AK fun h'=>h ⟨i,hi,h'⟩
  ·have hr:=hr.1 rfl;simp only[Bool.not_true,decide_eq_true_eq,Bool.false_eq_true,false_iff];rintro⟨i,hi,h⟩;exact h (hr i hi))
 refine a1e (a0k AB okP f2r _ rfl fun E Sg hb hS=> ?_);cbv;refine a3v hS hin ?_;cases r<;>cbv
 ·exact a0s rfl
 ·exact a0s rfl
theorem h6p (lo up x:Int)(r:Bool)(hr:r=AH↔lo<=x/\x<=up):a0j AC AH 152 [int lo,int up,.d (.sl 1 1 (Vf.rowAt [[.int .i64 (.v x)]]))] (bool r):=
 a0j.like (.cons (AA _) (.cons (AA _) (.cons d0a .nil))) (h7d lo up (by omega) (fun _=>x) r (by rw[hr];exact⟨fun h _ _=>h,fun h=>h 0 (by omega)⟩))
theorem h4z {n m:Nat}(hn:n<=1000000)(g h:Nat->Int)(r:Bool)(hr:r=AH↔L n g=L m h):a0j AC AH 155 [isl n g,isl m h] (bool r):=by
 have hiff:L n g=L m h↔n=m/\ ∀i,i<n->g i=h i:=by
  constructor
  ·intro e;have el:n=m:=by simpa [h3u] using congrArg AQ e
   subst el;refine⟨rfl,fun j hj=> ?_⟩;have:=congrArg (fun l=>l[j]?) e;simpa [L,hj] using this
  ·rintro⟨rfl,hh⟩;exact h4v hh
 rw[hiff] at hr;refine a1e (a0k AB okP e9l _ rfl fun E Sg hb hS=> ?_);have ett: ∀z,Sg.toNat z=z.toNat:=by subst hS;exact fun _=>rfl
 cbv;split
 ·have hne:n≠m:=by subst hS;simp[AF] at*;omega
  cbv;exact e8z hr fun h=>hne h.1
 have hnm:n=m:=by subst hS;simp[AF] at*;omega
 subst hnm;cbv;refine a7r AB okP hS (fun i=>i<=n/\ ∀j,j<i->g j=h j) (fun i=>n-i)
  (fun i=>⟨b5r [(0,isl n g),(1,isl n h),(12,int n),(13,int i)] 26,[],[]⟩) 0 ⟨by omega,by omega⟩ ?_ ?_
 ·exact a4c rfl ⟨AA _,AA _,b0a (by subst hS;rfl),a6c rfl,trivial⟩ (.nil _) (by omega) (.inr rfl) rfl
 ·intro i hi N hN;cbv;split
  ·have hlt:i<n:=by subst hS;simp[AF] at*;omega
   cbv;refine a1g hS (by subst hS;simp[AF];omega) ?_;refine a1g hS (by subst hS;simp[AF];omega) ?_;simp only[AS,ett,AD,AE];split
   ·have hx:g i≠h i:=by subst hS;simp[AF] at*;assumption
    cbv;exact e8z hr fun hh=>hx (hh.2 i hlt)
   ·have hx:g i=h i:=by subst hS;simp[AF] at*;assumption
    cbv;refine a1g hS (by subst hS;exact b6g (by simp[AF];omega) (by simp[AF];omega)) ?_;refine hN (i+1) _ ⟨by omega,fun j hj=> ?_⟩ (by omega) (a4c rfl ⟨AA _,AA _,AA _,b0a (by subst hS;simp[AF]),trivial⟩ (.nil _) (by omega) (.inr rfl) rfl);by_cases e:j=i
    ·subst e;exact hx
    ·exact hi.2 j (by omega)
  ·have hall: ∀j,j<n->g j=h j:=by
    have:n<=i:=by subst hS;simp[AF] at*;omega
    exact fun j hj=>hi.2 j (by omega)
   cbv;exact h8e hr ⟨rfl,hall⟩
theorem h6o {n:Nat}(hn:n<=1000000):a0j AC AI 156 [int n] (isl n fun i=>(i:Int)):=by
 refine a0k AB okP f2u _ rfl fun E Sg hb hS=> ?_;have ett: ∀z,Sg.toNat z=z.toNat:=by subst hS;exact fun _=>rfl
 generalize hres:isl n (fun i=>(i:Int))=res;cbv;refine a1g hS (by subst hS;simp[AF]) (a1g hS (by subst hS;simp[AF,big];omega) ?_);simp only[AS,ett,AD,AE];refine a7r AB okP hS (σ:=Nat×(Nat->Int)) (fun s=>s.1<=n/\ ∀j,j<s.1->s.2 j=j) (fun s=>n-s.1)
  (fun s=>⟨b5r [(0,int n),(3,.msl 0 1 none n AI),(7,int n),(8,int s.1)] 17,[arrI n s.2],[]⟩) (0,fun _=>0) ⟨by simp,by simp⟩ ?_ ?_
 ·refine a4c rfl ⟨AA _,AA _,AA _,a6c rfl,trivial⟩ (.cons (a9v.arrr rfl (fun i hi=>by subst hS;simp only[AF] at hi⊢;rw[if_pos hi];exact .one (.int rfl))) (.nil _)) (by simp;omega) (.inr rfl) rfl
 ·rintro⟨i,u⟩ ⟨hi1,hi2⟩ N hN;simp only at hi1 hi2 hN;cbv;split
  ·have hlt:i<n:=by subst hS;simp[AF] at*;omega
   cbv;refine a1g hS (by subst hS;simp[AF];omega) ?_;simp only[AS,ett,AD,AE];refine a1g hS (by subst hS;simp[AF];omega) ?_;refine a1g hS (by subst hS;exact b6g (by simp[AF];omega) (by simp[AF];omega)) ?_;refine hN (i+1,fun j=>if j=i then (i:Int) else u j) _ ⟨by simp;omega,fun j hj=> ?_⟩ (by simp;omega) (a4c rfl ⟨AA _,AA _,AA _,b0a (by subst hS;simp[AF]),trivial⟩ (.cons (a9v.arrI rfl fun j hj=> ?_) (.nil _)) (by simp;omega) (.inr rfl) rfl)
   ·by_cases e:j=i
    ·subst e;simp
    ·simp only[if_neg e];exact hi2 j (by simp at hj;omega)
   ·subst hS;simp only[AF];split<;>rfl
  ·have hin:i=n:=by subst hS;simp[AF] at*;omega
   subst hin;cbv;subst hres;refine a1g hS (by subst hS;simp[AF]) ?_;exact a0x.isl rfl fun j hj=>hi2 j hj
theorem i3d {n:Nat}(hn:n<=1000000)(g:Nat->Int)(res:AV)(hres:res=isl n g):a0j AC AI 153 [isl n g] res:=by
 cases n with
 |zero=>
  refine a0j.empty fun a cap=> ?_;refine a0k AB okP f2l _ rfl fun E Sg hb hS=> ?_;cases a with
  |none=>cbv;subst hres;exact a0x.nil0
  |some a=>
   cbv
   repeat' ((first|(with_reducible apply a1g hS))<;>cbv)
   all_goals try (subst hS;simp[AF,AS,IX.val,big] at* <;>omega)
   subst hres;exact AT (by subst hS;rfl) fun i hi=>by subst hS;simp[AF] at hi
 |succ n=>
  refine a0k AB okP f2l _ rfl fun E Sg hb hS=> ?_;cbv
  repeat' ((first|(with_reducible apply a1g hS))<;>cbv)
  all_goals try (subst hS;simp[AF,AS,IX.val,big] at* <;>omega)
  subst hres;refine AT (by subst hS;simp[AF]) fun i hi=> ?_;subst hS;simp[AF]
theorem i2c {n:Nat}(hn:n<=1000000)(g:Nat->Int):a0j AC AI 153 [isl n g] (isl n g):=i3d hn g _ rfl
def i5n (n:Nat)(g:Nat->Int)(pg:List Nat)(v:AV)(h':List a0f):Prop:=pg=[]/\v= .msl 0 1 none n AI/\h'=[arrI n g]
theorem i3m {n:Nat}(hn:n<=1000000)(g:Nat->Int):a1h AC 153 [isl n g] [] (i5n n g):=by
 cases n with
 |zero=>
  refine a1h.empty fun a cap=>a1h.ret_nil 1 (fun i=>[.int .i64 (.v (g i))]) ?_;refine h3w AB okP f2l rfl fun E Sg hb hS F hF=> ?_;cases a with
  |none=>cbv;exact⟨[],by simp,hF (.nil _) (AA _) (by simp) (.inr rfl) (.inl ⟨rfl,rfl,rfl,rfl⟩)⟩
  |some a=>
   cbv
   repeat' ((first|(with_reducible apply a1g hS))<;>cbv)
   all_goals try (subst hS;simp[AF,AS,IX.val,big] at* <;>omega)
   refine⟨[],by simp,hF (h1:=[arrI 0 g]) (.cons (a9v.arrI (by subst hS;rfl) fun j hj=>by subst hS;simp[AF] at hj) (.nil _)) (v0:= .msl 0 1 none 0 AI) (by subst hS;exact AA _) (by simp) (.inr rfl) (.inr ⟨rfl,rfl,rfl⟩)⟩
 |succ n=>
  refine h3w AB okP f2l rfl fun E Sg hb hS F hF=> ?_;cbv
  repeat' ((first|(with_reducible apply a1g hS))<;>cbv)
  all_goals try (subst hS;simp[AF,AS,IX.val,big] at* <;>omega)
  refine⟨[],by simp,hF (h1:=[arrI (n+1) g]) (.cons (a9v.arrI (by subst hS;simp[AF]) fun j hj=>by subst hS;simp[AF]) (.nil _)) (v0:= .msl 0 1 none (n+1) AI) (by subst hS;simp only[AF,Nat.zero_add];exact AA _) (by simp) (.inr rfl) ⟨rfl,rfl,rfl⟩⟩
def h6h (n:Nat)(u g:Nat->Int):Prop:=
 ∃s t:Nat->Nat,(∀i,i<n->s i<n/\t i<n/\s (t i)=i/\t (s i)=i)/\ ∀i,i<n->u i=g (s i)
theorem h6h.refl (n:Nat)(g:Nat->Int):h6h n g g:=⟨id,id,fun i hi=>⟨hi,hi,rfl,rfl⟩,fun i hi=>rfl⟩
def sw (j k i:Nat):Nat:=if i=j then k else if i=k then j else i
theorem i5s (j k i:Nat):sw j k (sw j k i)=i:=by
 unfold sw
 (repeat' split)<;>omega
theorem i2p {n j k i:Nat}(hj:j<n)(hk:k<n)(hi:i<n):sw j k i<n:=by
 unfold sw
 (repeat' split)<;>omega
theorem h6h.swap {n:Nat}{u g:Nat->Int}(h:h6h n u g){j k:Nat}(hj:j<n)(hk:k<n):h6h n (fun i=>u (sw j k i)) g:=by
 obtain⟨s,t,h1,h2⟩:=h;refine⟨fun i=>s (sw j k i),fun i=>sw j k (t i),fun i hi=> ?_,fun i hi=>h2 _ (i2p hj hk hi)⟩;obtain⟨a1,a2,a3,a4⟩:=h1 i hi;refine⟨(h1 _ (i2p hj hk hi)).1,i2p hj hk a2,?_,?_⟩
 ·simp only[i5s];exact a3
 ·simp only[(h1 _ (i2p hj hk hi)).2.2.2,i5s]
theorem h6n {n:Nat}{u g:Nat->Int}(h:h6h n u g)(hs: ∀p q,p<q->q<n->u p<=u q):(∀i,i<n->u i=i)↔h6y n n g:=by
 obtain⟨s,t,h1,h2⟩:=h;have hg: ∀k,k<n->g k=u (t k):=fun k hk=>by rw[h2 _ (h1 k hk).2.1,(h1 k hk).2.2.1]
 constructor
 ·intro hu;refine⟨rfl,fun i hi=> ?_⟩;have hi':=(h1 i hi).2.1;rw[hg i hi,hu _ hi'];refine⟨by omega,fun k hk e=> ?_⟩;have hk':k<n:=by omega
  rw[hg k hk',hu _ (h1 k hk').2.1] at e;have e2:t k=t i:=by omega
  have:s (t k)=s (t i):=by rw[e2]
  rw[(h1 k hk').2.2.1,(h1 i hi).2.2.1] at this;omega
 ·rintro⟨_,ho⟩;have hne: ∀p q,p<q->q<n->u p≠u q:=fun p q hpq hq e=>by
   rw[h2 p (by omega),h2 q hq] at e;have hsp:=(h1 p (by omega)).1;have hsq:=(h1 q hq).1;have hsne:s p≠s q:=fun e=>by
    have:t (s p)=t (s q):=by rw[e]
    rw[(h1 p (by omega)).2.2.2,(h1 q hq).2.2.2] at this;omega
   rcases Nat.lt_or_ge (s p) (s q) with h3|h3
   ·exact (ho (s q) hsq).2 (s p) h3 e
   ·exact (ho (s p) hsp).2 (s q) (by omega) e.symm
  have hlt: ∀p q,p<q->q<n->u p<u q:=fun p q hpq hq=>by have a:=hs p q hpq hq;have b:=hne p q hpq hq;omega
  have hlo: ∀i,i<n->(i:Int)<=u i:=by
   intro i
   induction i with
   |zero=>intro hi;rw[h2 0 hi];exact (ho _ (h1 0 hi).1).1.1
   |succ i ih=>intro hi;have:=ih (by omega);have:=hlt i (i+1) (by omega) hi;omega
  have hup: ∀d i,i+d+1=n->u i<=i:=by
   intro d
   induction d with
   |zero=>intro i hi;have:=(ho _ (h1 i (by omega)).1).1.2;rw[h2 i (by omega)];omega
   |succ d ih=>intro i hi;have:=ih (i+1) (by omega);have:=hlt i (i+1) (by omega) (by omega);omega
  intro i hi;have a:=hlo i hi;have b:=hup (n-1-i) i (by omega);omega
theorem c9c (a:Int):a0j AC AH 255 [int a] (bool AI):=by refine a1e (a0k AB okP e4n _ rfl fun E Sg hb hS=> ?_);cbv;refine a0s ?_;subst hS;simp[AF]
theorem i4s (a b:Int)(r:Bool)(hr:r=AH↔a<b):a0j AC AH 222 [int a,int b] (bool r):=by
 have h1:=c9c a;refine a1e (a0k AB okP e7q _ rfl fun E Sg hb hS=> ?_);cbv;refine a0v hS (bool AI) (by subst hS;exact h1) ?_;cbv;refine a0s ?_;subst hS;simp[AF];cases r
 ·have: ¬a<b:=fun h=>AG (hr.2 h);simpa using this
 ·simpa using hr.1 rfl
def i4k (n:Nat)(g:Nat->Int)(pg:List Nat)(v:AV)(h':List a0f):Prop:=pg=[]/\ ∃u,h6h n u g/\(∀p q,p<q->q<n->u p<=u q)/\h'=[arrI n u]
theorem h8c {n:Nat}(hn:n<=1000000)(g:Nat->Int):a1h AC 216 [.msl 0 1 none n AI,int 0,int n] [arrI n g] (i4k n g):=by
 refine h3w AB okP f2m rfl fun E Sg hb hS F hF=> ?_;simp only[AJ,AL] at hb;have ett: ∀z,Sg.toNat z=z.toNat:=by subst hS;exact fun _=>rfl
 cbv;refine a1g hS (by subst hS;simp[AF,AN,AO,AM]) ?_;refine a7r AB okP hS (σ:=Nat×(Nat->Int)) (fun s=>1<=s.1/\(s.1<=n\/n=0/\s.1=1)/\h6h n s.2 g/\ ∀p q,p<q->q<s.1->q<n->s.2 p<=s.2 q) (fun s=>n-s.1)
  (fun s=>⟨b5r [(0,.msl 0 1 none n AI),(1,int 0),(2,int n),(6,int s.1)] 49,[arrI n s.2],[]⟩) (1,g) ⟨by simp,by simp;omega,h6h.refl n g,fun p q h1 h2=>by simp at h2;omega⟩ ?_ ?_
 ·exact a4c rfl ⟨AA _,AA _,AA _,b0a (by subst hS;rfl),trivial⟩ (.cons (.refl _) (.nil _)) (by simp;omega) (.inr rfl) rfl
 ·rintro⟨i,u⟩ ⟨hi0,hi1,hi2,hi3⟩ N hN;simp only at hi0 hi1 hi2 hi3 hN;cbv;split
  ·have hlt:i<n:=by subst hS;simp[AF] at*;omega
   cbv;refine a7r AB okP hS (σ:=Nat×(Nat->Int)) (fun s=>s.1<=i/\h6h n s.2 g/\(∀p q,p<q->q<=i->p≠s.1->q≠s.1->s.2 p<=s.2 q)/\ ∀q,s.1<q->q<=i->s.2 s.1<=s.2 q) (fun s=>s.1)
    (fun s=>⟨b5r [(0,.msl 0 1 none n AI),(1,int 0),(2,int n),(6,int i),(7,int s.1)] 49,[arrI n s.2],[]⟩) (i,u) ⟨by simp,hi2,fun p q h1 h2 h3 h4=>hi3 p q h1 (by simp at h4;omega) (by omega),fun q h1 h2=>by simp at h1;omega⟩ ?_ ?_
   ·exact a4c rfl ⟨AA _,AA _,AA _,AA _,AA _,trivial⟩ (.cons (.refl _) (.nil _)) (by simp;omega) (.inr rfl) rfl
   ·rintro⟨j,u⟩ ⟨hj0,hj1,hj2,hj3⟩ N2 hN2;simp only at hj0 hj1 hj2 hj3 hN2;cbv;split
    ·have hj:0<j:=by clear hN hN2 hF;subst hS;simp[AF] at*;try assumption
     obtain⟨j,rfl⟩: ∃k,j=k+1:=⟨j-1,by omega⟩;obtain⟨z,hz⟩: ∃z:Bool,z=AH↔u (j+1)<u j:=⟨decide _,decide_eq_true_iff⟩;have hls:=i4s (u (j+1)) (u j) z hz;have ej:Sg.isub (AP (j+1)) (AP 1)=AP j:=by subst hS;simp[AF]
     have eu: ∀(f:Nat->List DV) (r:List DV),Sg.upd f j.succ r j=f j:=by subst hS;intro f r;simp[AF]
     cbv;simp only[ej];refine a1g hS (by subst hS;simp[AF]<;>omega) ?_;refine a1g hS (by subst hS;exact b6g (by simp[AF]<;>omega) (by simp[AF]<;>omega)) ?_;refine a1g hS (by subst hS;simp[AF]<;>omega) ?_;refine a1g hS (by subst hS;simp[AF]<;>omega) ?_;refine a1g hS (by subst hS;simp[AF]<;>omega) ?_;simp only[AS,ett,AD,AE];refine a0v hS (bool z) (by subst hS;exact hls) ?_;cases z
     ·have hle:u j<=u (j+1):=by have: ¬u (j+1)<u j:=fun h=>AG (hz.2 h);omega
      cbv;refine a1g hS (by subst hS;exact b6g (by simp[AF];omega) (by simp[AF];omega)) ?_;refine hN (i+1,u) _ ⟨by simp,by simp;omega,hj1,fun p q h1 h2 h3=> ?_⟩ (by simp;omega) (a4c rfl ⟨AA _,AA _,AA _,b0a (by subst hS;simp[AF]),trivial⟩ (.cons (.refl _) (.nil _)) (by simp;omega) (.inr rfl) rfl);simp only at h2⊢;by_cases e1:p=j+1
      ·subst e1;exact hj3 q h1 (by omega)
      ·by_cases e2:q=j+1
       ·subst e2;by_cases e3:p=j
        ·subst e3;exact hle
        ·exact AR (hj2 p j (by omega) (by omega) e1 (by omega)) hle
       ·exact hj2 p q h1 (by omega) e1 e2
     ·have hlt2:=hz.1 rfl;cbv;simp only[ej];refine a1g hS (by subst hS;exact b6g (by simp[AF]<;>omega) (by simp[AF]<;>omega)) ?_;refine a1g hS (by subst hS;exact b6g (by simp[AF]<;>omega) (by simp[AF]<;>omega)) ?_;simp only[AS,ett,AD,AE,eu];cbv;simp only[ej,AS,ett,AD,AE,eu];have ej3:Sg.isub ((j.succ:Nat):Int) ((1:Nat):Int)=(j:Int):=ej;refine a1g hS (by subst hS;simp[AF]<;>omega) ?_;refine a1g hS (by subst hS;simp[AF]<;>omega) ?_;refine a1g hS (by subst hS;simp[AF]<;>omega) ?_;refine a1g hS (by subst hS;simp[AF]<;>omega) ?_;refine a1g hS (by subst hS;simp[AF]<;>omega) ?_;refine a1g hS (by subst hS;simp[AF]<;>omega) ?_;refine a1g hS (by subst hS;simp[AF]<;>omega) ?_;refine a1g hS (by subst hS;simp[AF]<;>omega) ?_;have hin:Sg.inr .i64 (Sg.isub ((j.succ:Nat):Int) ((1:Nat):Int)):=by rw[ej3];subst hS;exact b6g (by omega) (by omega)
      refine a1g hS hin ?_;refine hN2 (j,fun k=>u (sw (j+1) j k)) _ ⟨by simp;omega,hj1.swap (by omega) (by omega),fun p q h1 h2 h3 h4=> ?_,fun q h1 h2=> ?_⟩ (by simp) (a4c rfl ⟨AA _,AA _,AA _,AA _,b0a ej3,trivial⟩ (.cons (a9v.arrI rfl fun k hk=> ?_) (.nil _)) (by simp;omega) (.inr rfl) rfl)
      ·simp only at h1 h2 h3 h4⊢;unfold sw;by_cases e1:p=j+1
       ·rw[if_pos e1,if_neg (by omega),if_neg (by omega)];exact hj2 j q (by omega) h2 (by omega) (by omega)
       ·by_cases e2:q=j+1
        ·rw[if_neg e1,if_neg h3,if_pos e2];exact hj2 p j (by omega) (by omega) e1 (by omega)
        ·rw[if_neg e1,if_neg h3,if_neg e2,if_neg h4];exact hj2 p q h1 h2 e1 e2
      ·simp only at h1 h2⊢;unfold sw;rw[if_neg (show¬j=j+1 by omega),if_pos rfl];by_cases e2:q=j+1
       ·rw[if_pos e2];omega
       ·rw[if_neg e2,if_neg (by omega)];exact hj3 q (by omega) h2
      ·subst hS;simp only[AF,sw];by_cases e1:k=j
       ·subst e1;simp
       ·by_cases e2:k=j+1
        ·subst e2;simp
        ·simp[e1,e2]
    ·have hj:j=0:=by clear hN hN2 hF;subst hS;simp[AF] at*;omega
     subst hj;cbv;refine a1g hS (by subst hS;exact b6g (by simp[AF];omega) (by simp[AF];omega)) ?_;refine hN (i+1,u) _ ⟨by simp,by simp;omega,hj1,fun p q h1 h2 h3=> ?_⟩ (by simp;omega) (a4c rfl ⟨AA _,AA _,AA _,b0a (by subst hS;simp[AF]),trivial⟩ (.cons (.refl _) (.nil _)) (by simp;omega) (.inr rfl) rfl);simp only at h2⊢;by_cases e1:p=0
     ·subst e1;exact hj3 q h1 (by omega)
     ·exact hj2 p q h1 (by omega) e1 (by omega)
  ·have hni:n<=i:=by clear hN hF;subst hS;simp[AF] at*;omega
   cbv;exact⟨[],by simp,hF (h1:=[arrI n u]) (.cons (.refl _) (.nil _)) (AA _) (by simp) (.inr rfl) ⟨rfl,u,hi2,fun p q h1 h2=>hi3 p q h1 (by omega) h2,rfl⟩⟩
theorem a0j.resLike {own:Bool}{f:FuncId}{args:List AV}{r r':AV}(hl:a0x r r')(h:a0j AC own f args r):a0j AC own f args r':=
 ⟨h.1,fun w S vs hS hv=>(h.2 w S vs hS hv).mono fun e w' ⟨v,S',h1,h2,h3⟩=>⟨v,S',h1,hl _ _ _ _ h2,h3⟩⟩
def i2a (v:CA):Bool:=
 match v with
 | .d (.int .i64 _)=>AH
 |_=>AI
theorem h4a {n:Nat}(h:(XSn tab 100).pcall AH 191 [.d (.int .u64 (.v (n:Int)))] i2a=AH): ∃z:Int,a0j AC AH 191 [.d (.int .u64 (.v (n:Int)))] (int z):=by
 obtain⟨r,h1,h2⟩:=c0g AB okP tab_ok 100 h;unfold i2a at h1;split at h1
 ·rename_i x;have h3:a0j AC AH 191 [.d (.int .u64 (.v (n:Int)))] (.d (.int .i64 x)):=by simpa [CA.toL,CA.to,CD.to] using h2
  exact⟨x.val,a0j.resLike (r:= .d (.int .i64 x)) (a0x.int rfl) h3⟩
 ·cases h1
theorem i6w: ∀n:Nat,n<=12-> ∃z:Int,a0j AC AH 191 [.d (.int .u64 (.v (n:Int)))] (int z)
 |0,_=>h4a (by kernel_rfl)
 |1,_=>h4a (by kernel_rfl)
 |2,_=>h4a (by kernel_rfl)
 |3,_=>h4a (by kernel_rfl)
 |4,_=>h4a (by kernel_rfl)
 |5,_=>h4a (by kernel_rfl)
 |6,_=>h4a (by kernel_rfl)
 |7,_=>h4a (by kernel_rfl)
 |8,_=>h4a (by kernel_rfl)
 |9,_=>h4a (by kernel_rfl)
 |10,_=>h4a (by kernel_rfl)
 |11,_=>h4a (by kernel_rfl)
 |12,_=>h4a (by kernel_rfl)
 |n+13,h=>by omega
theorem i6h {n:Nat}(hn:n<=12)(g:Nat->Int)(z:Int):a1h AC 190 [.msl 0 1 none n AI,int 0,int n,int z] [arrI n g] (i4k n g):=by
 have hin:=h8c (n:=n) (by omega) g;refine h3w AB okP e9i rfl fun E Sg hb hS F hF=> ?_;simp only[AJ,AL] at hb;cbv;refine i5z AB okP hS 1 ?_;cbv;refine a1g hS (by subst hS;exact b6g (by simp[AF]<;>omega) (by simp[AF]<;>omega)) ?_;split
 ·cbv;refine h3v hS (a1h.frame hin [0] rfl rfl ⟨a9v.refl _,trivial⟩) ?_;rintro pg v H' ⟨pg0,v0,h0,⟨rfl,u,h1,h2,rfl⟩,rfl,rfl,rfl⟩;cbv;exact⟨[],by simp,hF (h1:=[arrI n u]) (.cons (.refl _) (.nil _)) (AA _) (by simp) (.inr rfl) ⟨rfl,u,h1,h2,rfl⟩⟩
 ·rename_i h;exfalso;subst hS;simp[AF] at h;omega
theorem i4e {n:Nat}(hn:n<=12)(g:Nat->Int):a1h AC 154 [.msl 0 1 none n AI] [arrI n g] (i4k n g):=by
 obtain⟨z,hz⟩:=i6w n hn;have hin:=i6h hn g z;refine h3w AB okP f0u rfl fun E Sg hb hS F hF=> ?_;simp only[AJ,AL] at hb;have ew:Sg.iwrap .u64 (Sg.ofNat n)=(n:Int):=by subst hS;simp[AF,AN,AO,AM];omega
 cbv;simp only[ew];refine a0v hS (int z) hz ?_;cbv;refine h3v hS (a1h.frame (args':=[.msl 0 1 none n AI,int 0,.d (.int .i64 (.v (Sg.ofNat n))),int z]) (hin.like (.cons (AA _) (.cons (AA _) (.cons (b0a (by subst hS;rfl)) (.cons (AA _) .nil))))) [0] rfl rfl ⟨a9v.refl _,trivial⟩) ?_;rintro pg v H' ⟨pg0,v0,h0,⟨rfl,u,h1,h2,rfl⟩,rfl,rfl,rfl⟩;cbv;exact⟨[],by simp,hF (h1:=[arrI n u]) (.cons (.refl _) (.nil _)) (AA _) (by simp) (.inr rfl) ⟨rfl,u,h1,h2,rfl⟩⟩
theorem i1j {g:Nat->Int}: ∀{n:Nat},(∀i,i<n->1<=g i/\g i<=12)->h4d g n<=((12^n:Nat):Int)
 |0,_=>by simp[h4d]
 |n+1,h=>by have h1:=i1j (g:=g) (n:=n) fun i hi=>h i (by omega);have h2:=h n (by omega);have h3:=h4r (g:=g) (n:=n) fun i hi=>(h i (by omega)).1;have:h4d g n*g n<=((12^n:Nat):Int)*12:=Int.mul_le_mul h1 h2.2 (by omega) (by omega);rw[h4d,Nat.pow_succ];simpa using this
theorem i8s: ∀n:Nat,n<=6->12^n<=2985984
 |0,_=>by decide
 |1,_=>by decide
 |2,_=>by decide
 |3,_=>by decide
 |4,_=>by decide
 |5,_=>by decide
 |6,_=>by decide
 |n+7,h=>by omega
theorem h5l {n m:Nat}(hn:n<=1000000)(hm:m<=12)(g h:Nat->Int)(r:Int)(hr:h4e n m g h=r):a0j AC AH 119 [isl n g,isl m h] (int r):=by
 obtain⟨z,hz⟩: ∃z:Bool,z=AH↔ ∀i,i<n->1<=g i/\g i<=12:=by classical exact⟨decide _,decide_eq_true_iff⟩
 have hw:=h7d 1 12 hn g z hz;have hcl:=i3m (n:=m) (by omega) h;unfold h4e at hr;refine a4e (a0k AB okP e8b _ rfl fun E Sg hb hS=> ?_);have ett: ∀z,Sg.toNat z=z.toNat:=by subst hS;exact fun _=>rfl
 cbv;split
 ·have h6:6<n:=by subst hS;simp[AF] at*;omega
  cbv;exact a6c (by rw[<-hr,if_pos h6];rfl)
 have h6: ¬6<n:=by subst hS;simp[AF] at*;omega
 rw[if_neg h6] at hr;cbv;refine a0v hS (bool z) (by subst hS;exact hw) ?_;cases z
 ·have hnz: ¬ ∀i,i<n->1<=g i/\g i<=12:=fun h=>AG (hz.2 h);cbv;exact a6c (by rw[<-hr,if_pos hnz];rfl)
 have hz:=hz.1 rfl;rw[if_neg (fun h=>h hz)] at hr;cbv;refine a7r AB okP hS (σ:=Nat×Int) (fun s=>s.1<=n/\s.2=h4d g s.1) (fun s=>n-s.1)
  (fun s=>⟨b5r [(0,isl n g),(1,isl m h),(5,int s.2),(17,isl n g),(18,int n),(19,int s.1)] 39,[],[]⟩) (0,1) ⟨by simp,rfl⟩ ?_ ?_
 ·exact a4c rfl ⟨AA _,AA _,a6c rfl,AA _,b0a (by subst hS;rfl),a6c rfl,trivial⟩ (.nil _) (by omega) (.inr rfl) rfl
 ·rintro⟨i,p⟩ ⟨hi1,hi2⟩ N hN;simp only at hi1 hi2 hN;cbv;split
  ·have hlt:i<n:=by subst hS;simp[AF] at*;omega
   have hb1:1<=h4d g (i+1):=h4r fun j hj=>(hz j (by omega)).1;have hb2:h4d g (i+1)<=2985984:=AR (i1j fun j hj=>hz j (by omega)) (by have:=i8s (i+1) (by omega);omega);have hpp:h4d g (i+1)=p*g i:=by rw[hi2];rfl
   rw[hpp] at hb1 hb2;cbv;refine a1g hS (by subst hS;simp[AF];omega) ?_;simp only[AS,ett,AD,AE];refine a1g hS (by subst hS;exact b6g (by simp[AF];omega) (by simp[AF];omega)) ?_;refine a1g hS (by subst hS;exact b6g (by simp[AF];omega) (by simp[AF];omega)) ?_;exact hN (i+1,p*g i) _ ⟨by simp;omega,hpp.symm⟩ (by simp;omega) (a4c rfl ⟨AA _,AA _,b0a (by subst hS;simp[AF]),AA _,AA _,b0a (by subst hS;simp[AF]),trivial⟩ (.nil _) (by omega) (.inr rfl) rfl)
  ·have hin:i=n:=by subst hS;simp[AF] at*;omega
   subst hin;cbv;split
   ·have:2000<h4d g i:=by rw[<-hi2];subst hS;simp[AF] at*;omega
    cbv;exact a6c (by rw[<-hr,if_pos this];rfl)
   have hpr: ¬2000<h4d g i:=by rw[<-hi2];subst hS;simp[AF] at*;omega
   rw[if_neg hpr] at hr;cbv;refine h3v hS (a1h.frame hcl [] rfl rfl trivial) ?_;rintro pg v H' ⟨pg0,v0,h0,⟨rfl,rfl,rfl⟩,rfl,rfl,rfl⟩;cbv;refine h3v hS (a1h.frame (i4e hm h) [0] rfl rfl ⟨a9v.refl _,trivial⟩) ?_;rintro pg v H' ⟨pg0,v0,h0,⟨rfl,u,h1,h2,rfl⟩,rfl,rfl,rfl⟩;obtain⟨z,hz2⟩: ∃z:Bool,z=AH↔L m u=L i (fun k=>(k:Int)):=by classical exact⟨decide _,decide_eq_true_iff⟩
   have heq:=h4z (n:=m) (m:=i) (by omega) u (fun k=>(k:Int)) z hz2;have hio:L m u=L i (fun k=>(k:Int))↔h6y i m h:=by
    constructor
    ·intro e;have el:m=i:=by simpa [h3u] using congrArg AQ e
     subst el;refine (h6n h1 h2).1 fun j hj=> ?_;have:=congrArg (fun l=>l[j]?) e;simpa [L,hj] using this
    ·intro e;have el:m=i:=e.1;subst el;exact h4v ((h6n h1 h2).2 e)
   rw[hio] at hz2;cbv;refine a0v hS (isl i fun k=>(k:Int)) (by subst hS;exact h6o (by omega)) ?_;cbv;refine a1g hS (by subst hS;simp[AF]) ?_;refine a0v hS (bool z) (by subst hS;exact heq) ?_;cases z
   ·cbv;exact a6c (by rw[<-hr,if_neg (fun h=>AG (hz2.2 h))];rfl)
   ·cbv;exact a6c (by rw[<-hr,if_pos (hz2.1 rfl)];rfl)
end Go.Proofs.Tryz.Run
