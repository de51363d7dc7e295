/- The program's maker. Conditions: none. -/
import Derived.Test.YtbglklaocjifhaaGreatFQi
open Go.Vf.a0x renaming refl->AA,sl'->Af
open Go.Proofs.YtbglklaocjifhaaGreat.Tryz renaming mixed->AB
open Go.Proofs.Tryz renaming prog->AC
open Int renaming ofNat_eq_natCast->AD,toNat_natCast->AF,ofNat->AX,ofNat_lt->Ac,le_trans->Ad
open Bool renaming noConfusion->AE,true->AH,false->AM,false_eq_true->AU,not_false->AY,not_true->AZ
open Classical renaming byContradiction->AG
open Go.Vf renaming std->AI,nat->AW
open List renaming length_nil->AJ,length_cons->AK,length->Aa
open Go.IntKind renaming signed->AN,wrap->AO,bits->AP
open Go.Vf.a9v renaming refl->AQ,var->Ab
open Go.Vf.a1h renaming frame->AR,of_pure->Ae
open Option renaming none->AS
open Go.Vf.a3x renaming tuple->AT
set_option linter.unusedSimpArgs false
set_option linter.unusedVariables false
set_option maxHeartbeats 0
namespace Go.Proofs.Tryz.Run
open Go Go.Vf Go.Proofs
open Go.Proofs.YtbglklaocjifhaaGreat
theorem i0v {n:Nat}(hn:n<=1000000)(g:Nat->Int)(H:List a0f)(gid:FuncId)(a:Nat)(p:Nat->Bool)
 (hp: ∀i,i<n->a1h AC gid [int (g i),.ptr a 0] H (ro H (bool (p i)))) (r:Int) (hr:a6z n p r):
 a1h AC 215 [isl n g,.fn gid [] [.ptr a 0]] H (ro H (int r)):=by
 refine a2y AB okP e2z _ rfl fun E Sg hb hS=> ?_;have ett: ∀z,Sg.toNat z=z.toNat:=by subst hS;exact fun _=>rfl
 cbv;refine a7r AB okP hS (fun i=>i<=n/\ ∀j,j<i->p j=AM) (fun i=>n-i)
  (fun i=>⟨b5r [(0,isl n g),(1,.fn gid [] [.ptr a 0]),(7,int n),(8,int i)] 19,H,[]⟩) 0 ⟨by omega,by omega⟩ ?_ ?_
 ·exact a4c rfl ⟨AA _,AA _,b0a (by subst hS;rfl),a6c rfl,trivial⟩ (.same _) (by omega) (.inr rfl) rfl
 ·intro i hi N hN;have hin:=hp i;clear hp;cbv;split
  ·cbv;have hlt:i<n:=by clear hin hN hr;subst hS;simp[AI] at*;omega
   have hin:=hin hlt;generalize hz:p i=z at hin;refine a1g hS (by clear hin hN hr;subst hS;simp[AI];omega) ?_;simp only[AW,ett,AD,AF];refine a3v hS (r:=bool z) (by subst hS;exact hin) ?_;cases z
   ·cbv;refine a1g hS (by clear hin hN hr;subst hS;exact b6g (by simp[AI];omega) (by simp[AI];omega)) ?_;refine hN (i+1) _ ⟨by omega,fun j hj=> ?_⟩ (by omega) (a4c rfl ⟨AA _,AA _,AA _,b0a ?_,trivial⟩ (.same _) (by omega) (.inr rfl) rfl)
    ·by_cases e:j=i
     ·subst e;exact hz
     ·exact hi.2 j (by omega)
    ·clear hin hN hr;subst hS;simp[AI]
   ·cbv;exact a2s (b0a (hr.2 i hlt hz hi.2).symm) (.same _) (.inr rfl)
  ·have hni:n<=i:=by clear hin hN hr;subst hS;simp[AI] at*;omega
   cbv;exact a2s (a6c (hr.1 fun j hj=>hi.2 j (by omega)).symm) (.same _) (.inr rfl)
theorem h5w {n:Nat}(hn:n<=1000000)(g:Nat->Int)(H:List a0f)(gid:FuncId)(a:Nat)(p:Nat->Bool)
 (hp: ∀i,i<n->a1h AC gid [int (g i),.ptr a 0] H (ro H (bool (p i)))) (r:Bool) (hr:r=AH↔ ∃i,i<n/\p i=AH):
 a1h AC 188 [isl n g,.fn gid [] [.ptr a 0]] H (ro H (bool r)):=by
 obtain⟨z,hz,hz1,hz2⟩: ∃z,a6z n p z/\(0<=z-> ∃i,i<n/\p i=AH)/\((∃i,i<n/\p i=AH)->0<=z):=a9i n p;have hin:=i0v hn g H gid a p hp z hz;have hzr:0<=z↔r=AH:=⟨fun h=>hr.2 (hz1 h),fun h=>hz2 (hr.1 h)⟩;clear hp hz hz1 hz2 hr;refine a2y AB okP e3u _ rfl fun E Sg hb hS=> ?_;cbv;refine a3v hS hin ?_;cbv;refine a2s (a0s ?_) (.same _) (.inr rfl);clear hin;subst hS;simp[AI];cases r
 ·simp at hzr⊢;omega
 ·simpa using hzr
theorem i6r (a lo up:Int)(r:Bool)(hr:r=AH↔ ¬(lo<=a/\a<=up)):a1h AC 189 [int a,.ptr 0 0,.ptr 1 0] [.var [int lo],.var [int up]] (ro [.var [int lo],.var [int up]] (bool r)):=by
 refine a2y AB okP e9b _ rfl fun E Sg hb hS=> ?_;cbv
 repeat' (split<;>cbv)
 all_goals
  refine a2s (a0s ?_) (.same _) (.inr rfl);subst hS;simp[AI] at*
  cases r<;>simp at* <;>omega
theorem h7d (lo up:Int){n:Nat}(hn:n<=1000000)(g:Nat->Int)(r:Bool)(hr:r=AH↔ ∀i,i<n->lo<=g i/\g i<=up):a0j AC AH 152 [int lo,int up,isl n g] (bool r):=by
 have hin:=c0u hn g (.var [int lo]) (.var [int up]) 189 (fun i=>decide (¬(lo<=g i/\g i<=up))) (fun i _=>i6r (g i) lo up _ decide_eq_true_iff) (!r) (by
  cases r
  ·have hr: ¬ ∀i,i<n->lo<=g i/\g i<=up:=fun h=>AE (hr.2 h);simp only[AY,decide_eq_true_eq,true_iff];exact AG fun h=>hr fun i hi=>AG fun h'=>h ⟨i,hi,h'⟩
  ·have hr:=hr.1 rfl;simp only[AZ,decide_eq_true_eq,AU,false_iff];rintro⟨i,hi,h⟩;exact h (hr i hi))
 refine a1e (a0k AB okP f2r _ rfl fun E Sg hb hS=> ?_);cbv;refine a3v hS hin ?_;cases r<;>cbv
 ·exact a0s rfl
 ·exact a0s rfl
theorem h6p (lo up x:Int)(r:Bool)(hr:r=AH↔lo<=x/\x<=up):a0j AC AH 152 [int lo,int up,.d (.sl 1 1 (Vf.rowAt [[.int .i64 (.v x)]]))] (bool r):=
 a0j.like (.cons (AA _) (.cons (AA _) (.cons d0a .nil))) (h7d lo up (by omega) (fun _=>x) r (by rw[hr];exact⟨fun h _ _=>h,fun h=>h 0 (by omega)⟩))
theorem h4z {n m:Nat}(hn:n<=1000000)(g h:Nat->Int)(r:Bool)(hr:r=AH↔L n g=L m h):a0j AC AH 155 [isl n g,isl m h] (bool r):=by
 have hiff:L n g=L m h↔n=m/\ ∀i,i<n->g i=h i:=by
  constructor
  ·intro e;have el:n=m:=by simpa [h3u] using congrArg Aa e
   subst el;refine⟨rfl,fun j hj=> ?_⟩;have:=congrArg (fun l=>l[j]?) e;simpa [L,hj] using this
  ·rintro⟨rfl,hh⟩;exact h4v hh
 rw[hiff] at hr;refine a1e (a0k AB okP e9l _ rfl fun E Sg hb hS=> ?_);have ett: ∀z,Sg.toNat z=z.toNat:=by subst hS;exact fun _=>rfl
 cbv;split
 ·have hne:n≠m:=by subst hS;simp[AI] at*;omega
  cbv;exact e8z hr fun h=>hne h.1
 have hnm:n=m:=by subst hS;simp[AI] at*;omega
 subst hnm;cbv;refine a7r AB okP hS (fun i=>i<=n/\ ∀j,j<i->g j=h j) (fun i=>n-i)
  (fun i=>⟨b5r [(0,isl n g),(1,isl n h),(12,int n),(13,int i)] 26,[],[]⟩) 0 ⟨by omega,by omega⟩ ?_ ?_
 ·exact a4c rfl ⟨AA _,AA _,b0a (by subst hS;rfl),a6c rfl,trivial⟩ (.nil _) (by omega) (.inr rfl) rfl
 ·intro i hi N hN;cbv;split
  ·have hlt:i<n:=by subst hS;simp[AI] at*;omega
   cbv;refine a1g hS (by subst hS;simp[AI];omega) ?_;refine a1g hS (by subst hS;simp[AI];omega) ?_;simp only[AW,ett,AD,AF];split
   ·have hx:g i≠h i:=by subst hS;simp[AI] at*;assumption
    cbv;exact e8z hr fun hh=>hx (hh.2 i hlt)
   ·have hx:g i=h i:=by subst hS;simp[AI] at*;assumption
    cbv;refine a1g hS (by subst hS;exact b6g (by simp[AI];omega) (by simp[AI];omega)) ?_;refine hN (i+1) _ ⟨by omega,fun j hj=> ?_⟩ (by omega) (a4c rfl ⟨AA _,AA _,AA _,b0a (by subst hS;simp[AI]),trivial⟩ (.nil _) (by omega) (.inr rfl) rfl);by_cases e:j=i
    ·subst e;exact hx
    ·exact hi.2 j (by omega)
  ·have hall: ∀j,j<n->g j=h j:=by
    have:n<=i:=by subst hS;simp[AI] at*;omega
    exact fun j hj=>hi.2 j (by omega)
   cbv;exact h8e hr ⟨rfl,hall⟩
theorem h6o {n:Nat}(hn:n<=1000000):a0j AC AM 156 [int n] (isl n fun i=>(i:Int)):=by
 refine a0k AB okP f2u _ rfl fun E Sg hb hS=> ?_;have ett: ∀z,Sg.toNat z=z.toNat:=by subst hS;exact fun _=>rfl
 generalize hres:isl n (fun i=>(i:Int))=res;cbv;refine a1g hS (by subst hS;simp[AI]) (a1g hS (by subst hS;simp[AI,big];omega) ?_);simp only[AW,ett,AD,AF];refine a7r AB okP hS (σ:=Nat×(Nat->Int)) (fun s=>s.1<=n/\ ∀j,j<s.1->s.2 j=j) (fun s=>n-s.1)
  (fun s=>⟨b5r [(0,int n),(3,.msl 0 1 AS n AM),(7,int n),(8,int s.1)] 17,[arrI n s.2],[]⟩) (0,fun _=>0) ⟨by simp,by simp⟩ ?_ ?_
 ·refine a4c rfl ⟨AA _,AA _,AA _,a6c rfl,trivial⟩ (.cons (a9v.arrr rfl (fun i hi=>by subst hS;simp only[AI] at hi⊢;rw[if_pos hi];exact .one (.int rfl))) (.nil _)) (by simp;omega) (.inr rfl) rfl
 ·rintro⟨i,u⟩ ⟨hi1,hi2⟩ N hN;simp only at hi1 hi2 hN;cbv;split
  ·have hlt:i<n:=by subst hS;simp[AI] at*;omega
   cbv;refine a1g hS (by subst hS;simp[AI];omega) ?_;simp only[AW,ett,AD,AF];refine a1g hS (by subst hS;simp[AI];omega) ?_;refine a1g hS (by subst hS;exact b6g (by simp[AI];omega) (by simp[AI];omega)) ?_;refine hN (i+1,fun j=>if j=i then (i:Int) else u j) _ ⟨by simp;omega,fun j hj=> ?_⟩ (by simp;omega) (a4c rfl ⟨AA _,AA _,AA _,b0a (by subst hS;simp[AI]),trivial⟩ (.cons (a9v.arrI rfl fun j hj=> ?_) (.nil _)) (by simp;omega) (.inr rfl) rfl)
   ·by_cases e:j=i
    ·subst e;simp
    ·simp only[if_neg e];exact hi2 j (by simp at hj;omega)
   ·subst hS;simp only[AI];split<;>rfl
  ·have hin:i=n:=by subst hS;simp[AI] at*;omega
   subst hin;cbv;subst hres;refine a1g hS (by subst hS;simp[AI]) ?_;exact a0x.isl rfl fun j hj=>hi2 j hj
theorem i3d {n:Nat}(hn:n<=1000000)(g:Nat->Int)(res:AV)(hres:res=isl n g):a0j AC AM 153 [isl n g] res:=by
 cases n with
 |zero=>
  refine a0j.empty fun a cap=> ?_;refine a0k AB okP f2l _ rfl fun E Sg hb hS=> ?_;cases a with
  |none=>cbv;subst hres;exact a0x.nil0
  |some a=>
   cbv
   repeat' ((first|(with_reducible apply a1g hS))<;>cbv)
   all_goals try (subst hS;simp[AI,AW,IX.val,big] at* <;>omega)
   subst hres;exact Af (by subst hS;rfl) fun i hi=>by subst hS;simp[AI] at hi
 |succ n=>
  refine a0k AB okP f2l _ rfl fun E Sg hb hS=> ?_;cbv
  repeat' ((first|(with_reducible apply a1g hS))<;>cbv)
  all_goals try (subst hS;simp[AI,AW,IX.val,big] at* <;>omega)
  subst hres;refine Af (by subst hS;simp[AI]) fun i hi=> ?_;subst hS;simp[AI]
theorem i2c {n:Nat}(hn:n<=1000000)(g:Nat->Int):a0j AC AM 153 [isl n g] (isl n g):=i3d hn g _ rfl
def i5n (n:Nat)(g:Nat->Int)(pg:List Nat)(v:AV)(h':List a0f):Prop:=pg=[]/\v= .msl 0 1 AS n AM/\h'=[arrI n g]
theorem i3m {n:Nat}(hn:n<=1000000)(g:Nat->Int):a1h AC 153 [isl n g] [] (i5n n g):=by
 cases n with
 |zero=>
  refine a1h.empty fun a cap=>a1h.ret_nil 1 (fun i=>[.int .i64 (.v (g i))]) ?_;refine h3w AB okP f2l rfl fun E Sg hb hS F hF=> ?_;cases a with
  |none=>cbv;exact⟨[],by simp,hF (.nil _) (AA _) (by simp) (.inr rfl) (.inl ⟨rfl,rfl,rfl,rfl⟩)⟩
  |some a=>
   cbv
   repeat' ((first|(with_reducible apply a1g hS))<;>cbv)
   all_goals try (subst hS;simp[AI,AW,IX.val,big] at* <;>omega)
   refine⟨[],by simp,hF (h1:=[arrI 0 g]) (.cons (a9v.arrI (by subst hS;rfl) fun j hj=>by subst hS;simp[AI] at hj) (.nil _)) (v0:= .msl 0 1 AS 0 AM) (by subst hS;exact AA _) (by simp) (.inr rfl) (.inr ⟨rfl,rfl,rfl⟩)⟩
 |succ n=>
  refine h3w AB okP f2l rfl fun E Sg hb hS F hF=> ?_;cbv
  repeat' ((first|(with_reducible apply a1g hS))<;>cbv)
  all_goals try (subst hS;simp[AI,AW,IX.val,big] at* <;>omega)
  refine⟨[],by simp,hF (h1:=[arrI (n+1) g]) (.cons (a9v.arrI (by subst hS;simp[AI]) fun j hj=>by subst hS;simp[AI]) (.nil _)) (v0:= .msl 0 1 AS (n+1) AM) (by subst hS;simp only[AI,Nat.zero_add];exact AA _) (by simp) (.inr rfl) ⟨rfl,rfl,rfl⟩⟩
def h6h (n:Nat)(u g:Nat->Int):Prop:=
 ∃s t:Nat->Nat,(∀i,i<n->s i<n/\t i<n/\s (t i)=i/\t (s i)=i)/\ ∀i,i<n->u i=g (s i)
theorem h6h.refl (n:Nat)(g:Nat->Int):h6h n g g:=⟨id,id,fun i hi=>⟨hi,hi,rfl,rfl⟩,fun i hi=>rfl⟩
def sw (j k i:Nat):Nat:=if i=j then k else if i=k then j else i
theorem i5s (j k i:Nat):sw j k (sw j k i)=i:=by
 unfold sw
 (repeat' split)<;>omega
theorem i2p {n j k i:Nat}(hj:j<n)(hk:k<n)(hi:i<n):sw j k i<n:=by
 unfold sw
 (repeat' split)<;>omega
theorem h6h.swap {n:Nat}{u g:Nat->Int}(h:h6h n u g){j k:Nat}(hj:j<n)(hk:k<n):h6h n (fun i=>u (sw j k i)) g:=by
 obtain⟨s,t,h1,h2⟩:=h;refine⟨fun i=>s (sw j k i),fun i=>sw j k (t i),fun i hi=> ?_,fun i hi=>h2 _ (i2p hj hk hi)⟩;obtain⟨a1,a2,a3,a4⟩:=h1 i hi;refine⟨(h1 _ (i2p hj hk hi)).1,i2p hj hk a2,?_,?_⟩
 ·simp only[i5s];exact a3
 ·simp only[(h1 _ (i2p hj hk hi)).2.2.2,i5s]
theorem h6n {n:Nat}{u g:Nat->Int}(h:h6h n u g)(hs: ∀p q,p<q->q<n->u p<=u q):(∀i,i<n->u i=i)↔h6y n n g:=by
 obtain⟨s,t,h1,h2⟩:=h;have hg: ∀k,k<n->g k=u (t k):=fun k hk=>by rw[h2 _ (h1 k hk).2.1,(h1 k hk).2.2.1]
 constructor
 ·intro hu;refine⟨rfl,fun i hi=> ?_⟩;have hi':=(h1 i hi).2.1;rw[hg i hi,hu _ hi'];refine⟨by omega,fun k hk e=> ?_⟩;have hk':k<n:=by omega
  rw[hg k hk',hu _ (h1 k hk').2.1] at e;have e2:t k=t i:=by omega
  have:s (t k)=s (t i):=by rw[e2]
  rw[(h1 k hk').2.2.1,(h1 i hi).2.2.1] at this;omega
 ·rintro⟨_,ho⟩;have hne: ∀p q,p<q->q<n->u p≠u q:=fun p q hpq hq e=>by
   rw[h2 p (by omega),h2 q hq] at e;have hsp:=(h1 p (by omega)).1;have hsq:=(h1 q hq).1;have hsne:s p≠s q:=fun e=>by
    have:t (s p)=t (s q):=by rw[e]
    rw[(h1 p (by omega)).2.2.2,(h1 q hq).2.2.2] at this;omega
   rcases Nat.lt_or_ge (s p) (s q) with h3|h3
   ·exact (ho (s q) hsq).2 (s p) h3 e
   ·exact (ho (s p) hsp).2 (s q) (by omega) e.symm
  have hlt: ∀p q,p<q->q<n->u p<u q:=fun p q hpq hq=>by have a:=hs p q hpq hq;have b:=hne p q hpq hq;omega
  have hlo: ∀i,i<n->(i:Int)<=u i:=by
   intro i
   induction i with
   |zero=>intro hi;rw[h2 0 hi];exact (ho _ (h1 0 hi).1).1.1
   |succ i ih=>intro hi;have:=ih (by omega);have:=hlt i (i+1) (by omega) hi;omega
  have hup: ∀d i,i+d+1=n->u i<=i:=by
   intro d
   induction d with
   |zero=>intro i hi;have:=(ho _ (h1 i (by omega)).1).1.2;rw[h2 i (by omega)];omega
   |succ d ih=>intro i hi;have:=ih (i+1) (by omega);have:=hlt i (i+1) (by omega) (by omega);omega
  intro i hi;have a:=hlo i hi;have b:=hup (n-1-i) i (by omega);omega
theorem c9c (a:Int):a0j AC AH 255 [int a] (bool AM):=by refine a1e (a0k AB okP e4n _ rfl fun E Sg hb hS=> ?_);cbv;refine a0s ?_;subst hS;simp[AI]
theorem i4s (a b:Int)(r:Bool)(hr:r=AH↔a<b):a0j AC AH 222 [int a,int b] (bool r):=by
 have h1:=c9c a;refine a1e (a0k AB okP e7q _ rfl fun E Sg hb hS=> ?_);cbv;refine a0v hS (bool AM) (by subst hS;exact h1) ?_;cbv;refine a0s ?_;subst hS;simp[AI];cases r
 ·have: ¬a<b:=fun h=>AE (hr.2 h);simpa using this
 ·simpa using hr.1 rfl
def i4k (n:Nat)(g:Nat->Int)(pg:List Nat)(v:AV)(h':List a0f):Prop:=pg=[]/\ ∃u,h6h n u g/\(∀p q,p<q->q<n->u p<=u q)/\h'=[arrI n u]
theorem h8c {n:Nat}(hn:n<=1000000)(g:Nat->Int):a1h AC 216 [.msl 0 1 AS n AM,int 0,int n] [arrI n g] (i4k n g):=by
 refine h3w AB okP f2m rfl fun E Sg hb hS F hF=> ?_;simp only[AK,AJ] at hb;have ett: ∀z,Sg.toNat z=z.toNat:=by subst hS;exact fun _=>rfl
 cbv;refine a1g hS (by subst hS;simp[AI,AO,AP,AN]) ?_;refine a7r AB okP hS (σ:=Nat×(Nat->Int)) (fun s=>1<=s.1/\(s.1<=n\/n=0/\s.1=1)/\h6h n s.2 g/\ ∀p q,p<q->q<s.1->q<n->s.2 p<=s.2 q) (fun s=>n-s.1)
  (fun s=>⟨b5r [(0,.msl 0 1 AS n AM),(1,int 0),(2,int n),(6,int s.1)] 49,[arrI n s.2],[]⟩) (1,g) ⟨by simp,by simp;omega,h6h.refl n g,fun p q h1 h2=>by simp at h2;omega⟩ ?_ ?_
 ·exact a4c rfl ⟨AA _,AA _,AA _,b0a (by subst hS;rfl),trivial⟩ (.cons (.refl _) (.nil _)) (by simp;omega) (.inr rfl) rfl
 ·rintro⟨i,u⟩ ⟨hi0,hi1,hi2,hi3⟩ N hN;simp only at hi0 hi1 hi2 hi3 hN;cbv;split
  ·have hlt:i<n:=by subst hS;simp[AI] at*;omega
   cbv;refine a7r AB okP hS (σ:=Nat×(Nat->Int)) (fun s=>s.1<=i/\h6h n s.2 g/\(∀p q,p<q->q<=i->p≠s.1->q≠s.1->s.2 p<=s.2 q)/\ ∀q,s.1<q->q<=i->s.2 s.1<=s.2 q) (fun s=>s.1)
    (fun s=>⟨b5r [(0,.msl 0 1 AS n AM),(1,int 0),(2,int n),(6,int i),(7,int s.1)] 49,[arrI n s.2],[]⟩) (i,u) ⟨by simp,hi2,fun p q h1 h2 h3 h4=>hi3 p q h1 (by simp at h4;omega) (by omega),fun q h1 h2=>by simp at h1;omega⟩ ?_ ?_
   ·exact a4c rfl ⟨AA _,AA _,AA _,AA _,AA _,trivial⟩ (.cons (.refl _) (.nil _)) (by simp;omega) (.inr rfl) rfl
   ·rintro⟨j,u⟩ ⟨hj0,hj1,hj2,hj3⟩ N2 hN2;simp only at hj0 hj1 hj2 hj3 hN2;cbv;split
    ·have hj:0<j:=by clear hN hN2 hF;subst hS;simp[AI] at*;try assumption
     obtain⟨j,rfl⟩: ∃k,j=k+1:=⟨j-1,by omega⟩;obtain⟨z,hz⟩: ∃z:Bool,z=AH↔u (j+1)<u j:=⟨decide _,decide_eq_true_iff⟩;have hls:=i4s (u (j+1)) (u j) z hz;have ej:Sg.isub (AX (j+1)) (AX 1)=AX j:=by subst hS;simp[AI]
     have eu: ∀(f:Nat->List DV) (r:List DV),Sg.upd f j.succ r j=f j:=by subst hS;intro f r;simp[AI]
     cbv;simp only[ej];refine a1g hS (by subst hS;simp[AI]<;>omega) ?_;refine a1g hS (by subst hS;exact b6g (by simp[AI]<;>omega) (by simp[AI]<;>omega)) ?_;refine a1g hS (by subst hS;simp[AI]<;>omega) ?_;refine a1g hS (by subst hS;simp[AI]<;>omega) ?_;refine a1g hS (by subst hS;simp[AI]<;>omega) ?_;simp only[AW,ett,AD,AF];refine a0v hS (bool z) (by subst hS;exact hls) ?_;cases z
     ·have hle:u j<=u (j+1):=by have: ¬u (j+1)<u j:=fun h=>AE (hz.2 h);omega
      cbv;refine a1g hS (by subst hS;exact b6g (by simp[AI];omega) (by simp[AI];omega)) ?_;refine hN (i+1,u) _ ⟨by simp,by simp;omega,hj1,fun p q h1 h2 h3=> ?_⟩ (by simp;omega) (a4c rfl ⟨AA _,AA _,AA _,b0a (by subst hS;simp[AI]),trivial⟩ (.cons (.refl _) (.nil _)) (by simp;omega) (.inr rfl) rfl);simp only at h2⊢;by_cases e1:p=j+1
      ·subst e1;exact hj3 q h1 (by omega)
      ·by_cases e2:q=j+1
       ·subst e2;by_cases e3:p=j
        ·subst e3;exact hle
        ·exact Ad (hj2 p j (by omega) (by omega) e1 (by omega)) hle
       ·exact hj2 p q h1 (by omega) e1 e2
     ·have hlt2:=hz.1 rfl;cbv;simp only[ej];refine a1g hS (by subst hS;exact b6g (by simp[AI]<;>omega) (by simp[AI]<;>omega)) ?_;refine a1g hS (by subst hS;exact b6g (by simp[AI]<;>omega) (by simp[AI]<;>omega)) ?_;simp only[AW,ett,AD,AF,eu];cbv;simp only[ej,AW,ett,AD,AF,eu];have ej3:Sg.isub ((j.succ:Nat):Int) ((1:Nat):Int)=(j:Int):=ej;refine a1g hS (by subst hS;simp[AI]<;>omega) ?_;refine a1g hS (by subst hS;simp[AI]<;>omega) ?_;refine a1g hS (by subst hS;simp[AI]<;>omega) ?_;refine a1g hS (by subst hS;simp[AI]<;>omega) ?_;refine a1g hS (by subst hS;simp[AI]<;>omega) ?_;refine a1g hS (by subst hS;simp[AI]<;>omega) ?_;refine a1g hS (by subst hS;simp[AI]<;>omega) ?_;refine a1g hS (by subst hS;simp[AI]<;>omega) ?_;have hin:Sg.inr .i64 (Sg.isub ((j.succ:Nat):Int) ((1:Nat):Int)):=by rw[ej3];subst hS;exact b6g (by omega) (by omega)
      refine a1g hS hin ?_;refine hN2 (j,fun k=>u (sw (j+1) j k)) _ ⟨by simp;omega,hj1.swap (by omega) (by omega),fun p q h1 h2 h3 h4=> ?_,fun q h1 h2=> ?_⟩ (by simp) (a4c rfl ⟨AA _,AA _,AA _,AA _,b0a ej3,trivial⟩ (.cons (a9v.arrI rfl fun k hk=> ?_) (.nil _)) (by simp;omega) (.inr rfl) rfl)
      ·simp only at h1 h2 h3 h4⊢;unfold sw;by_cases e1:p=j+1
       ·rw[if_pos e1,if_neg (by omega),if_neg (by omega)];exact hj2 j q (by omega) h2 (by omega) (by omega)
       ·by_cases e2:q=j+1
        ·rw[if_neg e1,if_neg h3,if_pos e2];exact hj2 p j (by omega) (by omega) e1 (by omega)
        ·rw[if_neg e1,if_neg h3,if_neg e2,if_neg h4];exact hj2 p q h1 h2 e1 e2
      ·simp only at h1 h2⊢;unfold sw;rw[if_neg (show¬j=j+1 by omega),if_pos rfl];by_cases e2:q=j+1
       ·rw[if_pos e2];omega
       ·rw[if_neg e2,if_neg (by omega)];exact hj3 q (by omega) h2
      ·subst hS;simp only[AI,sw];by_cases e1:k=j
       ·subst e1;simp
       ·by_cases e2:k=j+1
        ·subst e2;simp
        ·simp[e1,e2]
    ·have hj:j=0:=by clear hN hN2 hF;subst hS;simp[AI] at*;omega
     subst hj;cbv;refine a1g hS (by subst hS;exact b6g (by simp[AI];omega) (by simp[AI];omega)) ?_;refine hN (i+1,u) _ ⟨by simp,by simp;omega,hj1,fun p q h1 h2 h3=> ?_⟩ (by simp;omega) (a4c rfl ⟨AA _,AA _,AA _,b0a (by subst hS;simp[AI]),trivial⟩ (.cons (.refl _) (.nil _)) (by simp;omega) (.inr rfl) rfl);simp only at h2⊢;by_cases e1:p=0
     ·subst e1;exact hj3 q h1 (by omega)
     ·exact hj2 p q h1 (by omega) e1 (by omega)
  ·have hni:n<=i:=by clear hN hF;subst hS;simp[AI] at*;omega
   cbv;exact⟨[],by simp,hF (h1:=[arrI n u]) (.cons (.refl _) (.nil _)) (AA _) (by simp) (.inr rfl) ⟨rfl,u,hi2,fun p q h1 h2=>hi3 p q h1 (by omega) h2,rfl⟩⟩
theorem a0j.resLike {own:Bool}{f:FuncId}{args:List AV}{r r':AV}(hl:a0x r r')(h:a0j AC own f args r):a0j AC own f args r':=
 ⟨h.1,fun w S vs hS hv=>(h.2 w S vs hS hv).mono fun e w' ⟨v,S',h1,h2,h3⟩=>⟨v,S',h1,hl _ _ _ _ h2,h3⟩⟩
def i2a (v:CA):Bool:=
 match v with
 | .d (.int .i64 _)=>AH
 |_=>AM
theorem h4a {n:Nat}(h:(XSn tab 100).pcall AH 191 [.d (.int .u64 (.v (n:Int)))] i2a=AH): ∃z:Int,a0j AC AH 191 [.d (.int .u64 (.v (n:Int)))] (int z):=by
 obtain⟨r,h1,h2⟩:=c0g AB okP tab_ok 100 h;unfold i2a at h1;split at h1
 ·rename_i x;have h3:a0j AC AH 191 [.d (.int .u64 (.v (n:Int)))] (.d (.int .i64 x)):=by simpa [CA.toL,CA.to,CD.to] using h2
  exact⟨x.val,a0j.resLike (r:= .d (.int .i64 x)) (a0x.int rfl) h3⟩
 ·cases h1
theorem i6w: ∀n:Nat,n<=12-> ∃z:Int,a0j AC AH 191 [.d (.int .u64 (.v (n:Int)))] (int z)
 |0,_=>h4a (by kernel_rfl)
 |1,_=>h4a (by kernel_rfl)
 |2,_=>h4a (by kernel_rfl)
 |3,_=>h4a (by kernel_rfl)
 |4,_=>h4a (by kernel_rfl)
 |5,_=>h4a (by kernel_rfl)
 |6,_=>h4a (by kernel_rfl)
 |7,_=>h4a (by kernel_rfl)
 |8,_=>h4a (by kernel_rfl)
 |9,_=>h4a (by kernel_rfl)
 |10,_=>h4a (by kernel_rfl)
 |11,_=>h4a (by kernel_rfl)
 |12,_=>h4a (by kernel_rfl)
 |n+13,h=>by omega
theorem i6h {n:Nat}(hn:n<=12)(g:Nat->Int)(z:Int):a1h AC 190 [.msl 0 1 AS n AM,int 0,int n,int z] [arrI n g] (i4k n g):=by
 have hin:=h8c (n:=n) (by omega) g;refine h3w AB okP e9i rfl fun E Sg hb hS F hF=> ?_;simp only[AK,AJ] at hb;cbv;refine i5z AB okP hS 1 ?_;cbv;refine a1g hS (by subst hS;exact b6g (by simp[AI]<;>omega) (by simp[AI]<;>omega)) ?_;split
 ·cbv;refine h3v hS (AR hin [0] rfl rfl ⟨AQ _,trivial⟩) ?_;rintro pg v H' ⟨pg0,v0,h0,⟨rfl,u,h1,h2,rfl⟩,rfl,rfl,rfl⟩;cbv;exact⟨[],by simp,hF (h1:=[arrI n u]) (.cons (.refl _) (.nil _)) (AA _) (by simp) (.inr rfl) ⟨rfl,u,h1,h2,rfl⟩⟩
 ·rename_i h;exfalso;subst hS;simp[AI] at h;omega
theorem i4e {n:Nat}(hn:n<=12)(g:Nat->Int):a1h AC 154 [.msl 0 1 AS n AM] [arrI n g] (i4k n g):=by
 obtain⟨z,hz⟩:=i6w n hn;have hin:=i6h hn g z;refine h3w AB okP f0u rfl fun E Sg hb hS F hF=> ?_;simp only[AK,AJ] at hb;have ew:Sg.iwrap .u64 (Sg.ofNat n)=(n:Int):=by subst hS;simp[AI,AO,AP,AN];omega
 cbv;simp only[ew];refine a0v hS (int z) hz ?_;cbv;refine h3v hS (AR (args':=[.msl 0 1 AS n AM,int 0,.d (.int .i64 (.v (Sg.ofNat n))),int z]) (hin.like (.cons (AA _) (.cons (AA _) (.cons (b0a (by subst hS;rfl)) (.cons (AA _) .nil))))) [0] rfl rfl ⟨AQ _,trivial⟩) ?_;rintro pg v H' ⟨pg0,v0,h0,⟨rfl,u,h1,h2,rfl⟩,rfl,rfl,rfl⟩;cbv;exact⟨[],by simp,hF (h1:=[arrI n u]) (.cons (.refl _) (.nil _)) (AA _) (by simp) (.inr rfl) ⟨rfl,u,h1,h2,rfl⟩⟩
theorem i1j {g:Nat->Int}: ∀{n:Nat},(∀i,i<n->1<=g i/\g i<=12)->prod g n<=((12^n:Nat):Int)
 |0,_=>by simp[prod]
 |n+1,h=>by have h1:=i1j (g:=g) (n:=n) fun i hi=>h i (by omega);have h2:=h n (by omega);have h3:=h4r (g:=g) (n:=n) fun i hi=>(h i (by omega)).1;have:prod g n*g n<=((12^n:Nat):Int)*12:=Int.mul_le_mul h1 h2.2 (by omega) (by omega);rw[prod,Nat.pow_succ];simpa using this
theorem i8s: ∀n:Nat,n<=6->12^n<=2985984
 |0,_=>by decide
 |1,_=>by decide
 |2,_=>by decide
 |3,_=>by decide
 |4,_=>by decide
 |5,_=>by decide
 |6,_=>by decide
 |n+7,h=>by omega
theorem h5l {n m:Nat}(hn:n<=1000000)(hm:m<=12)(g h:Nat->Int)(r:Int)(hr:h4e n m g h=r):a0j AC AH 119 [isl n g,isl m h] (int r):=by
 obtain⟨z,hz⟩: ∃z:Bool,z=AH↔ ∀i,i<n->1<=g i/\g i<=12:=by classical exact⟨decide _,decide_eq_true_iff⟩
 have hw:=h7d 1 12 hn g z hz;have hcl:=i3m (n:=m) (by omega) h;unfold h4e at hr;refine a4e (a0k AB okP e8b _ rfl fun E Sg hb hS=> ?_);have ett: ∀z,Sg.toNat z=z.toNat:=by subst hS;exact fun _=>rfl
 cbv;split
 ·have h6:6<n:=by subst hS;simp[AI] at*;omega
  cbv;exact a6c (by rw[<-hr,if_pos h6];rfl)
 have h6: ¬6<n:=by subst hS;simp[AI] at*;omega
 rw[if_neg h6] at hr;cbv;refine a0v hS (bool z) (by subst hS;exact hw) ?_;cases z
 ·have hnz: ¬ ∀i,i<n->1<=g i/\g i<=12:=fun h=>AE (hz.2 h);cbv;exact a6c (by rw[<-hr,if_pos hnz];rfl)
 have hz:=hz.1 rfl;rw[if_neg (fun h=>h hz)] at hr;cbv;refine a7r AB okP hS (σ:=Nat×Int) (fun s=>s.1<=n/\s.2=prod g s.1) (fun s=>n-s.1)
  (fun s=>⟨b5r [(0,isl n g),(1,isl m h),(5,int s.2),(17,isl n g),(18,int n),(19,int s.1)] 39,[],[]⟩) (0,1) ⟨by simp,rfl⟩ ?_ ?_
 ·exact a4c rfl ⟨AA _,AA _,a6c rfl,AA _,b0a (by subst hS;rfl),a6c rfl,trivial⟩ (.nil _) (by omega) (.inr rfl) rfl
 ·rintro⟨i,p⟩ ⟨hi1,hi2⟩ N hN;simp only at hi1 hi2 hN;cbv;split
  ·have hlt:i<n:=by subst hS;simp[AI] at*;omega
   have hb1:1<=prod g (i+1):=h4r fun j hj=>(hz j (by omega)).1;have hb2:prod g (i+1)<=2985984:=Ad (i1j fun j hj=>hz j (by omega)) (by have:=i8s (i+1) (by omega);omega);have hpp:prod g (i+1)=p*g i:=by rw[hi2];rfl
   rw[hpp] at hb1 hb2;cbv;refine a1g hS (by subst hS;simp[AI];omega) ?_;simp only[AW,ett,AD,AF];refine a1g hS (by subst hS;exact b6g (by simp[AI];omega) (by simp[AI];omega)) ?_;refine a1g hS (by subst hS;exact b6g (by simp[AI];omega) (by simp[AI];omega)) ?_;exact hN (i+1,p*g i) _ ⟨by simp;omega,hpp.symm⟩ (by simp;omega) (a4c rfl ⟨AA _,AA _,b0a (by subst hS;simp[AI]),AA _,AA _,b0a (by subst hS;simp[AI]),trivial⟩ (.nil _) (by omega) (.inr rfl) rfl)
  ·have hin:i=n:=by subst hS;simp[AI] at*;omega
   subst hin;cbv;split
   ·have:2000<prod g i:=by rw[<-hi2];subst hS;simp[AI] at*;omega
    cbv;exact a6c (by rw[<-hr,if_pos this];rfl)
   have hpr: ¬2000<prod g i:=by rw[<-hi2];subst hS;simp[AI] at*;omega
   rw[if_neg hpr] at hr;cbv;refine h3v hS (AR hcl [] rfl rfl trivial) ?_;rintro pg v H' ⟨pg0,v0,h0,⟨rfl,rfl,rfl⟩,rfl,rfl,rfl⟩;cbv;refine h3v hS (AR (i4e hm h) [0] rfl rfl ⟨AQ _,trivial⟩) ?_;rintro pg v H' ⟨pg0,v0,h0,⟨rfl,u,h1,h2,rfl⟩,rfl,rfl,rfl⟩;obtain⟨z,hz2⟩: ∃z:Bool,z=AH↔L m u=L i (fun k=>(k:Int)):=by classical exact⟨decide _,decide_eq_true_iff⟩
   have heq:=h4z (n:=m) (m:=i) (by omega) u (fun k=>(k:Int)) z hz2;have hio:L m u=L i (fun k=>(k:Int))↔h6y i m h:=by
    constructor
    ·intro e;have el:m=i:=by simpa [h3u] using congrArg Aa e
     subst el;refine (h6n h1 h2).1 fun j hj=> ?_;have:=congrArg (fun l=>l[j]?) e;simpa [L,hj] using this
    ·intro e;have el:m=i:=e.1;subst el;exact h4v ((h6n h1 h2).2 e)
   rw[hio] at hz2;cbv;refine a0v hS (isl i fun k=>(k:Int)) (by subst hS;exact h6o (by omega)) ?_;cbv;refine a1g hS (by subst hS;simp[AI]) ?_;refine a0v hS (bool z) (by subst hS;exact heq) ?_;cases z
   ·cbv;exact a6c (by rw[<-hr,if_neg (fun h=>AE (hz2.2 h))];rfl)
   ·cbv;exact a6c (by rw[<-hr,if_pos (hz2.1 rfl)];rfl)
theorem i0y (v:VaR)(h0:0<=v.fault)(r:Bool)(hr:r=AH↔a1i v):a0j AC AH 229 [v.av] (bool r):=by
 obtain⟨f,n⟩:=v;simp only at h0;simp only[a1i] at hr;refine a1e (a0k AB okP f0l _ rfl fun E Sg hb hS=> ?_);have hin:=h6p (-9999) 9999 n (decide (-9999<=n/\n<=9999)) decide_eq_true_iff;generalize hz:decide (-9999<=n/\n<=9999)=z at hin;cbv;split
 ·have h1:f≠0:=by subst hS;simp[AI] at*;omega
  rw[if_neg h1] at hr;cbv;split<;>cbv
  all_goals subst hS;simp[AI] at*;exact a0s (by cases r<;>simp at* <;>omega)
 ·have h1:f=0:=by subst hS;simp[AI] at*;omega
  rw[if_pos h1] at hr;cbv;refine a0v hS (bool z) (by subst hS;exact hin) ?_;cbv;exact a0s (by cases r<;>cases z<;>simp at* <;>omega)
theorem i6z (v:VaR)(h0:0<=v.fault)(r:Bool)(hr:r=AH↔ ¬a1i v):a1h AC 262 [v.av,.ptr 0 0] [.var [.fn 229 [] []]] (ro [.var [.fn 229 [] []]] (bool r)):=by
 obtain⟨z,hz⟩: ∃z:Bool,z=AH↔a1i v:=by classical exact⟨decide _,decide_eq_true_iff⟩
 have h1:=i0y v h0 z hz;have hzr:r=!z:=by
  cases z
  ·exact hr.2 fun h=>AE (hz.2 h)
  ·cases r
   ·rfl
   ·exact absurd (hz.1 rfl) (hr.1 rfl)
 obtain⟨f,n⟩:=v;refine a2y AB okP f2c _ rfl fun E Sg hb hS=> ?_;simp only[AK,AJ] at hb;cbv;refine a3v hS (Ae (h:=[.var [.fn 229 [] []],.var [u8 f,int n]]) rfl h1) ?_;subst hzr;cases z<;>cbv<;>exact a2s (a0s rfl) (.cons (.refl _) (.nil _)) (.inl ⟨rfl,rfl⟩)
theorem i1a {n:Nat}(hn:n<=1000000)(f:Nat->VaR)(H:List a0f)(gid:FuncId)(a:Nat)(p:Nat->Bool)
 (hp: ∀i,i<n->a1h AC gid [(f i).av,.ptr a 0] H (ro H (bool (p i)))) (r:Int) (hr:a6z n p r):
 a1h AC 251 [vsl n f,.fn gid [] [.ptr a 0]] H (ro H (int r)):=by
 obtain⟨ef,en',hen⟩: ∃ef en',f=fun i=>VaR.mk (ef i) (en' i):=⟨fun i=>(f i).fault,fun i=>(f i).n,rfl⟩;subst hen;refine a2y AB okP e0s _ rfl fun E Sg hb hS=> ?_;have ett: ∀z,Sg.toNat z=z.toNat:=by subst hS;exact fun _=>rfl
 cbv;refine a7r AB okP hS (fun i=>i<=n/\ ∀j,j<i->p j=AM) (fun i=>n-i)
  (fun i=>⟨b5r [(0,vsl n (fun i=>⟨ef i,en' i⟩)),(1,.fn gid [] [.ptr a 0]),(7,int n),(8,int i)] 19,H,[]⟩) 0 ⟨by omega,by omega⟩ ?_ ?_
 ·exact a4c rfl ⟨AA _,AA _,b0a (by subst hS;rfl),a6c rfl,trivial⟩ (.same _) (by omega) (.inr rfl) rfl
 ·intro i hi N hN;have hin:=hp i;clear hp;cbv;split
  ·cbv;have hlt:i<n:=by clear hin hN hr;subst hS;simp[AI] at*;omega
   have hin:=hin hlt;generalize hz:p i=z at hin;refine a1g hS (by clear hin hN hr;subst hS;simp[AI];omega) ?_;simp only[AW,ett,AD,AF];refine a3v hS (r:=bool z) (by subst hS;exact hin) ?_;cases z
   ·cbv;refine a1g hS (by clear hin hN hr;subst hS;exact b6g (by simp[AI];omega) (by simp[AI];omega)) ?_;refine hN (i+1) _ ⟨by omega,fun j hj=> ?_⟩ (by omega) (a4c rfl ⟨AA _,AA _,AA _,b0a ?_,trivial⟩ (.same _) (by omega) (.inr rfl) rfl)
    ·by_cases e:j=i
     ·subst e;exact hz
     ·exact hi.2 j (by omega)
    ·clear hin hN hr;subst hS;simp[AI]
   ·cbv;exact a2s (b0a (hr.2 i hlt hz hi.2).symm) (.same _) (.inr rfl)
  ·have hni:n<=i:=by clear hin hN hr;subst hS;simp[AI] at*;omega
   cbv;exact a2s (a6c (hr.1 fun j hj=>hi.2 j (by omega)).symm) (.same _) (.inr rfl)
theorem h7y {n:Nat}(hn:n<=1000000)(f:Nat->VaR)(H:List a0f)(gid:FuncId)(a:Nat)(p:Nat->Bool)
 (hp: ∀i,i<n->a1h AC gid [(f i).av,.ptr a 0] H (ro H (bool (p i)))) (r:Bool) (hr:r=AH↔ ∃i,i<n/\p i=AH):
 a1h AC 208 [vsl n f,.fn gid [] [.ptr a 0]] H (ro H (bool r)):=by
 obtain⟨z,hz,hz1,hz2⟩: ∃z,a6z n p z/\(0<=z-> ∃i,i<n/\p i=AH)/\((∃i,i<n/\p i=AH)->0<=z):=a9i n p;have hin:=i1a hn f H gid a p hp z hz;have hzr:0<=z↔r=AH:=⟨fun h=>hr.2 (hz1 h),fun h=>hz2 (hr.1 h)⟩;clear hp hz hz1 hz2 hr;refine a2y AB okP e4y _ rfl fun E Sg hb hS=> ?_;cbv;refine a3v hS hin ?_;cbv;refine a2s (a0s ?_) (.same _) (.inr rfl);clear hin;subst hS;simp[AI];cases r
 ·simp at hzr⊢;omega
 ·simpa using hzr
theorem d2b {n:Nat}{P:Nat->Prop}{p:Nat->Bool}(hp: ∀i,p i=AH↔ ¬P i){r:Bool}(hr:r=AH↔ ∀i,i<n->P i):(!r)=AH↔ ∃i,i<n/\p i=AH:=by
 cases r
 ·have hr: ¬ ∀i,i<n->P i:=fun h=>AE (hr.2 h);simp only[AY,true_iff];exact AG fun h=>hr fun i hi=>AG fun h'=>h ⟨i,hi,(hp i).2 h'⟩
 ·have hr:=hr.1 rfl;simp only[AZ,AU,false_iff];rintro⟨i,hi,h⟩;exact (hp i).1 h (hr i hi)
theorem i2y {n:Nat}(hn:n<=1000000)(f:Nat->VaR)(h0: ∀i,i<n->0<=(f i).fault)(r:Bool)(hr:r=AH↔ ∀i,i<n->a1i (f i)):a0j AC AH 228 [vsl n f,.fn 229 [] []] (bool r):=by
 obtain⟨p,hp⟩: ∃p:Nat->Bool,∀i,p i=AH↔ ¬a1i (f i):=by classical exact⟨fun i=>decide (¬a1i (f i)),fun i=>decide_eq_true_iff⟩
 have hin:=h7y hn f [.var [.fn 229 [] []]] 262 0 p (fun i hi=>i6z (f i) (h0 i hi) (p i) (hp i)) (!r) (d2b hp hr);clear hr hp;refine a1e (a0k AB okP e9s _ rfl fun E Sg hb hS=> ?_);cbv;refine a3v hS hin ?_;cases r<;>cbv
 ·exact a0s rfl
 ·exact a0s rfl
theorem i4z {n:Nat}(hn:n<=1000000)(g:Nat->Int)(v:Int)(r:Int)(hr:a6z n (fun i=>decide (v=g i)) r):a0j AC AH 271 [isl n g,int v] (int r):=by
 refine a4e (a0k AB okP f0w _ rfl fun E Sg hb hS=> ?_);have ett: ∀z,Sg.toNat z=z.toNat:=by subst hS;exact fun _=>rfl
 cbv;refine a7r AB okP hS (fun i=>i<=n/\ ∀j,j<i->v≠g j) (fun i=>n-i)
  (fun i=>⟨b5r [(0,isl n g),(1,int v),(7,int n),(8,int i)] 19,[],[]⟩) 0 ⟨by omega,by omega⟩ ?_ ?_
 ·exact a4c rfl ⟨AA _,AA _,b0a (by subst hS;rfl),a6c rfl,trivial⟩ (.nil _) (by omega) (.inr rfl) rfl
 ·intro i hi N hN;cbv;split
  ·have hlt:i<n:=by clear hr;subst hS;simp[AI] at*;omega
   cbv;refine a1g hS (by subst hS;simp[AI];omega) ?_;simp only[AW,ett,AD,AF];split
   ·have hx:v=g i:=by clear hr;subst hS;simp[AI] at*;assumption
    cbv;exact b0a (hr.2 i hlt (decide_eq_true hx) fun j hj=>decide_eq_false (hi.2 j hj)).symm
   ·have hx:v≠g i:=by clear hr;subst hS;simp[AI] at*;assumption
    cbv;refine a1g hS (by subst hS;exact b6g (by simp[AI];omega) (by simp[AI];omega)) ?_;refine hN (i+1) _ ⟨by omega,fun j hj=> ?_⟩ (by omega) (a4c rfl ⟨AA _,AA _,AA _,b0a (by subst hS;simp[AI]),trivial⟩ (.nil _) (by omega) (.inr rfl) rfl);by_cases e:j=i
    ·subst e;exact hx
    ·exact hi.2 j (by omega)
  ·have hni:n<=i:=by clear hr;subst hS;simp[AI] at*;omega
   cbv;exact a6c (hr.1 fun j hj=>decide_eq_false (hi.2 j (by omega))).symm
def prk (od:Nat->Int)(no:Nat)(v:Int):Int:=if pos od v no 0<no then (pos od v no 0:Int) else-1
theorem i0i (od:Nat->Int)(no:Nat)(v:Int):a6z no (fun i=>decide (v=od i)) (prk od no v):=by
 constructor
 ·intro h;have:pos od v no 0=0+no:=h6w fun l _ hl=>by have:=of_decide_eq_false (h l (by omega));exact fun e=>this e.symm
  rw[prk,if_neg (by omega)]
 ·intro i hi hp hj;have:pos od v no 0=i:=h5n (by omega) (by omega) (of_decide_eq_true hp).symm fun l _ hl=>by have:=of_decide_eq_false (hj l hl);exact fun e=>this e.symm
  rw[prk,this,if_pos hi]
theorem i1b {ns no:Nat}(hno:no<=1000000)(sz od:Nat->Int)(v:Int):a0j AC AH 265 [.agg [isl ns sz,isl no od],int v] (int (prk od no v)):=by have h1:=i4z hno od v _ (i0i od no v);generalize prk od no v=r at h1;refine a4e (a0k AB okP f0v _ rfl fun E Sg hb hS=> ?_);cbv;refine a0v hS (int r) (by subst hS;exact h1) ?_;cbv;exact AA _
theorem h9k (k:Int)(hk: -1000001<=k)(hk2:k<=1000000):a0j AC AH 200 [int k] (int (-1-k)):=by refine a4e (a0k AB okP e7m _ rfl fun E Sg hb hS=> ?_);generalize hr: -1-k=r;cbv;refine a1g hS (by subst hS;exact b6g (by simp[AI];omega) (by simp[AI];omega)) ?_;refine b0a ?_;subst hS;simp[AI];omega
theorem i4i (k:Int)(hk:c5t k)(h0:k<0):a0j AC AH 200 [int k] (int (-1-k)):=by simp only[c5t] at hk;refine a4e (a0k AB okP e7m _ rfl fun E Sg hb hS=> ?_);generalize hr: -1-k=r;cbv;refine a1g hS (by subst hS;exact b6g (by simp[AI];omega) (by simp[AI];omega)) ?_;refine b0a ?_;subst hS;simp[AI];omega
def DiR.lav (d:DiR):AV:= .agg [isl d.ns d.sz,isl d.no d.od,isl d.ns d.sz,isl d.no d.od,vsl d.ne d.en,bsl d.nn d.var d.nk d.kid,int d.root]
def h8y (d:DiR)(k below rank:Int):Prop:=if k<0 then-1-k<d.ne else k<below/\rank<prk d.od d.no (d.var k.toNat)
theorem h9f (d:DiR)(hd:d.no<=1000000)(k below rank:Int)(hw:c5t k)(hb:0<=k->k<below->k<d.nn)(r:Bool)(hr:r=AH↔h8y d k below rank):a0j AC AH 232 [d.lav,int k,int below,int rank] (bool r):=by
 have hrk:=fun v=>i1b (ns:=d.ns) hd d.sz d.od v;have he:=fun h0=>i4i k hw h0;simp only[h8y] at hr;obtain⟨q,hq⟩: ∃q:Int->Int,∀v,prk d.od d.no v=q v:=⟨_,fun _=>rfl⟩;simp only[hq] at hrk hr;clear hq;obtain⟨ns,sz,no,od,ne,en,nn,var,nk,kid,root⟩:=d;simp only at hrk hr hb;refine a1e (a0k AB okP f1y _ rfl fun E Sg hb' hS=> ?_);have ett: ∀z,Sg.toNat z=z.toNat:=by subst hS;exact fun _=>rfl
 cbv;split
 ·have h0:k<0:=by clear hrk hr he;subst hS;simp[AI] at*;assumption
  rw[if_pos h0] at hr;obtain⟨e,hee⟩: ∃e,-1-k=e:=⟨_,rfl⟩;have he:=he h0;rw[hee] at he hr;cbv;refine a0v hS (int e) (by subst hS;exact he) ?_;cbv;refine a1g hS (by clear hrk he hr;subst hS;simp[AI]) ?_;refine a0s ?_;clear hrk he;subst hS;simp only[AI];cases r
  ·exact decide_eq_false fun h=>AE (hr.2 h)
  ·exact decide_eq_true (hr.1 rfl)
 ·have h0: ¬k<0:=by clear hrk hr he;subst hS;simp[AI] at*;omega
  rw[if_neg h0] at hr;cbv;split
  ·have hlt:k<below:=by clear hrk hr he;subst hS;simp[AI] at*;assumption
   have hkn:=hb (by omega) hlt;cbv;refine a1g hS (by subst hS;exact⟨by omega,hkn⟩) ?_;simp only[AW,ett,AD,AF];refine a0v hS (int (q (var k.toNat))) (by subst hS;exact hrk _) ?_;cbv;refine a0s ?_;clear hrk he;subst hS;simp only[AI];cases r
   ·exact decide_eq_false fun h=>AE (hr.2 ⟨hlt,h⟩)
   ·exact decide_eq_true (hr.1 rfl).2
  ·have hlt: ¬k<below:=by clear hrk hr he;subst hS;simp[AI] at*;omega
   cbv;exact e8z hr fun h=>hlt h.1
def pBr (d:DiR)(i:Nat):Prop:=((0<=d.var i/\d.var i<=(d.ns:Int)-1)/\(d.nk i:Int)=d.sz (d.var i).toNat)/\ ∀j,j<d.nk i->h8y d (d.kid i j) i (prk d.od d.no (d.var i))
theorem i5m (d:DiR)(hd:d.no<=1000000)(i:Nat)(hi:i<d.nn)(k:Int)(hw:c5t k)(r:Bool)(hr:r=AH↔h8y d k i (prk d.od d.no (d.var i))):
 a1h AC 264 [int k,.ptr 0 0,.ptr 1 0,.ptr 2 0] [.var [isl d.ns d.sz,isl d.no d.od,isl d.ns d.sz,isl d.no d.od,vsl d.ne d.en,bsl d.nn d.var d.nk d.kid,int d.root],.var [int i],.var [int (d.var i),isl (d.nk i) (d.kid i)]]
  (ro [.var [isl d.ns d.sz,isl d.no d.od,isl d.ns d.sz,isl d.no d.od,vsl d.ne d.en,bsl d.nn d.var d.nk d.kid,int d.root],.var [int i],.var [int (d.var i),isl (d.nk i) (d.kid i)]] (bool r)):=by
 have h1:=i1b (ns:=d.ns) hd d.sz d.od (d.var i);have h2:=h9f d hd k i (prk d.od d.no (d.var i)) hw (fun _ h=>Int.lt_trans h (Ac.2 hi)) r hr;generalize prk d.od d.no (d.var i)=q at h1 h2;clear hr;obtain⟨ns,sz,no,od,ne,en,nn,var,nk,kid,root⟩:=d;refine a2y AB okP f1g _ rfl fun E Sg hb hS=> ?_;cbv;refine a0v hS (int q) (by subst hS;exact h1) ?_;cbv
 repeat' (with_reducible apply a1g hS)
 all_goals try (clear h1 h2;subst hS;simp[AI];done)
 refine a0v hS (bool r) (by subst hS;exact h2) ?_;cbv;exact a2s (AA _) (.same _) (.inr rfl)
theorem i6f (d:DiR)(hd:d.no<=1000000)(i:Nat)(hi:i<d.nn)(k:Int)(hw:c5t k)(z:Bool)(hz:z=AH↔ ¬h8y d k i (prk d.od d.no (d.var i))):
 a1h AC 263 [int k,.ptr 3 0] [.var [isl d.ns d.sz,isl d.no d.od,isl d.ns d.sz,isl d.no d.od,vsl d.ne d.en,bsl d.nn d.var d.nk d.kid,int d.root],.var [int i],.var [int (d.var i),isl (d.nk i) (d.kid i)],.var [.fn 264 [] [.ptr 0 0,.ptr 1 0,.ptr 2 0]]]
  (ro [.var [isl d.ns d.sz,isl d.no d.od,isl d.ns d.sz,isl d.no d.od,vsl d.ne d.en,bsl d.nn d.var d.nk d.kid,int d.root],.var [int i],.var [int (d.var i),isl (d.nk i) (d.kid i)],.var [.fn 264 [] [.ptr 0 0,.ptr 1 0,.ptr 2 0]]] (bool z)):=by
 have h1:=i5m d hd i hi k hw (!z) (by
  cases z
  ·exact⟨fun _=>AG fun h=>AE (hz.2 h),fun _=>rfl⟩
  ·exact⟨fun h=>AE h,fun h=>absurd h (hz.1 rfl)⟩)
 clear hz;obtain⟨ns,sz,no,od,ne,en,nn,var,nk,kid,root⟩:=d;refine a2y AB okP e9f _ rfl fun E Sg hb hS=> ?_;cbv;refine h3v hS (AR h1 [0,1,2] rfl rfl ⟨AQ _,AQ _,AQ _,trivial⟩) ?_;rintro pg v H' ⟨pg0,v0,h0,⟨rfl,rfl,rfl⟩,rfl,rfl,rfl⟩;cases z<;>cbv<;>exact a2s (a0s rfl) (.same _) (.inr rfl)
theorem i5c (d:DiR)(hd:d.no<=1000000)(i:Nat)(hi:i<d.nn)(hn:d.nk i<=1000000)(hw: ∀j,j<d.nk i->c5t (d.kid i j))(r:Bool)(hr:r=AH↔ ∀j,j<d.nk i->h8y d (d.kid i j) i (prk d.od d.no (d.var i))):
 a1h AC 230 [isl (d.nk i) (d.kid i),.fn 264 [] [.ptr 0 0,.ptr 1 0,.ptr 2 0]] [.var [isl d.ns d.sz,isl d.no d.od,isl d.ns d.sz,isl d.no d.od,vsl d.ne d.en,bsl d.nn d.var d.nk d.kid,int d.root],.var [int i],.var [int (d.var i),isl (d.nk i) (d.kid i)]]
  (ro [.var [isl d.ns d.sz,isl d.no d.od,isl d.ns d.sz,isl d.no d.od,vsl d.ne d.en,bsl d.nn d.var d.nk d.kid,int d.root],.var [int i],.var [int (d.var i),isl (d.nk i) (d.kid i)]] (bool r)):=by
 obtain⟨p,hp⟩: ∃p:Nat->Bool,∀j,p j=AH↔ ¬h8y d (d.kid i j) i (prk d.od d.no (d.var i)):=by classical exact⟨fun j=>decide (¬h8y d (d.kid i j) i (prk d.od d.no (d.var i))),fun j=>decide_eq_true_iff⟩
 have hin:=h5w hn (d.kid i) _ 263 3 p (fun j hj=>i6f d hd i hi (d.kid i j) (hw j hj) (p j) (hp j)) (!r) (d2b hp hr);clear hr hp hw;obtain⟨ns,sz,no,od,ne,en,nn,var,nk,kid,root⟩:=d;refine a2y AB okP e8u _ rfl fun E Sg hb hS=> ?_;simp only[AK,AJ] at hb;cbv;refine a3v hS hin ?_;cases r<;>cbv<;>exact a2s (a0s rfl) (.cons (.refl _) (.cons (.refl _) (.cons (.refl _) (.nil _)))) (.inl ⟨rfl,rfl⟩)
theorem h8t (d:DiR)(hf:d.fit)(i:Nat)(hi:i<d.nn)(r:Bool)(hr:r=AH↔pBr d i):a0j AC AH 231 [d.lav,int i] (bool r):=by
 obtain⟨z,hz⟩: ∃z:Bool,z=AH↔0<=d.var i/\d.var i<=(d.ns:Int)-1:=by classical exact⟨decide _,decide_eq_true_iff⟩
 obtain⟨z2,hz2⟩: ∃z:Bool,z=AH↔ ∀j,j<d.nk i->h8y d (d.kid i j) i (prk d.od d.no (d.var i)):=by classical exact⟨decide _,decide_eq_true_iff⟩
 have h1:=h6p 0 ((d.ns:Int)-1) (d.var i) z hz;have h2:=i5c d hf.no i hi (hf.nk i hi) (hf.kid i hi) z2 hz2;have hns:=hf.ns;have hni:=hf.nk i hi;simp only[pBr,<-hz2] at hr;clear hz2 hf;obtain⟨ns,sz,no,od,ne,en,nn,var,nk,kid,root⟩:=d;simp only at h1 h2 hns hni hr hz hi;refine a1e (a0k AB okP f1q _ rfl fun E Sg hb hS=> ?_);have ett: ∀z,Sg.toNat z=z.toNat:=by subst hS;exact fun _=>rfl
 cbv;refine a1g hS (by clear h1 h2;subst hS;exact⟨Int.natCast_nonneg i,Ac.2 hi⟩) ?_;simp only[AW,ett,AD,AF];refine a1g hS (by clear h1 h2;subst hS;exact b6g (by simp[AI];omega) (by simp[AI];omega)) ?_;refine a1g hS (by clear h1 h2;subst hS;simp[AI]) ?_;refine a0v hS (bool z) (by subst hS;exact h1) ?_;cases z
 ·cbv
  repeat' (with_reducible apply a1g hS)
  all_goals try (clear h1 h2;subst hS;simp[AI];done)
  exact e8z hr fun h=>AE (hz.2 h.1.1)
 ·have hv:=hz.1 rfl;cbv
  repeat' (with_reducible apply a1g hS)
  all_goals try (clear h1 h2;subst hS;first|exact i3t hv|(simp[AI];done))
  simp only[AW,ett,AD,AF];split
  ·have hne:(nk i:Int)≠sz (var i).toNat:=by clear h1 h2;subst hS;simp[AI] at*;assumption
   cbv;exact e8z hr fun h=>hne h.1.2
  ·have heq:(nk i:Int)=sz (var i).toNat:=by clear h1 h2;subst hS;simp[AI] at*;assumption
   cbv;refine a3v hS h2 ?_;cbv;refine a0s ?_;cases r
   ·cases z2
    ·rfl
    ·exact absurd (hr.2 ⟨⟨hv,heq⟩,rfl⟩) (by simp)
   ·exact (hr.1 rfl).2
theorem i6k (d:DiR)(hf:d.fit)(i:Nat)(hi:i<d.nn)(z:Bool)(hz:z=AH↔ ¬pBr d i):
 a1h AC 263 [int i,.ptr 0 0] [.var [.fn 231 [d.lav] []]] (ro [.var [.fn 231 [d.lav] []]] (bool z)):=by
 have h1:=h8t d hf i hi (!z) (by
  cases z
  ·exact⟨fun _=>AG fun h=>AE (hz.2 h),fun _=>rfl⟩
  ·exact⟨fun h=>AE h,fun h=>absurd h (hz.1 rfl)⟩)
 clear hz hf;obtain⟨ns,sz,no,od,ne,en,nn,var,nk,kid,root⟩:=d;refine a2y AB okP e9f _ rfl fun E Sg hb hS=> ?_;cbv;refine a3v hS (Ae (h:=[.var [.fn 231 [DiR.lav ⟨ns,sz,no,od,ne,en,nn,var,nk,kid,root⟩] []]]) rfl h1) ?_;cases z<;>cbv<;>exact a2s (a0s rfl) (.same _) (.inr rfl)
theorem i5g (d:DiR)(hf:d.fit)(r:Bool)(hr:r=AH↔ ∀i,i<d.nn->pBr d i):
 a1h AC 230 [isl d.nn fun i=>(i:Int),.fn 231 [d.lav] []] [] (ro [] (bool r)):=by
 obtain⟨p,hp⟩: ∃p:Nat->Bool,∀j,p j=AH↔ ¬pBr d j:=by classical exact⟨fun j=>decide (¬pBr d j),fun j=>decide_eq_true_iff⟩
 have hin:=h5w hf.nn (fun i=>(i:Int)) _ 263 0 p (fun j hj=>i6k d hf j hj (p j) (hp j)) (!r) (d2b hp hr);clear hr hp hf;obtain⟨ns,sz,no,od,ne,en,nn,var,nk,kid,root⟩:=d;refine a2y AB okP e8u _ rfl fun E Sg hb hS=> ?_;simp only[AK,AJ] at hb;cbv;refine a3v hS hin ?_;cases r<;>cbv<;>exact a2s (a0s rfl) (.nil _) (.inl ⟨rfl,rfl⟩)
def i3y (d:DiR):Prop:=(∀i,i<d.ne->a1i (d.en i))/\(∀i,i<d.nn->pBr d i)/\h8y d d.root d.nn (-1)
theorem h6s {ns no:Nat}{od:Nat->Int}(h:h6y ns no od){v:Int}(hv:0<=v/\v<=(ns:Int)-1): ∃p,p<no/\pos od v no 0=p/\prk od no v=p:=by
 have hex: ∃p,p<no/\od p=v:=by
  apply AG;intro hc;have hn:no=ns:=h.1;have hlen:=h4u (no-1) (L no fun i=>if od i<v then od i else od i-1) (by
   rw[h8x];intro i hi k hk;have h1:=(h.2 i hi).2 k hk;have hi':od i≠v:=fun e=>hc ⟨i,hi,e⟩;have hk':od k≠v:=fun e=>hc ⟨k,by omega,e⟩;split<;>split<;>omega) (fun x hx=>by
   obtain⟨i,hi,rfl⟩:=h6d.1 hx;have h1:=(h.2 i hi).1;have hi':od i≠v:=fun e=>hc ⟨i,hi,e⟩;split<;>omega)
  rw[h3u] at hlen;omega
 obtain⟨p,hp,e⟩:=hex;have hne: ∀l,l<p->od l≠v:=fun l hl e2=>(h.2 p hp).2 l hl (e2.trans e.symm);have h1:pos od v no 0=p:=h5n (by omega) (by omega) e fun l _ hl=>hne l hl;exact⟨p,hp,h1,by rw[prk,h1,if_pos hp]⟩
theorem i0a {d:DiR}(ho:h6y d.ns d.no d.od):i3y d↔h3x d:=by
 have kid:(∀i,i<d.nn->0<=d.var i/\d.var i<=(d.ns:Int)-1)-> ∀i,i<d.nn-> ∀k,(h8y d k i (prk d.od d.no (d.var i))↔isRef d k i/\h4t d i<h4t d k):=by
  intro hv i hi k;obtain⟨p,hp,e1,e2⟩:=h6s ho (hv i hi);have hri:h4t d i=p:=by rw[h4t,if_pos (by omega)];simpa using e1
  rw[e2,hri];unfold h8y isRef;by_cases hk:k<0
  ·rw[if_pos hk,if_neg (by omega)];have:h4t d k=d.no:=by rw[h4t,if_neg (by omega)]
   rw[this];constructor
   ·intro h;exact⟨by omega,hp⟩
   ·intro h;omega
  ·rw[if_neg hk,if_pos (by omega)];constructor
   ·rintro⟨h1,h2⟩;obtain⟨q,hq,f1,f2⟩:=h6s ho (hv k.toNat (by omega));have:h4t d k=q:=by rw[h4t,if_pos (by omega)];exact f1
    rw[this];rw[f2] at h2;exact⟨h1,by omega⟩
   ·rintro⟨h1,h2⟩;obtain⟨q,hq,f1,f2⟩:=h6s ho (hv k.toNat (by omega));have:h4t d k=q:=by rw[h4t,if_pos (by omega)];exact f1
    rw[this] at h2;rw[f2];exact⟨h1,by omega⟩
 have root:(∀i,i<d.nn->0<=d.var i/\d.var i<=(d.ns:Int)-1)->(h8y d d.root d.nn (-1)↔isRef d d.root d.nn):=by
  intro hv;unfold h8y isRef;by_cases hk:d.root<0
  ·rw[if_pos hk,if_neg (by omega)];omega
  ·rw[if_neg hk,if_pos (by omega)];constructor
   ·exact fun h=>h.1
   ·intro h;obtain⟨q,hq,f1,f2⟩:=h6s ho (hv d.root.toNat (by omega));rw[f2];exact⟨h,by omega⟩
 unfold i3y h3x;constructor
 ·rintro⟨a,b,c⟩;have hv:=fun i hi=>(b i hi).1.1;exact⟨a,fun i hi=>⟨(b i hi).1,fun j hj=>(kid hv i hi _).1 ((b i hi).2 j hj)⟩,(root hv).1 c⟩
 ·rintro⟨a,b,c⟩;have hv:=fun i hi=>(b i hi).1.1;exact⟨a,fun i hi=>⟨(b i hi).1,fun j hj=>(kid hv i hi _).2 ((b i hi).2 j hj)⟩,(root hv).2 c⟩
def i2o:AV:= .agg [.d .nil,.d .nil,.d .nil,.d .nil,.d .nil,.d .nil,int 0]
theorem h7g (d:DiR)(hf:d.fit)(h0: ∀i,i<d.ne->0<=(d.en i).fault)(hno:d.no<=12)(r:Int)(hr:h3z d=r):
 ∃v,(v=d.lav\/h4e d.ns d.no d.sz d.od≠0/\v=i2o)/\a0j AC AM 196 [d.av] (.tuple [v,int r]):=by
 obtain⟨e,he⟩: ∃e,h4e d.ns d.no d.sz d.od=e:=⟨_,rfl⟩;have h1:=h5l hf.ns hno d.sz d.od e he;obtain⟨z1,hz1⟩: ∃z:Bool,z=AH↔ ∀i,i<d.ne->a1i (d.en i):=by classical exact⟨decide _,decide_eq_true_iff⟩
 obtain⟨z2,hz2⟩: ∃z:Bool,z=AH↔ ∀i,i<d.nn->pBr d i:=by classical exact⟨decide _,decide_eq_true_iff⟩
 obtain⟨z3,hz3⟩: ∃z:Bool,z=AH↔h8y d d.root d.nn (-1):=by classical exact⟨decide _,decide_eq_true_iff⟩
 have h2:=i2y hf.ne d.en h0 z1 hz1;have h3:=i5g d hf z2 hz2;have h4:=h9f d hf.no d.root d.nn (-1) hf.root (fun _ h=>h) z3 hz3;have h5:=h6o hf.nn;have hnn:=hf.nn;rw[h3z,he] at hr;have r1:e≠0->e=r:=fun h=>by rw[<-hr,if_pos h]
 have r2:e=0->6000<d.nn->5=r:=fun h g=>by rw[<-hr,if_neg (fun k=>k h),if_pos g]
 have hl:e=0->((z1=AH/\z2=AH/\z3=AH)↔h3x d):=fun h=>by rw[<-i0a (h4s (he.trans h)).2.2.2,hz1,hz2,hz3];exact Iff.rfl
 have r3:e=0-> ¬6000<d.nn->z1=AH->z2=AH->z3=AH->0=r:=fun h g a b c=>by rw[<-hr,if_neg (fun k=>k h),if_neg g,if_pos ((hl h).1 ⟨a,b,c⟩)]
 have r4:e=0-> ¬6000<d.nn-> ¬(z1=AH/\z2=AH/\z3=AH)->4=r:=fun h g a=>by rw[<-hr,if_neg (fun k=>k h),if_neg g,if_neg (fun k=>a ((hl h).2 k))]
 clear hr hl hz1 hz2 hz3 hf h0;by_cases hz:e=0
 ·refine⟨d.lav,.inl rfl,?_⟩;subst hz;obtain⟨ns,sz,no,od,ne,en,nn,var,nk,kid,root⟩:=d;simp only at h1 h2 h3 h4 h5 hnn r2 r3 r4 hno;obtain⟨res,hres⟩: ∃res,res=DiR.lav ⟨ns,sz,no,od,ne,en,nn,var,nk,kid,root⟩:=⟨_,rfl⟩;rw[<-hres];refine a0k AB okP f0j _ rfl fun E Sg hb hS=> ?_;have ett: ∀z,Sg.toNat z=z.toNat:=by subst hS;exact fun _=>rfl
  cbv;refine a0v hS (int 0) (by subst hS;exact h1) ?_;cbv;split
  ·rename_i h;exfalso;clear h1 h2 h3 h4 h5;subst hS;simp[AI] at h
  cbv;split
  ·have h6:6000<nn:=by clear h1 h2 h3 h4 h5;subst hS;simp[AI] at*;omega
   cbv;subst hres;exact AT (.cons (AA _) (.cons (a6c (r2 trivial h6)) .nil))
  have h6: ¬6000<nn:=by clear h1 h2 h3 h4 h5;subst hS;simp[AI] at*;omega
  cbv;refine a0v hS (bool z1) (by subst hS;exact h2) ?_;cases z1
  ·cbv;subst hres;exact AT (.cons (AA _) (.cons (a6c (r4 trivial h6 (by simp))) .nil))
  cbv;refine a0v hS (isl nn fun i=>(i:Int)) (by subst hS;exact h5) ?_;cbv;refine a1g hS (by clear h1 h2 h3 h4 h5;subst hS;simp[AI]) ?_;refine h3v hS (AR h3 [] rfl rfl trivial) ?_;rintro pg v H' ⟨pg0,v0,h0,⟨rfl,rfl,rfl⟩,rfl,rfl,rfl⟩;cases z2
  ·cbv;subst hres;exact AT (.cons (AA _) (.cons (a6c (r4 trivial h6 (by simp))) .nil))
  cbv;refine a0v hS (bool z3) (by subst hS;exact h4) ?_;cases z3
  ·cbv;subst hres;exact AT (.cons (AA _) (.cons (a6c (r4 trivial h6 (by simp))) .nil))
  ·cbv;subst hres;exact AT (.cons (AA _) (.cons (a6c (r3 trivial h6 rfl rfl rfl)) .nil))
 ·refine⟨i2o,.inr ⟨fun h=>hz (he.symm.trans h),rfl⟩,?_⟩;obtain⟨ns,sz,no,od,ne,en,nn,var,nk,kid,root⟩:=d;simp only at h1;obtain⟨res,hres⟩: ∃res,res=i2o:=⟨_,rfl⟩;rw[<-hres];refine a0k AB okP f0j _ rfl fun E Sg hb hS=> ?_;cbv;refine a0v hS (int e) (by subst hS;exact h1) ?_;cbv;split
  ·cbv;subst hres;exact AT (.cons (a3x.agg (.cons (AA _) (.cons (AA _) (.cons (AA _) (.cons (AA _) (.cons (AA _) (.cons (AA _) (.cons (a6c rfl) .nil)))))))) (.cons (b0a (r1 hz)) .nil))
  ·rename_i h;exfalso;clear h1 h2 h3 h4 h5;subst hS;simp[AI] at h;exact hz h
def mkK (ns no:Nat)(sz od:Nat->Int)(pg:List Nat)(v:AV)(h':List a0f):Prop:=
 pg=[]/\v= .ptr 3 0/\h'=[.var [.any,.any],.map AH [.u8,.i64] 0 (fun _=>AS),.map AH [.i64,.i64,.i64,.i64,.i64,.i64,.i64,.i64,.i64,.i64,.i64,.i64,.i64] 0 (fun _=>AS),
  .var [isl ns sz,isl no od,isl ns sz,isl no od,.d .nil,.d .nil,int 0,.map 1,.map 2]]
theorem h8o {ns no:Nat}(hs:ns<=1000000)(ho:no<=1000000)(sz od:Nat->Int):a1h AC 236 [.agg [isl ns sz,isl no od]] [] (mkK ns no sz od):=by have h1:=i2c hs sz;have h2:=i2c ho od;refine h3w AB okP e8n rfl fun E Sg hb hS F hF=> ?_;simp only[AJ] at hb;cbv;refine a0v hS (isl ns sz) (by subst hS;exact h1) ?_;cbv;refine a0v hS (isl no od) (by subst hS;exact h2) ?_;cbv;exact⟨[],by simp,hF (.cons (Ab (.cons (.any _) (.cons (.any _) .nil))) (.cons (.refl _) (.cons (.refl _) (.cons (Ab (.cons (AA _) (.cons (AA _) (.cons (AA _) (.cons (AA _) (.cons (AA _) (.cons (AA _) (.cons (a6c rfl) (.cons (AA _) (.cons (AA _) .nil)))))))))) (.nil _))))) (AA _) (by simp) (.inr rfl) ⟨rfl,rfl,rfl⟩⟩
abbrev i4j:List IntKind:=[.i64,.i64,.i64,.i64,.i64,.i64,.i64,.i64,.i64,.i64,.i64,.i64,.i64]
def mkH (ns no:Nat)(sz od:Nat->Int)(q1 q2:Nat)(f1 f2:List KC->Option Int)(e1 e2:Nat->List DV):List a0f:=
 [.var [isl ns sz,isl no od,isl ns sz,isl no od,.msl 3 2 AS q1 AM,.msl 4 2 AS q2 AM,int 0,.map 1,.map 2],.map AH [.u8,.i64] q1 f1,.map AH i4j q2 f2,.arr 2 q1 e1,.arr 2 q2 e2]
def i9g (ns no:Nat)(sz od:Nat->Int)(q1 q2:Nat)(f1 f2:List KC->Option Int)(e1 e2:Nat->List DV)(c:VaR)(pg:List Nat)(v:AV)(h':List a0f):Prop:=
 pg=[3]/\((∃z,f1 [.i c.fault,.i c.n]=some z/\v=int (-1-z)/\h'=mkH ns no sz od q1 q2 f1 f2 e1 e2)\/
  (f1 [.i c.fault,.i c.n]=AS/\v=int (-1-(q1:Int))/\h'=mkH ns no sz od (q1+1) q2 (fun k=>if k=[.i c.fault,.i c.n] then some (q1:Int) else f1 k) f2 (fun i=>if i<q1 then e1 i else c.row) e2))
theorem i6d {ns no:Nat}(sz od:Nat->Int){q1 q2:Nat}(hq:q1<=1000000)(f1 f2:List KC->Option Int)(e1 e2:Nat->List DV)(c:VaR)
 (hf: ∀z,f1 [.i c.fault,.i c.n]=some z->0<=z/\z<=1000000) (hc:(0<=c.fault/\c.fault<=4)/\ -9999<=c.n/\c.n<=9999):a1h AC 238 [.ptr 0 0,c.av] (mkH ns no sz od q1 q2 f1 f2 e1 e2) (i9g ns no sz od q1 q2 f1 f2 e1 e2 c):=by
 obtain⟨cf,cn⟩:=c;simp only at hf hc;refine h3w AB okP e8i rfl fun E Sg hb hS F hF=> ?_;simp only[mkH,AK,AJ] at hb;cases hk:f1 [.i cf,.i cn] with
 |some z=>
  have hz:=hf z hk;have hh:Sg.mhas f1 [.i cf,.i cn]=AH:=by subst hS;simp[AI,hk]
  have hg:Sg.mget f1 [.i cf,.i cn]=z:=by subst hS;simp[AI,hk]
  have he:=h9k z (by omega) (by omega);cbv;simp only[hh,hg];cbv;refine a1g hS (by clear he;subst hS;simp[AI,AO,AP,AN];omega) ?_;refine a1g hS (by clear he;subst hS;exact b6g (by omega) (by omega)) ?_;refine a0v hS (int (-1-z)) (by subst hS;exact he) ?_;cbv;refine⟨[3],by simp,hF (h1:=mkH ns no sz od q1 q2 f1 f2 e1 e2) (.cons (.refl _) (.cons (.refl _) (.cons (.refl _) (.cons (.refl _) (.cons (.refl _) (.nil _)))))) (v0:=int (-1-z)) (AA _) (by simp[mkH]) (.inl ⟨rfl,rfl⟩) ⟨rfl,.inl ⟨z,hk,rfl,rfl⟩⟩⟩
 |none=>
  have hh:Sg.mhas f1 [.i cf,.i cn]=AM:=by subst hS;simp[AI,hk]
  have he:=h9k (q1:Int) (by omega) (by omega);cbv;simp only[hh];cbv;refine a1g hS (by clear he;subst hS;simp[AI,AO,AP,AN];omega) ?_;refine a1g hS (by clear he;subst hS;exact b6g (by omega) (by omega)) ?_;refine a1g hS (by clear he;subst hS;simp[AI,AO,AP,AN];omega) ?_;refine a1g hS (by clear he;subst hS;exact b6g (by omega) (by omega)) ?_;refine a1g hS (by clear he;subst hS;simp[AI]) ?_;refine a1g hS trivial ?_;refine a1g hS (by clear he;subst hS;simp[AI];omega) ?_;refine a0v hS (int (-1-(q1:Int))) (by subst hS;exact he) ?_;cbv;refine⟨[3],by simp,hF (h1:=mkH ns no sz od (q1+1) q2 (fun k=>if k=[.i cf,.i cn] then some (q1:Int) else f1 k) f2 (fun i=>if i<q1 then e1 i else VaR.row ⟨cf,cn⟩) e2)
   (.cons (Ab (.cons (AA _) (.cons (AA _) (.cons (AA _) (.cons (AA _) (.cons (by clear he;subst hS;exact AA _) (.cons (AA _) (.cons (AA _) (.cons (AA _) (.cons (AA _) .nil))))))))))
     (.cons (a9v.map (by clear he;subst hS;simp[AI,hk]) (fun k=>by clear he;subst hS;simp[AI])) (.cons (.refl _) (.cons (a9v.arr' (by clear he;subst hS;rfl) (fun i hi=> ?_)) (.cons (.refl _) (.nil _)))))) (v0:=int (-1-(q1:Int))) (AA _) (by simp[mkH]) (.inl ⟨rfl,rfl⟩) ⟨rfl,.inr ⟨hk,rfl,rfl⟩⟩⟩
  clear he;subst hS;simp only[AI] at hi⊢;split
  ·rfl
  ·have:i-q1=0:=by omega
   rw[this];rfl
def kH (n:Nat)(u:Nat->Int):List a0f:=[arrI n u,.var [.msl 0 1 AS n AM]]
theorem i4x {n:Nat}(hn:1<=n)(u:Nat->Int)(x:Int)(r:Bool)(hr:r=AH↔x=u 0):a1h AC 266 [int x,.ptr 1 0] (kH n u) (ro (kH n u) (bool r)):=by
 refine a2y AB okP e7v _ rfl fun E Sg hb hS=> ?_;have ett: ∀z,Sg.toNat z=z.toNat:=by subst hS;exact fun _=>rfl
 cbv
 repeat' (with_reducible apply a1g hS)
 all_goals try (subst hS;simp[AI]<;>omega;done)
 simp only[AW,ett,AD,AF]
 repeat' (with_reducible apply a1g hS)
 all_goals try (subst hS;simp[AI]<;>omega;done)
 refine a2s (a0s ?_) (.same _) (.inr rfl);subst hS;simp only[AI];cases r
 ·exact decide_eq_false fun h=>AE (hr.2 h)
 ·exact decide_eq_true (hr.1 rfl)
def kH2 (n:Nat)(u:Nat->Int):List a0f:=[arrI n u,.var [.msl 0 1 AS n AM],.var [.fn 266 [] [.ptr 1 0]]]
theorem i5r {n:Nat}(hn:1<=n)(u:Nat->Int)(x:Int)(r:Bool)(hr:r=AH↔ ¬x=u 0):a1h AC 263 [int x,.ptr 2 0] (kH2 n u) (ro (kH2 n u) (bool r)):=by
 have h1:=i4x hn u x (!r) (by
  cases r
  ·exact⟨fun _=>AG fun h=>AE (hr.2 h),fun _=>rfl⟩
  ·exact⟨fun h=>AE h,fun h=>absurd h (hr.1 rfl)⟩)
 clear hr;refine a2y AB okP e9f _ rfl fun E Sg hb hS=> ?_;cbv;refine h3v hS (AR h1 [0,1] rfl rfl ⟨AQ _,AQ _,trivial⟩) ?_;rintro pg v H' ⟨pg0,v0,h0,⟨rfl,rfl,rfl⟩,rfl,rfl,rfl⟩;cases r<;>cbv<;>exact a2s (a0s rfl) (.same _) (.inr rfl)
theorem i1c {n:Nat}(hn:n<=1000000)(u:Nat->Int)(o1 o2:a0f)(gid:FuncId)(a:Nat)(p:Nat->Bool)
 (hp: ∀i,i<n->a1h AC gid [int (u i),.ptr a 0] [arrI n u,o1,o2] (ro [arrI n u,o1,o2] (bool (p i)))) (r:Int) (hr:a6z n p r):
 a1h AC 215 [.msl 0 1 AS n AM,.fn gid [] [.ptr a 0]] [arrI n u,o1,o2] (ro [arrI n u,o1,o2] (int r)):=by
 refine a2y AB okP e2z _ rfl fun E Sg hb hS=> ?_;have ett: ∀z,Sg.toNat z=z.toNat:=by subst hS;exact fun _=>rfl
 simp only[AK,AJ] at hb;cbv;refine a7r AB okP hS (fun i=>i<=n/\ ∀j,j<i->p j=AM) (fun i=>n-i)
  (fun i=>⟨b5r [(0,.msl 0 1 AS n AM),(1,.fn gid [] [.ptr a 0]),(7,int n),(8,int i)] 19,[arrI n u,o1,o2],[]⟩) 0 ⟨by omega,by omega⟩ ?_ ?_
 ·exact a4c rfl ⟨AA _,AA _,b0a (by subst hS;rfl),a6c rfl,trivial⟩ (.same _) (by simp;omega) (.inr rfl) rfl
 ·intro i hi N hN;have hin:=hp i;clear hp;cbv;split
  ·cbv;have hlt:i<n:=by clear hin hN hr;subst hS;simp[AI] at*;omega
   have hin:=hin hlt;generalize hz:p i=z at hin;refine a1g hS (by clear hin hN hr;subst hS;simp[AI];omega) ?_;simp only[AW,ett,AD,AF];refine a1g hS (by clear hin hN hr;subst hS;simp[AI];omega) ?_;refine a3v hS (r:=bool z) (by subst hS;exact hin) ?_;cases z
   ·cbv;refine a1g hS (by clear hin hN hr;subst hS;exact b6g (by simp[AI];omega) (by simp[AI];omega)) ?_;refine hN (i+1) _ ⟨by omega,fun j hj=> ?_⟩ (by omega) (a4c rfl ⟨AA _,AA _,AA _,b0a ?_,trivial⟩ (.same _) (by simp;omega) (.inr rfl) rfl)
    ·by_cases e:j=i
     ·subst e;exact hz
     ·exact hi.2 j (by omega)
    ·clear hin hN hr;subst hS;simp[AI]
   ·cbv;exact a2s (b0a (hr.2 i hlt hz hi.2).symm) (.same _) (.inr rfl)
  ·have hni:n<=i:=by clear hin hN hr;subst hS;simp[AI] at*;omega
   cbv;exact a2s (a6c (hr.1 fun j hj=>hi.2 j (by omega)).symm) (.same _) (.inr rfl)
theorem h7k {n:Nat}(hn:n<=1000000)(u:Nat->Int)(o1 o2:a0f)(gid:FuncId)(a:Nat)(p:Nat->Bool)
 (hp: ∀i,i<n->a1h AC gid [int (u i),.ptr a 0] [arrI n u,o1,o2] (ro [arrI n u,o1,o2] (bool (p i)))) (r:Bool) (hr:r=AH↔ ∃i,i<n/\p i=AH):
 a1h AC 188 [.msl 0 1 AS n AM,.fn gid [] [.ptr a 0]] [arrI n u,o1,o2] (ro [arrI n u,o1,o2] (bool r)):=by
 obtain⟨z,hz,hz1,hz2⟩: ∃z,a6z n p z/\(0<=z-> ∃i,i<n/\p i=AH)/\((∃i,i<n/\p i=AH)->0<=z):=a9i n p;have hin:=i1c hn u o1 o2 gid a p hp z hz;have hzr:0<=z↔r=AH:=⟨fun h=>hr.2 (hz1 h),fun h=>hz2 (hr.1 h)⟩;clear hp hz hz1 hz2 hr;refine a2y AB okP e3u _ rfl fun E Sg hb hS=> ?_;cbv;refine a3v hS hin ?_;cbv;refine a2s (a0s ?_) (.same _) (.inr rfl);clear hin;subst hS;simp[AI];cases r
 ·simp at hzr⊢;omega
 ·simpa using hzr
theorem h4f {n:Nat}(hn:1<=n)(hn2:n<=1000000)(u:Nat->Int)(r:Bool)(hr:r=AH↔ ∀i,i<n->u i=u 0):
 a1h AC 230 [.msl 0 1 AS n AM,.fn 266 [] [.ptr 1 0]] (kH n u) (ro (kH n u) (bool r)):=by
 obtain⟨p,hp⟩: ∃p:Nat->Bool,∀j,p j=AH↔ ¬u j=u 0:=by classical exact⟨fun j=>decide (¬u j=u 0),fun j=>decide_eq_true_iff⟩
 have hin:=h7k hn2 u (.var [.msl 0 1 AS n AM]) (.var [.fn 266 [] [.ptr 1 0]]) 263 2 p (fun j hj=>i5r hn u (u j) (p j) (hp j)) (!r) (d2b hp hr);clear hr hp;refine a2y AB okP e8u _ rfl fun E Sg hb hS=> ?_;simp only[kH,AK,AJ] at hb;cbv;refine a3v hS hin ?_;cases r<;>cbv<;>exact a2s (a0s rfl) (.cons (.refl _) (.cons (.refl _) (.nil _))) (.inl ⟨rfl,rfl⟩)
end Go.Proofs.Tryz.Run
