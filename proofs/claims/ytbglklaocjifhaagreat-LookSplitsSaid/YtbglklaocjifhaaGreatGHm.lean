/- Reading of plans. Conditions: none. -/
import Derived.Test.YtbglklaocjifhaaGreatGSi
open Go.Proofs.Tryz renaming prog->AA
open Go.Proofs.YtbglklaocjifhaaGreat.Tryz renaming mixed->AB
open Go.Vf.ab renaming refl->AC
open Bool renaming true->AD,noConfusion->AE,false->AJ
open Int renaming ofNat_eq_natCast->AF,toNat_natCast->AH
open Classical renaming byContradiction->AG
open Go.Vf renaming ms->AI,rowAt->AK
open List renaming length_cons->AL,length_nil->AM
set_option linter.unusedSimpArgs false
set_option linter.unusedVariables false
set_option maxHeartbeats 0
set_option maxRecDepth 100000
namespace Go.Proofs.Tryz.Run
open Go Go.Vf Go.Proofs
open Go.Proofs.YtbglklaocjifhaaGreat
theorem f2k (a lo up:Int)(r:Bool)(hr:r=AD↔ ¬(lo<=a/\a<=up)):ay AA 252 [int a,.ptr 0 0,.ptr 1 0] [.var [int lo],.var [int up]] (ro [.var [int lo],.var [int up]] (bool r)):=by
 refine l7 AB ci e1x _ rfl fun E Sg hb hS=> ?_;cbv
 repeat' (split<;>cbv)
 all_goals
  refine j7 (ga ?_) (.same _) (.inr rfl);subst hS;simp[AI] at*
  cases r<;>simp at* <;>omega
theorem c8w (lo up:Int){n:Nat}(hn:n<=1000000)(g:Nat->Int)(r:Bool)(hr:r=AD↔ ∀i,i<n->lo<=g i/\g i<=up):au AA AD 210 [int lo,int up,ac n g] (bool r):=by
 have aq:=c0u hn g (.var [int lo]) (.var [int up]) 252 (fun i=>decide (¬(lo<=g i/\g i<=up))) (fun i _=>f2k (g i) lo up _ decide_eq_true_iff) (!r) (by
  cases r
  ·have hr: ¬ ∀i,i<n->lo<=g i/\g i<=up:=fun h=>AE (hr.2 h);simp only[Bool.not_false,decide_eq_true_eq,true_iff];exact AG fun h=>hr fun i hi=>AG fun h'=>h ⟨i,hi,h'⟩
  ·have hr:=hr.1 rfl;simp only[Bool.not_true,decide_eq_true_eq,Bool.false_eq_true,false_iff];rintro⟨i,hi,h⟩;exact h (hr i hi))
 refine j6 (cr AB ci e2g _ rfl fun E Sg hb hS=> ?_);cbv;refine lu hS aq ?_;cases r<;>cbv
 ·exact ga rfl
 ·exact ga rfl
theorem c4w (lo up x:Int)(r:Bool)(hr:r=AD↔lo<=x/\x<=up):au AA AD 210 [int lo,int up,.d (.sl 1 1 (AK [[.int .i64 (.v x)]]))] (bool r):=
 au.LE (.cons (AC _) (.cons (AC _) (.cons d0a .nil))) (c8w lo up (by omega) (fun _=>x) r (by rw[hr];exact⟨fun h _ _=>h,fun h=>h 0 (by omega)⟩))
theorem b7t (v:g8)(h0:0<=v.fault)(r:Bool)(hr:r=AD↔gb v):au AA AD 184 [v.av] (bool r):=by
 obtain⟨f,n⟩:=v;simp only at h0;simp only[gb] at hr;refine j6 (cr AB ci e4e _ rfl fun E Sg hb hS=> ?_);have aq:=c4w (-9999) 9999 n (decide (-9999<=n/\n<=9999)) decide_eq_true_iff;generalize hz:decide (-9999<=n/\n<=9999)=z at aq;cbv;split
 ·rename_i h;have h1:f=0:=e2h hS h;rw[if_pos h1] at hr;cbv;refine bf hS (bool z) (by subst hS;exact aq) ?_;cbv;exact ga (by cases r<;>cases z<;>simp at* <;>omega)
 ·rename_i h;have h1:f≠0:=Ve hS h;rw[if_neg h1] at hr;cbv;split
  ·rename_i h;have h:=e3n hS h;cbv;refine ga ?_;subst hS;simp[AI] at*;cases r<;>simp at* <;>omega
  ·rename_i h;have h:=Vg hS h;cbv;exact jq hr fun k=>by simp at h;omega
theorem c8o {n:Nat}(hn:n<=1000000)(f:Nat->g8)(H:List ae)(gid:FuncId)(p:Nat->Bool)
 (hp: ∀i,i<n->ay AA gid [(f i).av] H (ro H (bool (p i)))) (r:Int) (hr:uq n p r):
 ay AA 251 [d7 n f,.fn gid [] []] H (ro H (int r)):=by
 obtain⟨ef,jf,wy⟩: ∃ef jf,f=fun i=>g8.mk (ef i) (jf i):=⟨fun i=>(f i).fault,fun i=>(f i).n,rfl⟩;subst wy;refine l7 AB ci TC _ rfl fun E Sg hb hS=> ?_;have e8: ∀z,Sg.toNat z=z.toNat:=by subst hS;exact fun _=>rfl
 cbv;refine gg AB ci hS (fun i=>i<=n/\ ∀j,j<i->p j=AJ) (fun i=>n-i)
  (fun i=>⟨dn [(0,d7 n (fun i=>⟨ef i,jf i⟩)),(1,.fn gid [] []),(7,int n),(8,int i)] 19,H,[]⟩) 0 ⟨by omega,by omega⟩ ?_ ?_
 ·exact bq rfl ⟨AC _,AC _,br (by subst hS;rfl),bg rfl,trivial⟩ (.same _) (by omega) (.inr rfl) rfl
 ·intro i hi N hN;have aq:=hp i;clear hp;cbv;split
  ·cbv;have hlt:i<n:=by clear aq hN hr;subst hS;simp[AI] at*;omega
   have aq:=aq hlt;generalize hz:p i=z at aq;refine ad hS (by clear aq hN hr;subst hS;simp[AI];omega) ?_;simp only[nat,e8,AF,AH];refine lu hS (r:=bool z) (by subst hS;exact aq) ?_;cases z
   ·cbv;refine ad hS (by clear aq hN hr;subst hS;exact e7 (by simp[AI];omega) (by simp[AI];omega)) ?_;refine hN (i+1) _ ⟨by omega,fun j hj=> ?_⟩ (by omega) (bq rfl ⟨AC _,AC _,AC _,br ?_,trivial⟩ (.same _) (by omega) (.inr rfl) rfl)
    ·by_cases e:j=i
     ·subst e;exact hz
     ·exact hi.2 j (by omega)
    ·clear aq hN hr;subst hS;simp[AI]
   ·cbv;exact j7 (br (hr.2 i hlt hz hi.2).symm) (.same _) (.inr rfl)
  ·have p0:n<=i:=by clear aq hN hr;subst hS;simp[AI] at*;omega
   cbv;exact j7 (bg (hr.1 fun j hj=>hi.2 j (by omega)).symm) (.same _) (.inr rfl)
theorem b7i {n:Nat}(hn:n<=1000000)(f:Nat->g8)(H:List ae)(gid:FuncId)(p:Nat->Bool)
 (hp: ∀i,i<n->ay AA gid [(f i).av] H (ro H (bool (p i)))) (r:Bool) (hr:r=AD↔ ∃i,i<n/\p i=AD):
 ay AA 208 [d7 n f,.fn gid [] []] H (ro H (bool r)):=by
 obtain⟨z,hz,jl,eb⟩: ∃z,uq n p z/\(0<=z-> ∃i,i<n/\p i=AD)/\((∃i,i<n/\p i=AD)->0<=z):=JS n p;have aq:=c8o hn f H gid p hp z hz;have qv:0<=z↔r=AD:=⟨fun h=>hr.2 (jl h),fun h=>eb (hr.1 h)⟩;clear hp hz jl eb hr;refine l7 AB ci Ty _ rfl fun E Sg hb hS=> ?_;cbv;refine lu hS aq ?_;cbv;refine j7 (ga ?_) (.same _) (.inr rfl);clear aq;subst hS;simp[AI];cases r
 ·simp at qv⊢;omega
 ·simpa using qv
theorem e3a (v:g8)(h0:0<=v.fault)(r:Bool)(hr:r=AD↔ ¬gb v):au AA AD 253 [v.av] (bool r):=by
 obtain⟨z,hz⟩: ∃z:Bool,z=AD↔gb v:=by classical exact⟨decide _,decide_eq_true_iff⟩
 have h1:=b7t v h0 z hz;have qv:r=!z:=by
  cases z
  ·exact hr.2 fun h=>AE (hz.2 h)
  ·cases r
   ·rfl
   ·exact absurd (hz.1 rfl) (hr.1 rfl)
 obtain⟨f,n⟩:=v;refine j6 (cr AB ci e4s _ rfl fun E Sg hb hS=> ?_);cbv;refine bf hS (bool z) (by subst hS;exact h1) ?_;subst qv;cases z<;>cbv<;>exact ga rfl
theorem c0v (a b:g8)(ha:0<=a.fault)(k7:0<=b.fault)(r:Bool)(hr:r=AD↔gb a/\gb b):au AA AD 211 [.d (.sl 2 2 (AK [a.row,b.row]))] (bool r):=by
 obtain⟨f,vy,SE⟩: ∃f:Nat->g8,f 0=a/\f 1=b:=⟨fun i=>if i=0 then a else b,rfl,rfl⟩;have hf: ∀i,i<2->AK [a.row,b.row] i=(f i).row:=fun i hi=>by
  match i,hi with
  |0,_=>rw[vy];rfl
  |1,_=>rw[SE];rfl
 refine au.LE (.cons (ab.sl (e':=fun i=>(f i).row) hf) .nil) ?_;have h0: ∀i,i<2->0<=(f i).fault:=fun i hi=>by
  match i,hi with
  |0,_=>rw[vy];exact ha
  |1,_=>rw[SE];exact k7
 obtain⟨p,hp⟩: ∃p:Nat->Bool,∀i,p i=AD↔ ¬gb (f i):=by classical exact⟨fun i=>decide (¬gb (f i)),fun i=>decide_eq_true_iff⟩
 have mb:r=AD↔ ∀i,i<2->gb (f i):=by
  rw[hr,<-vy,<-SE];constructor
  ·rintro⟨h1,h2⟩ i hi
   match i,hi with
   |0,_=>exact h1
   |1,_=>exact h2
  ·exact fun h=>⟨h 0 (by omega),h 1 (by omega)⟩
 have aq:=b7i (n:=2) (by omega) f [] 253 p (fun i hi=>ay.VC rfl (e3a (f i) (h0 i hi) (p i) (hp i))) (!r) (JJ hp mb);clear hr hp mb hf vy SE h0;obtain⟨ef,jf,wy⟩: ∃ef jf,f=fun i=>g8.mk (ef i) (jf i):=⟨fun i=>(f i).fault,fun i=>(f i).n,rfl⟩;subst wy;have hin2:au AA AD 208 [d7 2 fun i=>⟨ef i,jf i⟩,.fn 253 [] []] (bool (!r)):=j6 (au.XQ aq fun E Sg hS pg v h' hk=>by
  obtain⟨rfl,rfl,rfl⟩:=hk;exact⟨rfl,AC _⟩)
 refine j6 (cr AB ci e0o _ rfl fun E Sg hb hS=> ?_);cbv;refine bf hS (bool (!r)) (by subst hS;exact hin2) ?_;cases r<;>cbv<;>exact ga rfl
def KY (a b:Int):Int:=if a<b then-1 else if b<a then 1 else 0
theorem c5s (a b:Int)(r:Int)(hr:r=KY a b):au AA AD 214 [int a,int b] (int r):=by
 have h1:=c9c a;have h2:=c9c b;refine su (cr AB ci e0m _ rfl fun E Sg hb hS=> ?_);unfold KY at hr;cbv;refine bf hS _ h1 ?_;cbv;refine bf hS _ h2 ?_;cbv;split
 ·rename_i h;have h:=ry hS h;cbv;exact bg (by rw[hr,if_pos h];rfl)
 ·rename_i h;have h:=s9 hS h;cbv;split
  ·rename_i k;have k:=ry hS k;cbv;exact bg (by rw[hr,if_neg (by omega),if_pos k];rfl)
  ·rename_i k;have k:=s9 hS k;cbv;exact bg (by rw[hr,if_neg (by omega),if_neg (by omega)];rfl)
theorem c2s (a:Int):au AA AD 254 [u8 a] (bool AJ):=by refine j6 (cr AB ci e1l _ rfl fun E Sg hb hS=> ?_);cbv;refine ga ?_;subst hS;simp[AI]
theorem c4y (a b:Int)(r:Int)(hr:r=KY a b):au AA AD 213 [u8 a,u8 b] (int r):=by
 have h1:=c2s a;have h2:=c2s b;refine su (cr AB ci e1g _ rfl fun E Sg hb hS=> ?_);unfold KY at hr;cbv;refine bf hS _ h1 ?_;cbv;refine bf hS _ h2 ?_;cbv;split
 ·rename_i h;have h:=ry hS h;cbv;exact bg (by rw[hr,if_pos h];rfl)
 ·rename_i h;have h:=s9 hS h;cbv;split
  ·rename_i k;have k:=ry hS k;cbv;exact bg (by rw[hr,if_neg (by omega),if_pos k];rfl)
  ·rename_i k;have k:=s9 hS k;cbv;exact bg (by rw[hr,if_neg (by omega),if_neg (by omega)];rfl)
theorem e8a (x y r:Int)(hr:r=if x≠0 then x else y):au AA AD 212 [.d (.sl 1 2 (AK [[.int .i64 (.v x)],[.int .i64 (.v y)]]))] (int r):=by
 refine au.LE (.cons (c8h (x:=x) (y:=y)) .nil) ?_;obtain⟨g,SI,hg1,hg⟩: ∃g:Nat->Int,g 0=x/\g 1=y/\two x y=g:=⟨two x y,rfl,rfl,rfl⟩;rw[hg];clear hg;refine su (cr AB ci e1p _ rfl fun E Sg hb hS=> ?_);have e:=fh hS;cbv;refine gg AB ci hS (fun i=>i<=2/\ ∀j,j<i->g j=0) (fun i=>2-i)
  (fun i=>⟨dn [(3,int 0),(6,ac 2 g),(7,int 2),(8,int i)] 18,[],[]⟩) 0 (by simp) ?_ ?_
 ·exact bq rfl ⟨bg rfl,AC _,br (e.ofNat 2),bg rfl,trivial⟩ (.nil _) (by omega) (.inr rfl) rfl
 ·rintro i ⟨hi,hz⟩ N hN;cbv;split
  ·rename_i h;have hlt:i<2:=Int.ofNat_lt.1 (ry hS h);cbv;simp only[nat,e.toNat,AF,AH];refine ad hS (gf hS hlt) ?_;split
   ·rename_i h;have h:=e8q hS h;cbv;refine br ?_
    match i,hlt,hz,h with
    |0,_,_,h=>rw[hr,SI,if_pos (by rw[<-SI];exact h)]
    |1,_,hz,h=>rw[hr,hg1,if_neg (by rw[<-SI,hz 0 (by omega)];simp)]
   ·rename_i h;have h:=e8o hS h;cbv;refine ad hS (ji hS (by omega)) ?_;exact hN (i+1) _ ⟨by omega,fun j hj=>by
     by_cases e:j=i
     ·rw[e];exact h
     ·exact hz j (by omega)⟩ (by omega) (bq rfl ⟨AC _,AC _,AC _,je hS,trivial⟩ (.nil _) (by omega) (.inr rfl) rfl)
  ·rename_i h;have hlt:2<=i:=Int.ofNat_le.1 (s9 hS h);cbv;exact br (by rw[hr,if_neg (by rw[<-SI,hz 0 (by omega)];simp),<-hg1,hz 1 (by omega)])
def Yr (a b:g8):Prop:=a.fault<b.fault\/a.fault=b.fault/\a.n<b.n
instance (a b:g8):Decidable (Yr a b):=by unfold Yr;exact inferInstance
theorem d6t (a b:g8)(ha:0<=a.fault)(k7:0<=b.fault)(r:Bool)(hr:r=AD↔Yr a b)(h1:gb a)(h2:gb b):au AA AD 186 [a.av,b.av] (.tuple [bool r,int 0]):=by
 have hc:=c0v a b ha k7 AD (by simp[h1,h2]);obtain⟨fa,na⟩:=a;obtain⟨fb,nb⟩:=b;obtain⟨p,hp⟩: ∃p,p=KY fa fb:=⟨_,rfl⟩;obtain⟨q,hq⟩: ∃q,q=KY na nb:=⟨_,rfl⟩;obtain⟨z,hz⟩: ∃z,z=if p≠0 then p else q:=⟨_,rfl⟩;have qv:(z<0)↔r=AD:=by
  rw[hr];unfold KY at hp hq;simp only[Yr]
  (repeat' split at hp)<;>(repeat' split at hq)<;>split at hz<;>omega
 have c1:=c4y fa fb p hp;have c2:=c5s na nb q hq;have c3:=e8a p q z hz;clear hp hq hz hr h1 h2 ha k7;refine b4i (fun x hx=>by simp at hx;rcases hx with rfl|rfl<;>trivial) (cr AB ci e2o _ rfl fun E Sg hb hS=> ?_);cbv;refine bf hS (bool AD) (by subst hS;exact hc) ?_;cbv;refine bf hS _ c1 ?_;cbv;refine ad hS (mc hS) (ad hS (mc hS) (bf hS _ c2 ?_));cbv;refine bf hS _ c3 ?_;cbv;refine fl.tuple (.cons (ga ?_) (.cons (bg rfl) .nil));subst hS;simp[AI];cases r<;>simp at* <;>omega
theorem d4i (v:g8)(h0:0<=v.fault)(r:Int)(hr:(gb v->r=0)/\(¬gb v->r=2)):au AA AD 145 [v.av] (int r):=by
 classical
 have h1:=b7t v h0 (decide (gb v)) decide_eq_true_iff;generalize hz:decide (gb v)=z at h1;have mb:r=if z=AD then 0 else 2:=by
  rw[<-hz];by_cases h:gb v
  ·simp[h,hr.1 h]
  ·simp[h,hr.2 h]
 clear hr hz;obtain⟨f,n⟩:=v;refine su (cr AB ci e3b _ rfl fun E Sg hb hS=> ?_);cbv;refine bf hS (bool z) (by subst hS;exact h1) ?_;cases z<;>cbv
 ·exact bg (by rw[mb];rfl)
 ·exact bg (by rw[mb];rfl)
theorem c9s (a b:g8)(ha:0<=a.fault)(k7:0<=b.fault)(h1:gb a)(h2:gb b)(r:Int)(hr:r=if a=b then 0 else if Yr a b then-1 else 1):au AA AD 149 [a.av,b.av] (int r):=by
 have hl:=d6t a b ha k7 (decide (Yr a b)) decide_eq_true_iff h1 h2;generalize hz:decide (Yr a b)=z at hl;have mb:r=if a=b then 0 else if z=AD then-1 else 1:=by rw[hr,<-hz];simp
 obtain⟨fa,na⟩:=a;obtain⟨fb,nb⟩:=b;simp only[g8.eq_iff] at mb;clear hr hz;refine su (cr AB ci e3y _ rfl fun E Sg hb hS=> ?_);cbv;refine bf hS _ hl ?_;cbv;split
 ·rename_i h;have h:fa=fb/\na=nb:=by subst hS;simpa [AI] using h
  cbv;exact bg (by rw[mb,if_pos h];rfl)
 ·rename_i h;have h: ¬(fa=fb/\na=nb):=by subst hS;simpa [AI] using h
  cases z<;>cbv
  ·exact bg (by rw[mb,if_neg h];rfl)
  ·exact bg (by rw[mb,if_neg h];rfl)
theorem i7e {ns no:Nat}(sz od:Nat->Int)(d:g7)(hd:d.ns<=1000000/\d.no<=1000000)(r:Bool)(hr:r=AD↔L d.ns d.sz=L ns sz/\L d.no d.od=L no od):
 au AA AD 135 [.agg [ac ns sz,ac no od],d.av] (bool r):=by
 obtain⟨z,hz⟩: ∃z:Bool,z=AD↔L d.ns d.sz=L ns sz:=by classical exact⟨decide _,decide_eq_true_iff⟩
 obtain⟨z2,eb⟩: ∃z:Bool,z=AD↔L d.no d.od=L no od:=by classical exact⟨decide _,decide_eq_true_iff⟩
 have h1:=JR hd.1 d.sz sz z hz;have h2:=JR hd.2 d.od od z2 eb;rw[<-hz,<-eb] at hr;clear hz eb hd;obtain⟨ns',sz',QQ,QS,ne,en,nn,var,nk,dq,root⟩:=d;refine j6 (cr AB ci f2g _ rfl fun E Sg hb hS=> ?_);cbv;refine bf hS (bool z) (by subst hS;exact h1) ?_;cases z
 ·cbv;exact jq hr fun h=>AE h.1
 cbv;refine bf hS (bool z2) (by subst hS;exact h2) ?_;cbv;refine ga ?_;cases r<;>cases z2<;>simp at hr⊢
theorem j5l {n:Nat}(hn:n<=1000000)(l:Nat->g7)(H:List ae)(gid:FuncId)(a:Nat)(p:Nat->Bool)
 (hp: ∀i,i<n->ay AA gid [(l i).av,.ptr a 0] H (ro H (bool (p i)))) (r:Int) (hr:uq n p r):
 ay AA 205 [Wg n l,.fn gid [] [.ptr a 0]] H (ro H (int r)):=by
 refine l7 AB ci e9r _ rfl fun E Sg hb hS=> ?_;have e8: ∀z,Sg.toNat z=z.toNat:=by subst hS;exact fun _=>rfl
 cbv;refine gg AB ci hS (fun i=>i<=n/\ ∀j,j<i->p j=AJ) (fun i=>n-i)
  (fun i=>⟨dn [(0,Wg n l),(1,.fn gid [] [.ptr a 0]),(7,int n),(8,int i)] 19,H,[]⟩) 0 ⟨by omega,by omega⟩ ?_ ?_
 ·exact bq rfl ⟨AC _,AC _,br (by subst hS;rfl),bg rfl,trivial⟩ (.same _) (by omega) (.inr rfl) rfl
 ·intro i hi N hN;have aq:=hp i;clear hp;cbv;split
  ·cbv;have hlt:i<n:=by clear aq hN hr;subst hS;simp[AI] at*;omega
   have aq:=aq hlt;generalize hz:p i=z at aq;refine ad hS (by clear aq hN hr;subst hS;simp[AI];omega) ?_;simp only[nat,e8,AF,AH];refine lu hS (r:=bool z) (by subst hS;exact aq) ?_;cases z
   ·cbv;refine ad hS (by clear aq hN hr;subst hS;exact e7 (by simp[AI];omega) (by simp[AI];omega)) ?_;refine hN (i+1) _ ⟨by omega,fun j hj=> ?_⟩ (by omega) (bq rfl ⟨AC _,AC _,AC _,br ?_,trivial⟩ (.same _) (by omega) (.inr rfl) rfl)
    ·by_cases e:j=i
     ·subst e;exact hz
     ·exact hi.2 j (by omega)
    ·clear aq hN hr;subst hS;simp[AI]
   ·cbv;exact j7 (br (hr.2 i hlt hz hi.2).symm) (.same _) (.inr rfl)
  ·have p0:n<=i:=by clear aq hN hr;subst hS;simp[AI] at*;omega
   cbv;exact j7 (bg (hr.1 fun j hj=>hi.2 j (by omega)).symm) (.same _) (.inr rfl)
theorem j4z {n:Nat}(hn:n<=1000000)(l:Nat->g7)(H:List ae)(gid:FuncId)(a:Nat)(p:Nat->Bool)
 (hp: ∀i,i<n->ay AA gid [(l i).av,.ptr a 0] H (ro H (bool (p i)))) (r:Bool) (hr:r=AD↔ ∃i,i<n/\p i=AD):
 ay AA 174 [Wg n l,.fn gid [] [.ptr a 0]] H (ro H (bool r)):=by
 obtain⟨z,hz,jl,eb⟩: ∃z,uq n p z/\(0<=z-> ∃i,i<n/\p i=AD)/\((∃i,i<n/\p i=AD)->0<=z):=JS n p;have aq:=j5l hn l H gid a p hp z hz;have qv:0<=z↔r=AD:=⟨fun h=>hr.2 (jl h),fun h=>eb (hr.1 h)⟩;clear hp hz jl eb hr;refine l7 AB ci e8e _ rfl fun E Sg hb hS=> ?_;cbv;refine lu hS aq ?_;cbv;refine j7 (ga ?_) (.same _) (.inr rfl);clear aq;subst hS;simp[AI];cases r
 ·simp at qv⊢;omega
 ·simpa using qv
theorem i1n {n:Nat}(hn:n<=1000000)(l:Nat->g7)(H':List ae)(gid:FuncId)(a:Nat)(p:Nat->Bool)
 (hp: ∀i,i<n->ay AA gid [(l i).av,.ptr a 0] (.arr 5 n (fun i=>(l i).row)::H') (ro (.arr 5 n (fun i=>(l i).row)::H') (bool (p i)))) (r:Int) (hr:uq n p r):
 ay AA 205 [.bi 0 5 none n AJ,.fn gid [] [.ptr a 0]] (.arr 5 n (fun i=>(l i).row)::H') (ro (.arr 5 n (fun i=>(l i).row)::H') (int r)):=by
 refine l7 AB ci e9r _ rfl fun E Sg hb hS=> ?_;have e8: ∀z,Sg.toNat z=z.toNat:=by subst hS;exact fun _=>rfl
 cbv;refine gg AB ci hS (fun i=>i<=n/\ ∀j,j<i->p j=AJ) (fun i=>n-i)
  (fun i=>⟨dn [(0,.bi 0 5 none n AJ),(1,.fn gid [] [.ptr a 0]),(7,int n),(8,int i)] 19,.arr 5 n (fun i=>(l i).row)::H',[]⟩) 0 ⟨by omega,by omega⟩ ?_ ?_
 ·exact bq rfl ⟨AC _,AC _,br (by subst hS;rfl),bg rfl,trivial⟩ (.same _) (by omega) (.inr rfl) rfl
 ·intro i hi N hN;have aq:=hp i;clear hp;cbv;split
  ·cbv;have hlt:i<n:=by clear aq hN hr;subst hS;simp[AI] at*;omega
   have aq:=aq hlt;generalize hz:p i=z at aq;refine ad hS (by clear aq hN hr;subst hS;simp[AI];omega) ?_;refine ad hS (by clear aq hN hr;subst hS;simp[AI,nat];omega) ?_;simp only[nat,e8,AF,AH];refine lu hS (r:=bool z) (by subst hS;exact aq) ?_;cases z
   ·cbv;refine ad hS (by clear aq hN hr;subst hS;exact e7 (by simp[AI];omega) (by simp[AI];omega)) ?_;refine hN (i+1) _ ⟨by omega,fun j hj=> ?_⟩ (by omega) (bq rfl ⟨AC _,AC _,AC _,br ?_,trivial⟩ (.same _) (by omega) (.inr rfl) rfl)
    ·by_cases e:j=i
     ·subst e;exact hz
     ·exact hi.2 j (by omega)
    ·clear aq hN hr;subst hS;simp[AI]
   ·cbv;exact j7 (br (hr.2 i hlt hz hi.2).symm) (.same _) (.inr rfl)
  ·have p0:n<=i:=by clear aq hN hr;subst hS;simp[AI] at*;omega
   cbv;exact j7 (bg (hr.1 fun j hj=>hi.2 j (by omega)).symm) (.same _) (.inr rfl)
theorem h8d {n:Nat}(hn:n<=1000000)(l:Nat->g7)(H':List ae)(gid:FuncId)(a:Nat)(p:Nat->Bool)
 (hp: ∀i,i<n->ay AA gid [(l i).av,.ptr a 0] (.arr 5 n (fun i=>(l i).row)::H') (ro (.arr 5 n (fun i=>(l i).row)::H') (bool (p i)))) (r:Bool) (hr:r=AD↔ ∃i,i<n/\p i=AD):
 ay AA 174 [.bi 0 5 none n AJ,.fn gid [] [.ptr a 0]] (.arr 5 n (fun i=>(l i).row)::H') (ro (.arr 5 n (fun i=>(l i).row)::H') (bool r)):=by
 obtain⟨z,hz,jl,eb⟩: ∃z,uq n p z/\(0<=z-> ∃i,i<n/\p i=AD)/\((∃i,i<n/\p i=AD)->0<=z):=JS n p;have aq:=i1n hn l H' gid a p hp z hz;have qv:0<=z↔r=AD:=⟨fun h=>hr.2 (jl h),fun h=>eb (hr.1 h)⟩;clear hp hz jl eb hr;refine l7 AB ci e8e _ rfl fun E Sg hb hS=> ?_;cbv;refine lu hS aq ?_;cbv;refine j7 (ga ?_) (.same _) (.inr rfl);clear aq;subst hS;simp[AI];cases r
 ·simp at qv⊢;omega
 ·simpa using qv
def Vl (ns no:Nat)(sz od:Nat->Int)(n:Nat)(l:Nat->g7):List ae:=[.arr 5 n (fun i=>(l i).row),.var [.fn 135 [.agg [ac ns sz,ac no od]] []]]
theorem i5o {ns no:Nat}(sz od:Nat->Int)(d:g7)(hd:d.ns<=1000000/\d.no<=1000000)(n:Nat)(l:Nat->g7)(r:Bool)(hr:r=AD↔ ¬(L d.ns d.sz=L ns sz/\L d.no d.od=L no od)):
 ay AA 175 [d.av,.ptr 1 0] (Vl ns no sz od n l) (ro (Vl ns no sz od n l) (bool r)):=by
 have h1:=i7e (ns:=ns) (no:=no) sz od d hd (!r) (by
  cases r
  ·exact⟨fun _=>AG fun h=>AE (hr.2 h),fun _=>rfl⟩
  ·exact⟨fun h=>AE h,fun h=>absurd h (hr.1 rfl)⟩)
 clear hr hd;obtain⟨ns',sz',QQ,QS,ne,en,nn,var,nk,dq,root⟩:=d;refine l7 AB ci e9v _ rfl fun E Sg hb hS=> ?_;simp only[Vl,AL,AM] at hb;cbv;refine lu hS (ay.VC rfl h1) ?_;cases r<;>cbv<;>exact j7 (ga rfl) (.cons (.refl _) (.cons (.refl _) (.nil _))) (.inl ⟨rfl,rfl⟩)
theorem i1m {ns no:Nat}(sz od:Nat->Int){n:Nat}(hn:n<=1000000)(l:Nat->g7)(hd: ∀i,i<n->(l i).ns<=1000000/\(l i).no<=1000000)(r:Bool)
 (hr:r=AD↔ ∀i,i<n->L (l i).ns (l i).sz=L ns sz/\L (l i).no (l i).od=L no od):
 ay AA 136 [.bi 0 5 none n AJ,.fn 135 [.agg [ac ns sz,ac no od]] []] [.arr 5 n (fun i=>(l i).row)] (ro [.arr 5 n (fun i=>(l i).row)] (bool r)):=by
 obtain⟨p,hp⟩: ∃p:Nat->Bool,∀i,p i=AD↔ ¬(L (l i).ns (l i).sz=L ns sz/\L (l i).no (l i).od=L no od):=by classical exact⟨fun i=>decide (¬_),fun i=>decide_eq_true_iff⟩
 have aq:=h8d hn l [.var [.fn 135 [.agg [ac ns sz,ac no od]] []]] 175 1 p (fun i hi=>i5o sz od (l i) (hd i hi) n l (p i) (hp i)) (!r) (JJ hp hr);clear hr hp hd;refine l7 AB ci e7o _ rfl fun E Sg hb hS=> ?_;simp only[AL,AM] at hb;cbv;refine lu hS aq ?_;cases r<;>cbv<;>exact j7 (ga rfl) (.cons (.refl _) (.nil _)) (.inl ⟨rfl,rfl⟩)
noncomputable section
def j2p:Qx [0x220e04c80dcc03220c03ff0b090227850a81010183088101008308ff2603c880008f220200014600111000071000040a03090602080603030605000600040108,0x8116ff02000000860108831aff020000008401038318ff020000008101028315ff0b000203000bcd8002ff211304cc12cf118a10810102832403000b0f02ff03,0x1020003000083161468059417ff00050db514ff02000000881b0119000200fafafafa05020506b502000000871a0582020000008518058219ff020000008215,0x338526058225240584050424ff260105030008002104201ecd1f8a04052403060005c88005ff21030a1d04ff01060407050102000803090000891c1768059400,0x432ff140002030305030208002f042e2ccd2d8a04072403060205c88007ff21032305ffc922c023ff0522ff93000b2b02ff06222a04c829cc06222806ff2701,0xfd0c3d3c05843bfd0b073bfd0a043bfd093a08398e010501000203060407000087383602218506378104358136ff0501008337ff033400830233320584010700,0x1344c43b8c12438e3bfd010f0501000203060407080b0a0c0d09100e1100009142400221853bfd1041813bfd0e3f813bfd40ff0f0101833bfd41ff0d3e01833b,0xbc88002ff213107ffc930c031ff0730ff93000bca8002ff214504]:=⟨_,by cbv⟩
def i9a:x7:=j2p.1
def m3n:Qx [0xacc06220906ff0801638507000100fafafafa0501059102058207ff2403c880fdfafafafa0590018f008f02ff24050005010401021501020600010400020103,0x8612000100fafafafa0501059102058225000bcc8005ff1104058bfc040582231004c80fcc0e0191850302822303000b0d05ff0c04058bfc06040582240b04c8,0xbc88005ff1404058bfc1366c50265]:=⟨_,by cbv⟩
def m4w:x7:=m3n.1
end
theorem i6u:aw AA 42 i9a:=fk Tryz.func42 (by kernel_rfl)
theorem m1x:aw AA 107 m4w:=fk Tryz.func107 (by kernel_rfl)
inductive om where
 |none
 |mk (look:Int) (nc:Nat) (c:Nat->g8) (nn:Nat) (nx:Nat->om)
def om.look:om->Int| .none=>0| .mk l _ _ _ _=>l
def om.nc:om->Nat| .none=>0| .mk _ n _ _ _=>n
def om.c:om->Nat->g8| .none=>fun _=>⟨0,0⟩| .mk _ _ c _ _=>c
def om.nn:om->Nat| .none=>0| .mk _ _ _ n _=>n
def om.nx:om->Nat->om| .none=>fun _=> .none| .mk _ _ _ _ f=>f
def Ma:List DV:=[.int .i64 (.v 0),.sl 2 0 fun _=>[],.sl 3 0 fun _=>[]]
def om.row:om->List DV
 | .none=>[.int .i64 (.v 0),.sl 2 0 fun _=>(g8.mk 0 0).row,.sl 3 0 fun _=>Ma]
 | .mk l nc c nn nx=>[.int .i64 (.v l),.sl 2 nc fun i=>(c i).row,.sl 3 nn fun i=>if i<nn then (nx i).row else Ma]
def om.av:om->AV
 | .none=> .agg [int 0,d7 0 fun _=>⟨0,0⟩,.d (.sl 3 0 fun _=>Ma)]
 | .mk l nc c nn nx=> .agg [int l,d7 nc c,.d (.sl 3 nn fun i=>if i<nn then (nx i).row else Ma)]
theorem om.Zw (q:om):q.row=[.int .i64 (.v q.look),.sl 2 q.nc fun j=>(q.c j).row,.sl 3 q.nn fun j=>if j<q.nn then (q.nx j).row else Ma]:=by
 cases q with
 |none=>simp[om.row,om.look,om.nc,om.c,om.nn]
 |mk=>rfl
theorem om.Ze (q:om):q.av= .agg [int q.look,.d (.sl 2 q.nc fun j=>(q.c j).row),.d (.sl 3 q.nn fun j=>if j<q.nn then (q.nx j).row else Ma)]:=by
 cases q with
 |none=>simp[om.av,om.look,om.nc,om.c,om.nn,d7]
 |mk=>rfl
def om.ok:om->Prop
 | .none=>True
 | .mk l nc c nn nx=>rq l/\nc<=140737488355328/\nn<=140737488355328/\(∀i,i<nc->(0<=(c i).fault/\(c i).fault<=255)/\rq (c i).n)/\ ∀i,i<nn->(nx i).ok
noncomputable section
end
section
variable {l:Int} {nc:Nat} {F M:Nat->Int} {nn:Nat} {E:Nat->List DV}
end
section
variable {l:Int} {nc:Nat} {F M:Nat->Int} {nn:Nat} {E:Nat->List DV}
end
end Go.Proofs.Tryz.Run
namespace Go.Proofs.YtbglklaocjifhaaGreat
open Go.ChangeShapes Go.WideShapes Go.ChangeAt Go.RowKit Go.Vf Go.Proofs.Tryz.Run
noncomputable def fieldsOf (t:TypeId):Option (List (TypeId×Nat)):=
 match AA.underlying t with
 |some (.struct fs)=>some (fs.toList.map fun f=>(f.type,f.offset))
 |_=>none
theorem ZV:AA.underlying 24=some (.slice 77):=by kernel_rfl
theorem u32:AA.underlying 32=some (.slice 34):=by kernel_rfl
theorem u3:AA.underlying 3=some (.int .i64):=by kernel_rfl
theorem u5:AA.underlying 5=some (.int .u8):=by kernel_rfl
theorem f77:fieldsOf 77=some [(5,0),(3,1)]:=by kernel_rfl
theorem ZL:AA.cellsOf 77=2:=by kernel_rfl
theorem k3:AA.cellsOf 3=1:=by kernel_rfl
theorem k5:AA.cellsOf 5=1:=by kernel_rfl
theorem ZK:AA.cellsOf 24=1:=by kernel_rfl
theorem Ww {α:Type}{l:List α}(h:l.length=2): ∃a b,l=[a,b]:=by
 match l,h with
 |[a,b],_=>exact⟨a,b,rfl⟩
section
variable {H:Type} {enc:TypeId×Value->H} {P:Program} {w:World} {spare:Nat->Bool} {held:Bool}
end
section
variable {H:Type} {enc:TypeId×Value->H} {w:World} {spare:Nat->Bool} {held:Bool}
end
end Go.Proofs.YtbglklaocjifhaaGreat
