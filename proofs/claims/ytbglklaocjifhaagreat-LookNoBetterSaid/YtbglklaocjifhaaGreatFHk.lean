/- Depth and Form of a plan. Conditions: none. -/
import Derived.Test.YtbglklaocjifhaaGreatFSi
open Go.Proofs.Tryz renaming prog->AA
open Go.Proofs.YtbglklaocjifhaaGreat.Tryz renaming mixed->AB
open Go.Vf.a0x renaming refl->AC
open Int renaming ofNat_eq_natCast->AD,ofNat->AG,toNat_natCast->AH,ofNat_lt->AK,ofNat_le->AM
open Bool renaming true->AE,noConfusion->AF,false->AJ,false_eq_true->AW,and_eq_true->AX,not_false->AY,not_true->AZ
open Classical renaming byContradiction->AI
open List renaming length_cons->AN,length_nil->AO
open Go renaming FuncId->AP
open Nat renaming not_lt_zero->AQ,le_refl->AU
open Go.Vf.a3x renaming tuple->AR
open Go.Vf renaming std->AS,rowAt->AT,nat->Aa
set_option linter.unusedSimpArgs false
set_option linter.unusedVariables false
set_option maxHeartbeats 0
set_option maxRecDepth 100000
namespace Go.Proofs.Tryz.Run
open Go Go.Vf Go.Proofs
open Go.Proofs.YtbglklaocjifhaaGreat
theorem f2k (a lo up:Int)(r:Bool)(hr:r=AE↔ ¬(lo<=a/\a<=up)):a1h AA 252 [int a,.ptr 0 0,.ptr 1 0] [.var [int lo],.var [int up]] (ro [.var [int lo],.var [int up]] (bool r)):=by
 refine a2y AB okP e1x _ rfl fun E Sg hb hS=> ?_;cbv
 repeat' (split<;>cbv)
 all_goals
  refine a2s (a0s ?_) (.same _) (.inr rfl);subst hS;simp[AS] at*
  cases r<;>simp at* <;>omega
theorem c8w (lo up:Int){n:Nat}(hn:n<=1000000)(g:Nat->Int)(r:Bool)(hr:r=AE↔ ∀i,i<n->lo<=g i/\g i<=up):a0j AA AE 210 [int lo,int up,isl n g] (bool r):=by
 have hin:=c0u hn g (.var [int lo]) (.var [int up]) 252 (fun i=>decide (¬(lo<=g i/\g i<=up))) (fun i _=>f2k (g i) lo up _ decide_eq_true_iff) (!r) (by
  cases r
  ·have hr: ¬ ∀i,i<n->lo<=g i/\g i<=up:=fun h=>AF (hr.2 h);simp only[AY,decide_eq_true_eq,true_iff];exact AI fun h=>hr fun i hi=>AI fun h'=>h ⟨i,hi,h'⟩
  ·have hr:=hr.1 rfl;simp only[AZ,decide_eq_true_eq,AW,false_iff];rintro⟨i,hi,h⟩;exact h (hr i hi))
 refine a1e (a0k AB okP e2g _ rfl fun E Sg hb hS=> ?_);cbv;refine a3v hS hin ?_;cases r<;>cbv
 ·exact a0s rfl
 ·exact a0s rfl
theorem c4w (lo up x:Int)(r:Bool)(hr:r=AE↔lo<=x/\x<=up):a0j AA AE 210 [int lo,int up,.d (.sl 1 1 (AT [[.int .i64 (.v x)]]))] (bool r):=
 a0j.like (.cons (AC _) (.cons (AC _) (.cons d0a .nil))) (c8w lo up (by omega) (fun _=>x) r (by rw[hr];exact⟨fun h _ _=>h,fun h=>h 0 (by omega)⟩))
theorem b7t (v:VaR)(h0:0<=v.fault)(r:Bool)(hr:r=AE↔a1i v):a0j AA AE 184 [v.av] (bool r):=by
 obtain⟨f,n⟩:=v;simp only at h0;simp only[a1i] at hr;refine a1e (a0k AB okP e4e _ rfl fun E Sg hb hS=> ?_);have hin:=c4w (-9999) 9999 n (decide (-9999<=n/\n<=9999)) decide_eq_true_iff;generalize hz:decide (-9999<=n/\n<=9999)=z at hin;cbv;split
 ·rename_i h;have h1:f=0:=e2h hS h;rw[if_pos h1] at hr;cbv;refine a0v hS (bool z) (by subst hS;exact hin) ?_;cbv;exact a0s (by cases r<;>cases z<;>simp at* <;>omega)
 ·rename_i h;have h1:f≠0:=c8k hS h;rw[if_neg h1] at hr;cbv;split
  ·rename_i h;have h:=e3n hS h;cbv;refine a0s ?_;subst hS;simp[AS] at*;cases r<;>simp at* <;>omega
  ·rename_i h;have h:=e3g hS h;cbv;exact e8z hr fun k=>by simp at h;omega
theorem c8o {n:Nat}(hn:n<=1000000)(f:Nat->VaR)(H:List a0f)(gid:AP)(p:Nat->Bool)
 (hp: ∀i,i<n->a1h AA gid [(f i).av] H (ro H (bool (p i)))) (r:Int) (hr:a6z n p r):
 a1h AA 251 [vsl n f,.fn gid [] []] H (ro H (int r)):=by
 obtain⟨ef,en',hen⟩: ∃ef en',f=fun i=>VaR.mk (ef i) (en' i):=⟨fun i=>(f i).fault,fun i=>(f i).n,rfl⟩;subst hen;refine a2y AB okP e0s _ rfl fun E Sg hb hS=> ?_;have ett: ∀z,Sg.toNat z=z.toNat:=by subst hS;exact fun _=>rfl
 cbv;refine a7r AB okP hS (fun i=>i<=n/\ ∀j,j<i->p j=AJ) (fun i=>n-i)
  (fun i=>⟨b5r [(0,vsl n (fun i=>⟨ef i,en' i⟩)),(1,.fn gid [] []),(7,int n),(8,int i)] 19,H,[]⟩) 0 ⟨by omega,by omega⟩ ?_ ?_
 ·exact a4c rfl ⟨AC _,AC _,b0a (by subst hS;rfl),a6c rfl,trivial⟩ (.same _) (by omega) (.inr rfl) rfl
 ·intro i hi N hN;have hin:=hp i;clear hp;cbv;split
  ·cbv;have hlt:i<n:=by clear hin hN hr;subst hS;simp[AS] at*;omega
   have hin:=hin hlt;generalize hz:p i=z at hin;refine a1g hS (by clear hin hN hr;subst hS;simp[AS];omega) ?_;simp only[Aa,ett,AD,AH];refine a3v hS (r:=bool z) (by subst hS;exact hin) ?_;cases z
   ·cbv;refine a1g hS (by clear hin hN hr;subst hS;exact b6g (by simp[AS];omega) (by simp[AS];omega)) ?_;refine hN (i+1) _ ⟨by omega,fun j hj=> ?_⟩ (by omega) (a4c rfl ⟨AC _,AC _,AC _,b0a ?_,trivial⟩ (.same _) (by omega) (.inr rfl) rfl)
    ·by_cases e:j=i
     ·subst e;exact hz
     ·exact hi.2 j (by omega)
    ·clear hin hN hr;subst hS;simp[AS]
   ·cbv;exact a2s (b0a (hr.2 i hlt hz hi.2).symm) (.same _) (.inr rfl)
  ·have hni:n<=i:=by clear hin hN hr;subst hS;simp[AS] at*;omega
   cbv;exact a2s (a6c (hr.1 fun j hj=>hi.2 j (by omega)).symm) (.same _) (.inr rfl)
theorem b7i {n:Nat}(hn:n<=1000000)(f:Nat->VaR)(H:List a0f)(gid:AP)(p:Nat->Bool)
 (hp: ∀i,i<n->a1h AA gid [(f i).av] H (ro H (bool (p i)))) (r:Bool) (hr:r=AE↔ ∃i,i<n/\p i=AE):
 a1h AA 208 [vsl n f,.fn gid [] []] H (ro H (bool r)):=by
 obtain⟨z,hz,hz1,hz2⟩: ∃z,a6z n p z/\(0<=z-> ∃i,i<n/\p i=AE)/\((∃i,i<n/\p i=AE)->0<=z):=a9i n p;have hin:=c8o hn f H gid p hp z hz;have hzr:0<=z↔r=AE:=⟨fun h=>hr.2 (hz1 h),fun h=>hz2 (hr.1 h)⟩;clear hp hz hz1 hz2 hr;refine a2y AB okP e4y _ rfl fun E Sg hb hS=> ?_;cbv;refine a3v hS hin ?_;cbv;refine a2s (a0s ?_) (.same _) (.inr rfl);clear hin;subst hS;simp[AS];cases r
 ·simp at hzr⊢;omega
 ·simpa using hzr
theorem e3a (v:VaR)(h0:0<=v.fault)(r:Bool)(hr:r=AE↔ ¬a1i v):a0j AA AE 253 [v.av] (bool r):=by
 obtain⟨z,hz⟩: ∃z:Bool,z=AE↔a1i v:=by classical exact⟨decide _,decide_eq_true_iff⟩
 have h1:=b7t v h0 z hz;have hzr:r=!z:=by
  cases z
  ·exact hr.2 fun h=>AF (hz.2 h)
  ·cases r
   ·rfl
   ·exact absurd (hz.1 rfl) (hr.1 rfl)
 obtain⟨f,n⟩:=v;refine a1e (a0k AB okP e4s _ rfl fun E Sg hb hS=> ?_);cbv;refine a0v hS (bool z) (by subst hS;exact h1) ?_;subst hzr;cases z<;>cbv<;>exact a0s rfl
theorem c0v (a b:VaR)(ha:0<=a.fault)(hb':0<=b.fault)(r:Bool)(hr:r=AE↔a1i a/\a1i b):a0j AA AE 211 [.d (.sl 2 2 (AT [a.row,b.row]))] (bool r):=by
 obtain⟨f,hf0,hf1⟩: ∃f:Nat->VaR,f 0=a/\f 1=b:=⟨fun i=>if i=0 then a else b,rfl,rfl⟩;have hf: ∀i,i<2->AT [a.row,b.row] i=(f i).row:=fun i hi=>by
  match i,hi with
  |0,_=>rw[hf0];rfl
  |1,_=>rw[hf1];rfl
 refine a0j.like (.cons (a0x.sl (e':=fun i=>(f i).row) hf) .nil) ?_;have h0: ∀i,i<2->0<=(f i).fault:=fun i hi=>by
  match i,hi with
  |0,_=>rw[hf0];exact ha
  |1,_=>rw[hf1];exact hb'
 obtain⟨p,hp⟩: ∃p:Nat->Bool,∀i,p i=AE↔ ¬a1i (f i):=by classical exact⟨fun i=>decide (¬a1i (f i)),fun i=>decide_eq_true_iff⟩
 have hr2:r=AE↔ ∀i,i<2->a1i (f i):=by
  rw[hr,<-hf0,<-hf1];constructor
  ·rintro⟨h1,h2⟩ i hi
   match i,hi with
   |0,_=>exact h1
   |1,_=>exact h2
  ·exact fun h=>⟨h 0 (by omega),h 1 (by omega)⟩
 have hin:=b7i (n:=2) (by omega) f [] 253 p (fun i hi=>a1h.of_pure rfl (e3a (f i) (h0 i hi) (p i) (hp i))) (!r) (d2b hp hr2);clear hr hp hr2 hf hf0 hf1 h0;obtain⟨ef,en',hen⟩: ∃ef en',f=fun i=>VaR.mk (ef i) (en' i):=⟨fun i=>(f i).fault,fun i=>(f i).n,rfl⟩;subst hen;have hin2:a0j AA AE 208 [vsl 2 fun i=>⟨ef i,en' i⟩,.fn 253 [] []] (bool (!r)):=a1e (a0j.of_acall hin fun E Sg hS pg v h' hk=>by
  obtain⟨rfl,rfl,rfl⟩:=hk;exact⟨rfl,AC _⟩)
 refine a1e (a0k AB okP e0o _ rfl fun E Sg hb hS=> ?_);cbv;refine a0v hS (bool (!r)) (by subst hS;exact hin2) ?_;cases r<;>cbv<;>exact a0s rfl
def d8g (a b:Int):Int:=if a<b then-1 else if b<a then 1 else 0
theorem c5s (a b:Int)(r:Int)(hr:r=d8g a b):a0j AA AE 214 [int a,int b] (int r):=by
 have h1:=c9c a;have h2:=c9c b;refine a4e (a0k AB okP e0m _ rfl fun E Sg hb hS=> ?_);unfold d8g at hr;cbv;refine a0v hS _ h1 ?_;cbv;refine a0v hS _ h2 ?_;cbv;split
 ·rename_i h;have h:=b3h hS h;cbv;exact a6c (by rw[hr,if_pos h];rfl)
 ·rename_i h;have h:=b3r hS h;cbv;split
  ·rename_i k;have k:=b3h hS k;cbv;exact a6c (by rw[hr,if_neg (by omega),if_pos k];rfl)
  ·rename_i k;have k:=b3r hS k;cbv;exact a6c (by rw[hr,if_neg (by omega),if_neg (by omega)];rfl)
theorem c2s (a:Int):a0j AA AE 254 [u8 a] (bool AJ):=by refine a1e (a0k AB okP e1l _ rfl fun E Sg hb hS=> ?_);cbv;refine a0s ?_;subst hS;simp[AS]
theorem c4y (a b:Int)(r:Int)(hr:r=d8g a b):a0j AA AE 213 [u8 a,u8 b] (int r):=by
 have h1:=c2s a;have h2:=c2s b;refine a4e (a0k AB okP e1g _ rfl fun E Sg hb hS=> ?_);unfold d8g at hr;cbv;refine a0v hS _ h1 ?_;cbv;refine a0v hS _ h2 ?_;cbv;split
 ·rename_i h;have h:=b3h hS h;cbv;exact a6c (by rw[hr,if_pos h];rfl)
 ·rename_i h;have h:=b3r hS h;cbv;split
  ·rename_i k;have k:=b3h hS k;cbv;exact a6c (by rw[hr,if_neg (by omega),if_pos k];rfl)
  ·rename_i k;have k:=b3r hS k;cbv;exact a6c (by rw[hr,if_neg (by omega),if_neg (by omega)];rfl)
theorem e8a (x y r:Int)(hr:r=if x≠0 then x else y):a0j AA AE 212 [.d (.sl 1 2 (AT [[.int .i64 (.v x)],[.int .i64 (.v y)]]))] (int r):=by
 refine a0j.like (.cons (c8h (x:=x) (y:=y)) .nil) ?_;obtain⟨g,hg0,hg1,hg⟩: ∃g:Nat->Int,g 0=x/\g 1=y/\two x y=g:=⟨two x y,rfl,rfl,rfl⟩;rw[hg];clear hg;refine a4e (a0k AB okP e1p _ rfl fun E Sg hb hS=> ?_);have e:=b2k hS;cbv;refine a7r AB okP hS (fun i=>i<=2/\ ∀j,j<i->g j=0) (fun i=>2-i)
  (fun i=>⟨b5r [(3,int 0),(6,isl 2 g),(7,int 2),(8,int i)] 18,[],[]⟩) 0 (by simp) ?_ ?_
 ·exact a4c rfl ⟨a6c rfl,AC _,b0a (e.ofNat 2),a6c rfl,trivial⟩ (.nil _) (by omega) (.inr rfl) rfl
 ·rintro i ⟨hi,hz⟩ N hN;cbv;split
  ·rename_i h;have hlt:i<2:=AK.1 (b3h hS h);cbv;simp only[Aa,e.toNat,AD,AH];refine a1g hS (a5p hS hlt) ?_;split
   ·rename_i h;have h:=e8q hS h;cbv;refine b0a ?_
    match i,hlt,hz,h with
    |0,_,_,h=>rw[hr,hg0,if_pos (by rw[<-hg0];exact h)]
    |1,_,hz,h=>rw[hr,hg1,if_neg (by rw[<-hg0,hz 0 (by omega)];simp)]
   ·rename_i h;have h:=e8o hS h;cbv;refine a1g hS (e1n hS (by omega)) ?_;exact hN (i+1) _ ⟨by omega,fun j hj=>by
     by_cases e:j=i
     ·rw[e];exact h
     ·exact hz j (by omega)⟩ (by omega) (a4c rfl ⟨AC _,AC _,AC _,b2s hS,trivial⟩ (.nil _) (by omega) (.inr rfl) rfl)
  ·rename_i h;have hlt:2<=i:=AM.1 (b3r hS h);cbv;exact b0a (by rw[hr,if_neg (by rw[<-hg0,hz 0 (by omega)];simp),<-hg1,hz 1 (by omega)])
def vlt (a b:VaR):Prop:=a.fault<b.fault\/a.fault=b.fault/\a.n<b.n
instance (a b:VaR):Decidable (vlt a b):=by unfold vlt;exact inferInstance
theorem d6t (a b:VaR)(ha:0<=a.fault)(hb':0<=b.fault)(r:Bool)(hr:r=AE↔vlt a b)(h1:a1i a)(h2:a1i b):a0j AA AE 186 [a.av,b.av] (.tuple [bool r,int 0]):=by
 have hc:=c0v a b ha hb' AE (by simp[h1,h2]);obtain⟨fa,na⟩:=a;obtain⟨fb,nb⟩:=b;obtain⟨p,hp⟩: ∃p,p=d8g fa fb:=⟨_,rfl⟩;obtain⟨q,hq⟩: ∃q,q=d8g na nb:=⟨_,rfl⟩;obtain⟨z,hz⟩: ∃z,z=if p≠0 then p else q:=⟨_,rfl⟩;have hzr:(z<0)↔r=AE:=by
  rw[hr];unfold d8g at hp hq;simp only[vlt]
  (repeat' split at hp)<;>(repeat' split at hq)<;>split at hz<;>omega
 have c1:=c4y fa fb p hp;have c2:=c5s na nb q hq;have c3:=e8a p q z hz;clear hp hq hz hr h1 h2 ha hb';refine b4i (fun x hx=>by simp at hx;rcases hx with rfl|rfl<;>trivial) (a0k AB okP e2o _ rfl fun E Sg hb hS=> ?_);cbv;refine a0v hS (bool AE) (by subst hS;exact hc) ?_;cbv;refine a0v hS _ c1 ?_;cbv;refine a1g hS (c3d hS) (a1g hS (c3d hS) (a0v hS _ c2 ?_));cbv;refine a0v hS _ c3 ?_;cbv;refine AR (.cons (a0s ?_) (.cons (a6c rfl) .nil));subst hS;simp[AS];cases r<;>simp at* <;>omega
theorem d4i (v:VaR)(h0:0<=v.fault)(r:Int)(hr:(a1i v->r=0)/\(¬a1i v->r=2)):a0j AA AE 145 [v.av] (int r):=by
 classical
 have h1:=b7t v h0 (decide (a1i v)) decide_eq_true_iff;generalize hz:decide (a1i v)=z at h1;have hr2:r=if z=AE then 0 else 2:=by
  rw[<-hz];by_cases h:a1i v
  ·simp[h,hr.1 h]
  ·simp[h,hr.2 h]
 clear hr hz;obtain⟨f,n⟩:=v;refine a4e (a0k AB okP e3b _ rfl fun E Sg hb hS=> ?_);cbv;refine a0v hS (bool z) (by subst hS;exact h1) ?_;cases z<;>cbv
 ·exact a6c (by rw[hr2];rfl)
 ·exact a6c (by rw[hr2];rfl)
theorem c9s (a b:VaR)(ha:0<=a.fault)(hb':0<=b.fault)(h1:a1i a)(h2:a1i b)(r:Int)(hr:r=if a=b then 0 else if vlt a b then-1 else 1):a0j AA AE 149 [a.av,b.av] (int r):=by
 have hl:=d6t a b ha hb' (decide (vlt a b)) decide_eq_true_iff h1 h2;generalize hz:decide (vlt a b)=z at hl;have hr2:r=if a=b then 0 else if z=AE then-1 else 1:=by rw[hr,<-hz];simp
 obtain⟨fa,na⟩:=a;obtain⟨fb,nb⟩:=b;simp only[VaR.eq_iff] at hr2;clear hr hz;refine a4e (a0k AB okP e3y _ rfl fun E Sg hb hS=> ?_);cbv;refine a0v hS _ hl ?_;cbv;split
 ·rename_i h;have h:fa=fb/\na=nb:=by subst hS;simpa [AS] using h
  cbv;exact a6c (by rw[hr2,if_pos h];rfl)
 ·rename_i h;have h: ¬(fa=fb/\na=nb):=by subst hS;simpa [AS] using h
  cases z<;>cbv
  ·exact a6c (by rw[hr2,if_neg h];rfl)
  ·exact a6c (by rw[hr2,if_neg h];rfl)
theorem e2y (a b:VaR)(r:Bool)(hr:r=AE↔vlt a b):a0j AA AE 79 [a.av,b.av] (bool r):=by
 obtain⟨fa,na⟩:=a;obtain⟨fb,nb⟩:=b;simp only[vlt] at hr;refine a1e (a0k AB okP g8k _ rfl fun E Sg hb hS=> ?_);cbv;split<;>cbv
 all_goals subst hS;simp[AS] at*;exact a0s (by cases r<;>simp at* <;>omega)
inductive PlR where
 |none
 |mk (look:Int) (nc:Nat) (c:Nat->VaR) (nn:Nat) (nx:Nat->PlR)
def PlR.look:PlR->Int| .none=>0| .mk l _ _ _ _=>l
def PlR.nc:PlR->Nat| .none=>0| .mk _ n _ _ _=>n
def PlR.c:PlR->Nat->VaR| .none=>fun _=>⟨0,0⟩| .mk _ _ c _ _=>c
def PlR.nn:PlR->Nat| .none=>0| .mk _ _ _ n _=>n
def PlR.nx:PlR->Nat->PlR| .none=>fun _=> .none| .mk _ _ _ _ f=>f
def d4k:List DV:=[.int .i64 (.v 0),.sl 2 0 fun _=>[],.sl 3 0 fun _=>[]]
def PlR.row:PlR->List DV
 | .none=>[.int .i64 (.v 0),.sl 2 0 fun _=>(VaR.mk 0 0).row,.sl 3 0 fun _=>d4k]
 | .mk l nc c nn nx=>[.int .i64 (.v l),.sl 2 nc fun i=>(c i).row,.sl 3 nn fun i=>if i<nn then (nx i).row else d4k]
def PlR.av:PlR->AV
 | .none=> .agg [int 0,vsl 0 fun _=>⟨0,0⟩,.d (.sl 3 0 fun _=>d4k)]
 | .mk l nc c nn nx=> .agg [int l,vsl nc c,.d (.sl 3 nn fun i=>if i<nn then (nx i).row else d4k)]
theorem PlR.rowE (q:PlR):q.row=[.int .i64 (.v q.look),.sl 2 q.nc fun j=>(q.c j).row,.sl 3 q.nn fun j=>if j<q.nn then (q.nx j).row else d4k]:=by
 cases q with
 |none=>simp[PlR.row,PlR.look,PlR.nc,PlR.c,PlR.nn]
 |mk=>rfl
theorem PlR.avE (q:PlR):q.av= .agg [int q.look,.d (.sl 2 q.nc fun j=>(q.c j).row),.d (.sl 3 q.nn fun j=>if j<q.nn then (q.nx j).row else d4k)]:=by
 cases q with
 |none=>simp[PlR.av,PlR.look,PlR.nc,PlR.c,PlR.nn,vsl]
 |mk=>rfl
theorem PlR.kids (p:PlR): ∃(lk:Nat->Int) (nc nn:Nat->Nat) (C E:Nat->Nat->List DV),(∀i,i<p.nn->(p.nx i).row=[.int .i64 (.v (lk i)),.sl 2 (nc i) (C i),.sl 3 (nn i) (E i)])/\
 (∀i,i<p.nn->(p.nx i).av= .agg [int (lk i),.d (.sl 2 (nc i) (C i)),.d (.sl 3 (nn i) (E i))])/\p.av= .agg [int p.look,vsl p.nc p.c,.d (.sl 3 p.nn fun i=>[.int .i64 (.v (lk i)),.sl 2 (nc i) (C i),.sl 3 (nn i) (E i)])]:=by
 refine⟨fun i=>if i<p.nn then (p.nx i).look else 0,fun i=>if i<p.nn then (p.nx i).nc else 0,fun i=>if i<p.nn then (p.nx i).nn else 0,fun i j=>if i<p.nn then ((p.nx i).c j).row else [],
  fun i j=>if i<p.nn then (if j<(p.nx i).nn then ((p.nx i).nx j).row else d4k) else [],fun i hi=> ?_,fun i hi=> ?_,?_⟩
 ·simp only[if_pos hi];exact PlR.rowE _
 ·simp only[if_pos hi];exact PlR.avE _
 ·rw[PlR.avE p];have:(fun j=>if j<p.nn then (p.nx j).row else d4k)=fun i=>[.int .i64 (.v (if i<p.nn then (p.nx i).look else 0)),.sl 2 (if i<p.nn then (p.nx i).nc else 0) (fun j=>if i<p.nn then ((p.nx i).c j).row else []),.sl 3 (if i<p.nn then (p.nx i).nn else 0) (fun j=>if i<p.nn then (if j<(p.nx i).nn then ((p.nx i).nx j).row else d4k) else [])]:=funext fun i=>by
   by_cases hi:i<p.nn
   ·simp only[if_pos hi];exact PlR.rowE _
   ·simp only[if_neg hi];rfl
  rw[this];rfl
def PlR.ok:PlR->Prop
 | .none=>True
 | .mk l nc c nn nx=>c5t l/\nc<=140737488355328/\nn<=140737488355328/\(∀i,i<nc->(0<=(c i).fault/\(c i).fault<=255)/\c5t (c i).n)/\ ∀i,i<nn->(nx i).ok
theorem PlR.ok_iff (p:PlR):p.ok↔c5t p.look/\p.nc<=140737488355328/\p.nn<=140737488355328/\(∀i,i<p.nc->(0<=(p.c i).fault/\(p.c i).fault<=255)/\c5t (p.c i).n)/\ ∀i,i<p.nn->(p.nx i).ok:=by
 cases p with
 |none=>exact⟨fun _=>⟨⟨by decide,by decide⟩,by decide,by decide,fun i hi=>absurd hi (AQ i),fun i hi=>absurd hi (AQ i)⟩,fun _=>trivial⟩
 |mk=>exact Iff.rfl
def b9p (f:Nat->Nat):Nat->Nat
 |0=>0
 |n+1=>b9p f n+f n
def PlR.cnt:Nat->PlR->Nat
 |0,p=>p.nc+p.nn
 |lv+1,p=>p.nc+p.nn+b9p (fun i=>PlR.cnt lv (p.nx i)) p.nn
def b2o (f:Nat->Nat):Nat->Nat
 |0=>0
 |n+1=>max (b2o f n) (f n)
theorem c0n {f:Nat->Nat}{B n:Nat}(h: ∀i,i<n->f i<=B):b2o f n<=B:=by
 induction n with
 |zero=>exact Nat.zero_le _
 |succ n ih=>have:=ih fun i hi=>h i (by omega);have:=h n (by omega);simp only[b2o];omega
def PlR.deep:Nat->PlR->Nat
 |0,_=>0
 |lv+1,p=>b2o (fun i=>1+PlR.deep lv (p.nx i)) p.nn
def PlR.good (d:Nat)(p:PlR)(b:Nat->Prop):Prop:=
 -1<=p.look/\p.look<4/\p.nn=p.nc/\(p.look= -1->p.nc=0)/\(p.look≠ -1->0<d/\0<p.nc/\ ∀i,i<p.nc->a1i (p.c i)/\(0<i->vlt (p.c (i-1)) (p.c i))/\b i)
def PlR.isP:Nat->PlR->Prop
 |0,p=>PlR.good 0 p fun _=>True
 |d+1,p=>PlR.good (d+1) p fun i=>PlR.isP d (p.nx i)
theorem b3w (lv:Nat)(l:Int)(nc nn m:Nat)(c:Nat->List DV)(lk lk':Nat->Int)(ncs nns ncs' nns':Nat->Nat)(C E C' E':Nat->Nat->List DV)(h0:lv<=6)(h1:nc<=300)(h2:nn<=300)(hm:m=if 0<lv then nn else 0)
 (hrr: ∀i,i<nn->0<lv->a0j AA AJ 82 [.agg [int (lk i),.d (.sl 2 (ncs i) (C i)),.d (.sl 3 (nns i) (E i))],int ((lv:Int)-1)] (.agg [int (lk' i),.d (.sl 2 (ncs' i) (C' i)),.d (.sl 3 (nns' i) (E' i))])):
 a0j AA AJ 82 [.agg [int l,.d (.sl 2 nc c),.d (.sl 3 nn fun i=>[.int .i64 (.v (lk i)),.sl 2 (ncs i) (C i),.sl 3 (nns i) (E i)])],int lv]
  (.agg [int l,.d (.sl 2 nc c),.d (.sl 3 m fun i=>[.int .i64 (.v (lk' i)),.sl 2 (ncs' i) (C' i),.sl 3 (nns' i) (E' i)])]):=by
 refine a0k AB okP g2w _ rfl fun E0 Sg hb hS=> ?_;have e:=b2k hS;cbv;refine a1g hS (e8l hS (show _<=_ by omega)) ?_;refine e4p AB okP hS (fun i=>i<=m) (fun i=>m-i)
  (fun i=>⟨b5r [(1,int lv),(2,.ptr 0 0),(4,.ptr 1 0),(5,.ptr 2 0),(6,int i)] 38,[.var [int l,.d (.sl 2 nc c),.d (.sl 3 nn fun i=>[.int .i64 (.v (lk i)),.sl 2 (ncs i) (C i),.sl 3 (nns i) (E i)])],.var [int 0,.d .nil,.d .nil],.var [int l,.d (.sl 2 nc c),.msl 3 3 none i AJ],.arr 3 i fun i=>[.int .i64 (.v (lk' i)),.sl 2 (ncs' i) (C' i),.sl 3 (nns' i) (E' i)]],[3]⟩)
  0 (by omega) ?_ ?_
 ·exact (b4w.gh 2 2 3 (fun _=>[]) rfl rfl).trans (b4w.le (a4c rfl ⟨AC _,AC _,AC _,AC _,a6c rfl,trivial⟩
   (.cons (.refl _) (.cons (.var (.cons (a6c rfl) (.cons (AC _) (.cons (AC _) .nil)))) (.cons (.refl _) (.cons (a9v.arrr rfl fun j hj=>by omega) (.nil _))))) (by simp;omega) (.inr rfl) rfl))
 ·intro i hi N hN;cbv;split
  ·rename_i h;have hlt:i<nn:=d3r hS h;cbv;split
   ·rename_i h;have h4:0<lv:=AK.1 (b3h hS h);have hmn:m=nn:=by rw[hm,if_pos h4]
    cbv;simp only[Aa,e.toNat,AD,AH];refine a1g hS (a9o hS (by omega)) (a1g hS (a5p hS hlt) ?_);have g4:a0j AA AJ 82 [.agg [int (lk i),.d (.sl 2 (ncs i) (C i)),.d (.sl 3 (nns i) (E i))],int (Sg.isub (AG lv) (AG 1))] (.agg [int (lk' i),.d (.sl 2 (ncs' i) (C' i)),.d (.sl 3 (nns' i) (E' i))]):=by rw[e.isub];exact hrr i hlt h4
    cbv;refine a0v hS _ g4 ?_;cbv;refine a1g hS (c3d hS) (a1g hS (c3d hS) (a1g hS trivial (a1g hS (f1i hS (by omega)) (a1g hS (e1n hS (by omega)) ?_))));exact hN (i+1) _ (by omega) (by omega) (b4w.le (a4c rfl ⟨AC _,AC _,AC _,AC _,b2s hS,trivial⟩
     (.cons (.refl _) (.cons (.refl _) (.cons (.var (.cons (AC _) (.cons (AC _) (.cons (d8n hS) .nil)))) (.cons (d7h hS (fun j hj=> .refl _) (.refl _)) (.nil _))))) (by simp;omega) (.inr rfl) rfl))
   ·rename_i h;have h4:lv<=0:=AM.1 (b3r hS h);have hin:i=m:=by rw[if_neg (by omega)] at hm;omega
    cbv;refine a1g hS (e8l hS (AU _)) ?_;subst hin;exact AC _
  ·rename_i h;have hlt:nn<=i:=d3c hS h;have hin:i=m:=by
    by_cases h4:0<lv
    ·rw[if_pos h4] at hm;omega
    ·rw[if_neg h4] at hm;omega
   cbv;refine a1g hS (e8l hS (AU _)) ?_;subst hin;exact AC _
def PlR.cut:Nat->PlR->PlR
 |0,p=> .mk p.look p.nc p.c 0 p.nx
 |lv+1,p=> .mk p.look p.nc p.c p.nn fun i=>PlR.cut lv (p.nx i)
theorem d9f {f:Nat->Nat}{n i:Nat}(h:i<n):f i<=b9p f n:=by
 induction n with
 |zero=>omega
 |succ n ih=>
  simp only[b9p];by_cases e:i=n
  ·subst e;omega
  ·have:=ih (by omega);omega
theorem PlR.cnt_ge (lv:Nat)(p:PlR):p.nc+p.nn<=PlR.cnt lv p:=by
 cases lv with
 |zero=>exact AU _
 |succ lv=>simp only[PlR.cnt];omega
theorem PlR.cnt_kid {lv:Nat}{p:PlR}{i:Nat}(h:i<p.nn):PlR.cnt lv (p.nx i)<=PlR.cnt (lv+1) p:=by have:=d9f (f:=fun i=>PlR.cnt lv (p.nx i)) h;simp only[PlR.cnt];omega
theorem c7w: ∀(lv:Nat),lv<=6-> ∀p:PlR,PlR.cnt lv p<300->a0j AA AJ 82 [p.av,int lv] (PlR.cut lv p).av:=by
 intro lv
 induction lv with
 |zero=>intro _ p hp;have:=p.cnt_ge 0;obtain⟨lk,ncs,nns,C,E,hrow,hav,hpav⟩:=p.kids;obtain⟨lk',ncs',nns',C',E',hrow',hav',hpav'⟩:=(PlR.cut 0 p).kids;rw[hpav,hpav'];exact b3w 0 p.look p.nc p.nn 0 (fun i=>(p.c i).row) lk lk' ncs nns ncs' nns' C E C' E' (by omega) (by omega) (by omega) rfl (fun i _ h=>absurd h (by omega))
 |succ lv ih=>
  intro hlv p hp;have:=p.cnt_ge (lv+1);obtain⟨lk,ncs,nns,C,E,hrow,hav,hpav⟩:=p.kids;obtain⟨lk',ncs',nns',C',E',hrow',hav',hpav'⟩:=(PlR.cut (lv+1) p).kids;rw[hpav,hpav'];have es:((lv+1:Nat):Int)-1=lv:=by omega
  refine b3w (lv+1) p.look p.nc p.nn p.nn (fun i=>(p.c i).row) lk lk' ncs nns ncs' nns' C E C' E' (by omega) (by omega) (by omega) (by rw[if_pos (by omega)]) (fun i hi _=> ?_);rw[es,<-hav i hi,<-hav' i hi];exact ih (by omega) (p.nx i) (by have:=PlR.cnt_kid (lv:=lv) hi;omega)
theorem c8y (l l':Int)(nc nn nc' nn':Nat)(c E c' E':Nat->List DV)
 (h:a0j AA AJ 82 [.agg [int l,.d (.sl 2 nc c),.d (.sl 3 nn E)],int 6] (.agg [int l',.d (.sl 2 nc' c'),.d (.sl 3 nn' E')])):
 a0j AA AJ 36 [.agg [int l,.d (.sl 2 nc c),.d (.sl 3 nn E)]] (.agg [int l',.d (.sl 2 nc' c'),.d (.sl 3 nn' E')]):=by
 refine a0k AB okP g0w _ rfl fun E0 Sg hb hS=> ?_;cbv;refine a0v hS _ h ?_;cbv;exact AC _
theorem d1z (p:PlR)(h:PlR.cnt 6 p<300):a0j AA AJ 36 [p.av] (PlR.cut 6 p).av:=by have h1:=c7w 6 (by omega) p h;rw[PlR.avE,PlR.avE] at h1⊢;exact c8y _ _ _ _ _ _ _ _ _ _ h1
def j5e (l:Int)(nc:Nat)(F M:Nat->Int)(nn:Nat)(E:Nat->List DV):AV:=
 .agg [int l,.d (.sl 2 nc fun i=>[.int .u8 (.v (F i)),.int .i64 (.v (M i))]),.d (.sl 3 nn E)]
section
variable {l:Int} {nc:Nat} {F M:Nat->Int} {nn:Nat} {E:Nat->List DV}
theorem d2m (r:Bool)(hr:r=AE↔ -1<=l/\l<4):a0j AA AE 113 [j5e l nc F M nn E] (bool r):=by
 refine a1e (a0k AB okP e4g _ rfl fun E0 Sg hb hS=> ?_);cbv;split
 ·rename_i h;have h: -1<=l:=e3n hS h;cbv;refine a0s ?_;show Sg.ilt l (AG 4)=r;rw[(b2k hS).ilt];cases r
  ·have: ¬l<4:=fun h'=>by have:=hr.2 ⟨h,h'⟩;cases this
   simpa using this
  ·simpa using (hr.1 rfl).2
 ·rename_i h;have h:l< -1:=e3g hS h;cbv;refine a0s ?_;cases r
  ·rfl
  ·have:=(hr.1 rfl).1;omega
theorem d7e (h1:nc<=1000000)(h2:nn<=1000000)(r:Bool)(hr:r=AE↔0<=l\/nc+nn=0):a0j AA AE 114 [j5e l nc F M nn E] (bool r):=by
 refine a1e (a0k AB okP e2w _ rfl fun E0 Sg hb hS=> ?_);have e:=b2k hS;cbv;split
 ·rename_i h;have h:0<=l:=e3n hS h;cbv;exact a0s (by rw[hr.2 (.inl h)])
 ·rename_i h;have h:l<0:=e3g hS h;cbv;refine a1g hS (a4p hS (by simp only[e.ofNat];omega)) ?_;refine a0s ?_;show Sg.ieq (Sg.iadd (Sg.ofNat nc) (Sg.ofNat nn)) (AG 0)=r;rw[e.ieq,e.iadd];simp only[e.ofNat];cases r
  ·have: ¬nc+nn=0:=fun h'=>by have:=hr.2 (.inr h');cases this
   simp;omega
  ·have:=hr.1 rfl;simp;omega
theorem b9x (r:Bool)(hr:r=AE↔l<0\/0<nc/\nn=nc):a0j AA AE 115 [j5e l nc F M nn E] (bool r):=by
 refine a1e (a0k AB okP e1h _ rfl fun E0 Sg hb hS=> ?_);have e:=b2k hS;cbv;split
 ·rename_i h;have h:l<0:=b3h hS h;cbv;exact a0s (by rw[hr.2 (.inl h)])
 ·rename_i h;have h:0<=l:=b3r hS h;cbv;split
  ·rename_i h;have h3:(0:Int)<Sg.ofNat nc:=b3h hS h;rw[e.ofNat] at h3;have h3:0<nc:=AK.1 h3;cbv;refine a0s ?_;show Sg.ieq (Sg.ofNat nn) (Sg.ofNat nc)=r;rw[e.ieq];simp only[e.ofNat];cases r
   ·have: ¬nn=nc:=fun h'=>by have:=hr.2 (.inr ⟨by omega,h'⟩);cases this
    simp;omega
   ·have:=hr.1 rfl;simp;omega
  ·rename_i h;have h3:Sg.ofNat nc<=(0:Int):=b3r hS h;rw[e.ofNat] at h3;have h3:nc<=0:=AM.1 h3;cbv;refine a0s ?_;cases r
   ·rfl
   ·have:=hr.1 rfl;omega
theorem c5n (h1:nc<=1000000)(h0: ∀i,i<nc->0<=F i)(r:Bool)(hr:r=AE↔ ∀i,i<nc->a1i ⟨F i,M i⟩/\(0<i->vlt ⟨F (i-1),M (i-1)⟩ ⟨F i,M i⟩)):a0j AA AE 116 [j5e l nc F M nn E] (bool r):=by
 classical
 have hck: ∀i,i<nc->a0j AA AE 145 [.agg [u8 (F i),int (M i)]] (int (if a1i ⟨F i,M i⟩ then 0 else 2)):=fun i hi=>d4i ⟨F i,M i⟩ (h0 i hi) _ ⟨fun h=>if_pos h,fun h=>if_neg h⟩;have hbf: ∀i j,i<nc->j<nc->a1i ⟨F i,M i⟩->a1i ⟨F j,M j⟩->a0j AA AE 149 [.agg [u8 (F i),int (M i)],.agg [u8 (F j),int (M j)]] (int (if (⟨F i,M i⟩:VaR)=⟨F j,M j⟩ then 0 else if vlt ⟨F i,M i⟩ ⟨F j,M j⟩ then-1 else 1)):=fun i j hi hj c1 c2=>c9s ⟨F i,M i⟩ ⟨F j,M j⟩ (h0 i hi) (h0 j hj) c1 c2 _ rfl;obtain⟨ck,hckd⟩: ∃ck:Nat->Bool,∀i,ck i=AE↔a1i ⟨F i,M i⟩:=⟨fun i=>decide _,fun i=>decide_eq_true_iff⟩;obtain⟨lt,hltd⟩: ∃lt:Nat->Nat->Bool,∀i j,lt i j=AE↔vlt ⟨F i,M i⟩ ⟨F j,M j⟩:=⟨fun i j=>decide _,fun i j=>decide_eq_true_iff⟩;simp only[<-hckd,<-hltd] at hck hbf hr;have hck2: ∀i,i<nc->ck i=AE->a0j AA AE 145 [.agg [u8 (F i),int (M i)]] (int 0):=fun i hi h=>by have:=hck i hi;rwa [if_pos h] at this
 have hck3: ∀i,i<nc->ck i=AJ->a0j AA AE 145 [.agg [u8 (F i),int (M i)]] (int 2):=fun i hi h=>by have:=hck i hi;rwa [if_neg (by rw[h];exact AF)] at this
 have irr: ∀i j,lt i j=AE-> ¬((⟨F i,M i⟩:VaR)=⟨F j,M j⟩):=fun i j h h'=>by have:=(hltd i j).1 h;simp only[VaR.mk.injEq] at h';simp only[vlt] at this;omega
 have hb2: ∀i j,i<nc->j<nc->ck i=AE->ck j=AE->lt i j=AE->a0j AA AE 149 [.agg [u8 (F i),int (M i)],.agg [u8 (F j),int (M j)]] (int (-1)):=fun i j hi hj c1 c2 h=>by
  have:=hbf i j hi hj c1 c2
  rwa [if_neg (irr i j h),if_pos h] at this
 have hb3: ∀i j,i<nc->j<nc->ck i=AE->ck j=AE->lt i j=AJ-> ∃z:Int,0<=z/\a0j AA AE 149 [.agg [u8 (F i),int (M i)],.agg [u8 (F j),int (M j)]] (int z):=fun i j hi hj c1 c2 h=>by have:=hbf i j hi hj c1 c2;rw[if_neg (c:=lt i j=AE) (by rw[h];exact AF)] at this;refine⟨_,?_,this⟩;split<;>omega
 clear hck hbf irr hckd hltd h0;refine a1e (a0k AB okP e0l _ rfl fun E0 Sg hb hS=> ?_);have e:=b2k hS;have hF:(¬ ∀i,i<nc->ck i=AE/\(0<i->lt (i-1) i=AE))->a0x (.d (.bool AJ)) (.d (.bool r)):=fun h=>by rw[<-hr] at h;exact a0s (by cases r<;>simp_all)
 have hT:(∀i,i<nc->ck i=AE/\(0<i->lt (i-1) i=AE))->a0x (.d (.bool AE)) (.d (.bool r)):=fun h=>a0s (hr.2 h).symm;cbv;refine a7r AB okP hS (fun i=>i<=nc/\ ∀j,j<i->ck j=AE/\(0<j->lt (j-1) j=AE)) (fun i=>nc-i)
  (fun i=>⟨b5r [(1,.ptr 0 0),(7,.d (.sl 2 nc fun i=>[.int .u8 (.v (F i)),.int .i64 (.v (M i))])),(8,int nc),(9,int i)] 34,[.var [int l,.d (.sl 2 nc fun i=>[.int .u8 (.v (F i)),.int .i64 (.v (M i))]),.d (.sl 3 nn E)]],[]⟩) 0 ⟨by omega,fun j hj=>absurd hj (by omega)⟩ ?_ ?_
 ·exact a4c rfl ⟨AC _,AC _,b0a (e.ofNat _),a6c rfl,trivial⟩ (.same _) (by omega) (.inr rfl) rfl
 rintro i ⟨hi,hz⟩ N hN;cbv;split
 ·rename_i h;have hlt:i<nc:=AK.1 (b3h hS h);cbv;simp only[Aa,e.toNat,AD,AH];refine a1g hS (a5p hS hlt) ?_;have c1:=hck2 i hlt;have c2:=hck3 i hlt;generalize hcz:ck i=z at c1 c2;cbv;cases z with
  |false=>
   have c2:=c2 rfl;refine a0v hS (int 2) c2 ?_;cbv;split
   ·cbv;exact hF (fun h=>by have:=(h i hlt).1;rw[hcz] at this;cases this)
   ·rename_i h;have h:AG 2=AG 0:=e8o hS h;cbv;exact absurd h (by decide)
  |true=>
   have c1:=c1 rfl;refine a0v hS (int 0) c1 ?_;cbv;split
   ·rename_i h;have h:AG 0≠AG 0:=e8q hS h;cbv;exact absurd rfl h
   cbv;split
   ·rename_i h;have h11:0<i:=AK.1 (b3h hS h);cbv;have e1:Sg.toNat (Sg.isub (AG i) (AG 1))=i-1:=by rw[e.isub,e.toNat];simp only[AD];omega
    simp only[Aa,e1];refine a1g hS (a9o hS (by simp only[AD];omega)) ?_;refine a1g hS (d4s hS (by simp only[AD];omega)) ?_;have d1:=(hz (i-1) (by omega)).1;have b2:=hb2 (i-1) i (by omega) hlt d1 hcz;have b3:=hb3 (i-1) i (by omega) hlt d1 hcz;generalize hlz:lt (i-1) i=y at b2 b3;cbv;cases y with
    |false=>
     obtain⟨z,hz0,b3⟩:=b3 rfl;refine a0v hS (int z) b3 ?_;cbv;split
     ·cbv;exact hF (fun h=>by have:=(h i hlt).2 h11;rw[hlz] at this;cases this)
     ·rename_i h;have h:z<0:=e3g hS h;cbv;exact absurd hz0 (by omega)
    |true=>
     have b2:=b2 rfl;refine a0v hS (int (-1)) b2 ?_;cbv;split
     ·rename_i h;have h:(0:Int)<= -1:=e3n hS h;cbv;exact absurd h (by omega)
     cbv;refine a1g hS (a4p hS (by simp only[AD];omega)) ?_;exact hN (i+1) _ ⟨by omega,fun j hj=>by
      by_cases e:j=i
      ·rw[e];exact⟨hcz,fun h=>hlz⟩
      ·exact hz j (by omega)⟩ (by omega) (a4c rfl ⟨AC _,AC _,AC _,b2s hS,trivial⟩ (.cons (.refl _) (.nil _)) (by omega) (.inl ⟨rfl,rfl⟩) rfl)
   ·rename_i h;have h11:i<=0:=AM.1 (b3r hS h);cbv;refine a1g hS (a4p hS (by simp only[AD];omega)) ?_;exact hN (i+1) _ ⟨by omega,fun j hj=>by
     by_cases e:j=i
     ·rw[e];exact⟨hcz,fun h=>absurd h (by omega)⟩
     ·exact hz j (by omega)⟩ (by omega) (a4c rfl ⟨AC _,AC _,AC _,b2s hS,trivial⟩ (.cons (.refl _) (.nil _)) (by omega) (.inl ⟨rfl,rfl⟩) rfl)
 ·rename_i h;have hlt:nc<=i:=AM.1 (b3r hS h);cbv;exact hT fun j hj=>hz j (by omega)
end
def fkr (g:AP):DV:= .raw (.func (.func g) #[] #[])
section
variable {l:Int} {nc:Nat} {F M:Nat->Int} {nn:Nat} {E:Nat->List DV}
def plO (l:Int)(nc:Nat)(F M:Nat->Int)(nn:Nat)(E:Nat->List DV):a0f:=
 .var [int l,.d (.sl 2 nc fun i=>[.int .u8 (.v (F i)),.int .i64 (.v (M i))]),.d (.sl 3 nn E)]
def plH (l:Int)(nc:Nat)(F M:Nat->Int)(nn:Nat)(E:Nat->List DV):List a0f:=
 [plO l nc F M nn E,.var [.fn 118 [] [.ptr 0 0]]]
theorem d4a (g:AP)(z:Bool)(h:a0j AA AE g [j5e l nc F M nn E] (bool z)):
 a1h AA 118 [.agg [.d (fkr g)],.ptr 0 0] [plO l nc F M nn E,.var [.fn 118 [] [.ptr 0 0]],.var [.d (fkr g)]] (ro [plO l nc F M nn E,.var [.fn 118 [] [.ptr 0 0]],.var [.d (fkr g)]] (bool z)):=by
 refine a2y AB okP e2c _ rfl fun E0 Sg hb hS=> ?_;simp only[AN,AO] at hb;cbv;refine a3v hS (a1h.of_pure (h:=[plO l nc F M nn E,.var [.fn 118 [] [.ptr 0 0]],.var [.d (fkr g)],.var [.d (fkr g)]]) rfl h) ?_;cbv;exact a2s (a0s rfl) (.cons (.refl _) (.cons (.refl _) (.cons (.refl _) (.nil _)))) (.inl ⟨rfl,rfl⟩)
theorem e3i (g:AP)(z:Bool)(h:a0j AA AE g [j5e l nc F M nn E] (bool z)):
 a1h AA 151 [.agg [.d (fkr g)],.ptr 1 0] (plH l nc F M nn E) (ro (plH l nc F M nn E) (bool (!z))):=by
 have h1:=d4a g z h;refine a2y AB okP e2j _ rfl fun E0 Sg hb hS=> ?_;simp only[plH,AN,AO] at hb;cbv;refine a3v hS h1 ?_;cases z<;>cbv<;>exact a2s (a0s rfl) (.cons (.refl _) (.cons (.refl _) (.nil _))) (.inl ⟨rfl,rfl⟩)
theorem c6s {n:Nat}(hn:n<=1000000)(gs:Nat->AP)(H:List a0f)(gid:AP)(a:Nat)(p:Nat->Bool)
 (hp: ∀i,i<n->a1h AA gid [.agg [.d (fkr (gs i))],.ptr a 0] H (ro H (bool (p i)))) (r:Int) (hr:a6z n p r):
 a1h AA 187 [.d (.sl 1 n fun i=>[fkr (gs i)]),.fn gid [] [.ptr a 0]] H (ro H (int r)):=by
 refine a2y AB okP e3p _ rfl fun E0 Sg hb hS=> ?_;have e:=b2k hS;cbv;refine a7r AB okP hS (fun i=>i<=n/\ ∀j,j<i->p j=AJ) (fun i=>n-i)
  (fun i=>⟨b5r [(0,.d (.sl 1 n fun i=>[fkr (gs i)])),(1,.fn gid [] [.ptr a 0]),(7,int n),(8,int i)] 19,H,[]⟩) 0 ⟨by omega,by omega⟩ ?_ ?_
 ·exact a4c rfl ⟨AC _,AC _,b0a (e.ofNat _),a6c rfl,trivial⟩ (.same _) (by omega) (.inr rfl) rfl
 ·intro i hi N hN;have hin:=hp i;clear hp;cbv;split
  ·rename_i h;have hlt:i<n:=AK.1 (b3h hS h);cbv;have hin:=hin hlt;generalize hz:p i=z at hin;simp only[Aa,e.toNat,AD,AH];refine a1g hS (a5p hS hlt) ?_;refine a3v hS (r:=bool z) hin ?_;cases z
   ·cbv;refine a1g hS (a4p hS (by simp only[AD];omega)) ?_;refine hN (i+1) _ ⟨by omega,fun j hj=> ?_⟩ (by omega) (a4c rfl ⟨AC _,AC _,AC _,b2s hS,trivial⟩ (.same _) (by omega) (.inr rfl) rfl);by_cases e:j=i
    ·subst e;exact hz
    ·exact hi.2 j (by omega)
   ·cbv;exact a2s (b0a (hr.2 i hlt hz hi.2).symm) (.same _) (.inr rfl)
  ·rename_i h;have hni:n<=i:=AM.1 (b3r hS h);cbv;exact a2s (a6c (hr.1 fun j hj=>hi.2 j (by omega)).symm) (.same _) (.inr rfl)
theorem b7x {n:Nat}(hn:n<=1000000)(gs:Nat->AP)(H:List a0f)(gid:AP)(a:Nat)(p:Nat->Bool)
 (hp: ∀i,i<n->a1h AA gid [.agg [.d (fkr (gs i))],.ptr a 0] H (ro H (bool (p i)))) (r:Bool) (hr:r=AE↔ ∃i,i<n/\p i=AE):
 a1h AA 150 [.d (.sl 1 n fun i=>[fkr (gs i)]),.fn gid [] [.ptr a 0]] H (ro H (bool r)):=by
 obtain⟨z,hz,hz1,hz2⟩: ∃z,a6z n p z/\(0<=z-> ∃i,i<n/\p i=AE)/\((∃i,i<n/\p i=AE)->0<=z):=a9i n p;have hin:=c6s hn gs H gid a p hp z hz;have hzr:decide (0<=z)=r:=by
  by_cases h:0<=z
  ·rw[decide_eq_true h];exact (hr.2 (hz1 h)).symm
  ·rw[decide_eq_false h];cases r
   ·rfl
   ·exact absurd (hz2 (hr.1 rfl)) h
 clear hp hz hz1 hz2 hr;refine a2y AB okP e0u _ rfl fun E Sg hb hS=> ?_;cbv;refine a3v hS hin ?_;cbv;exact a2s (a0s (((b2k hS).ile _ _).trans hzr)) (.same _) (.inr rfl)
theorem e4x {n:Nat}(hn:n<=1000000)(gs:Nat->AP)(b:Nat->Bool)(h: ∀i,i<n->a0j AA AE (gs i) [j5e l nc F M nn E] (bool (b i)))(r:Bool)(hr:r=AE↔ ∀i,i<n->b i=AE):
 a1h AA 117 [.d (.sl 1 n fun i=>[fkr (gs i)]),.fn 118 [] [.ptr 0 0]] [plO l nc F M nn E] (ro [plO l nc F M nn E] (bool r)):=by
 have hin:=b7x hn gs (plH l nc F M nn E) 151 1 (fun i=>!b i) (fun i hi=>e3i (gs i) (b i) (h i hi)) (!r) (by
  cases r
  ·simp only[AY,true_iff];have hr: ¬ ∀i,i<n->b i=AE:=fun h=>AF (hr.2 h);exact AI fun h=>hr fun i hi=>by
    cases hb:b i
    ·exact absurd ⟨i,hi,by rw[hb];rfl⟩ h
    ·rfl
  ·simp only[AZ,AW,false_iff];rintro⟨i,hi,h⟩;rw[hr.1 rfl i hi] at h;exact AF h)
 clear hr h;refine a2y AB okP e2b _ rfl fun E0 Sg hb hS=> ?_;simp only[AN,AO] at hb;cbv;refine a3v hS hin ?_;cases r<;>cbv<;>exact a2s (a0s rfl) (.cons (.refl _) (.nil _)) (.inl ⟨rfl,rfl⟩)
theorem d8w (b0 b1 b2 b3:Bool)(h0:a0j AA AE 113 [j5e l nc F M nn E] (bool b0))(h1:a0j AA AE 114 [j5e l nc F M nn E] (bool b1))(h2:a0j AA AE 115 [j5e l nc F M nn E] (bool b2))(h3:a0j AA AE 116 [j5e l nc F M nn E] (bool b3))(r:Bool)(hr:r=(b0&&b1&&b2&&b3)):
 a1h AA 117 [.d (.sl 1 4 (AT [[fkr 113],[fkr 114],[fkr 115],[fkr 116]])),.fn 118 [] [.ptr 0 0]] [plO l nc F M nn E] (ro [plO l nc F M nn E] (bool r)):=by
 have:=e4x (l:=l) (nc:=nc) (F:=F) (M:=M) (nn:=nn) (E:=E) (n:=4) (by omega) (fun i=>match i with|0=>113|1=>114|2=>115|_=>116) (fun i=>match i with|0=>b0|1=>b1|2=>b2|_=>b3) (fun i hi=>by
  match i,hi with
  |0,_=>exact h0
  |1,_=>exact h1
  |2,_=>exact h2
  |3,_=>exact h3) r (by
  subst hr;simp only[AX];constructor
  ·rintro⟨⟨⟨a0,a1⟩,a2⟩,a3⟩ i hi
   match i,hi with
   |0,_=>exact a0
   |1,_=>exact a1
   |2,_=>exact a2
   |3,_=>exact a3
  ·exact fun h=>⟨⟨⟨h 0 (by omega),h 1 (by omega)⟩,h 2 (by omega)⟩,h 3 (by omega)⟩)
 refine a1h.like (.cons (a0x.sl' rfl fun i hi=> ?_) (.cons (.refl _) .nil)) this
 match i,hi with
 |0,_=>rfl
 |1,_=>rfl
 |2,_=>rfl
 |3,_=>rfl
end
theorem d3f (lv:Nat)(hlv:lv<=4)(l:Int)(nc:Nat)(F M:Nat->Int)(nn:Nat)(lk:Nat->Int)(ncs nns:Nat->Nat)(C E:Nat->Nat->List DV)(hnc:nc<=1000000)(hnn:nn<=1000000)(h0: ∀i,i<nc->0<=F i)
 (ca:Bool) (hca:ca=AE↔ ∀i,i<nc->a1i ⟨F i,M i⟩/\(0<i->vlt ⟨F (i-1),M (i-1)⟩ ⟨F i,M i⟩))
 (ck:Bool) (hck:ck=(decide (-1<=l/\l<4)&&decide (0<=l\/nc+nn=0)&&decide (l<0\/0<nc/\nn=nc)&&ca))
 (dd:Nat->Nat) (zz:Nat->Bool) (hrr: ∀i,i<nn->0<lv->a0j AA AE 83 [.agg [int (lk i),.d (.sl 2 (ncs i) (C i)),.d (.sl 3 (nns i) (E i))],int ((lv:Int)-1)] (.tuple [int (dd i),bool (zz i)])/\dd i<=4)
 (r:Nat) (z:Bool) (hz:z=AE↔ck=AE/\(l<0\/0<lv/\ ∀i,i<nn->zz i=AE)) (hr:r=if z=AE then (if l<0 then 0 else b2o dd nn+1) else 0):
 a0j AA AE 83 [j5e l nc F M nn fun i=>[.int .i64 (.v (lk i)),.sl 2 (ncs i) (C i),.sl 3 (nns i) (E i)],int lv] (.tuple [int r,bool z]):=by
 have q:=d8w (l:=l) (nc:=nc) (F:=F) (M:=M) (nn:=nn) (E:=fun i=>[.int .i64 (.v (lk i)),.sl 2 (ncs i) (C i),.sl 3 (nns i) (E i)]) _ _ _ ca (d2m _ decide_eq_true_iff) (d7e hnc hnn _ decide_eq_true_iff) (b9x _ decide_eq_true_iff) (c5n hnc h0 ca hca) ck hck;clear hca hck h0;obtain⟨G,hG⟩: ∃G:Nat->Nat,∀i,G i=b2o dd i:=⟨_,fun _=>rfl⟩;have hG0:G 0=0:=hG 0;have hGs: ∀i,G (i+1)=max (G i) (dd i):=fun i=>by rw[hG,hG,b2o]
 have hGb: ∀i,i<=nn->0<lv->G i<=4:=fun i hi h=>by rw[hG];exact c0n fun j hj=>(hrr j (by omega) h).2
 rw[<-hG] at hr;clear hG;refine b4i (fun x hx=>by simp at hx;rcases hx with rfl|rfl<;>trivial) (a0k AB okP f5l _ rfl fun E0 Sg hb hS=> ?_);have e:=b2k hS;cbv;refine a3v hS q ?_;have hFz:z=AJ->a0x (.tuple [.d (.int .i64 (.l (AG 0))),bool AJ]) (.tuple [int r,bool z]):=fun h=>by rw[h] at hr;exact AR (.cons (a6c (by rw[hr];rfl)) (.cons (a0s h.symm) .nil))
 have hTz: ∀k:Int,z=AE->(k=if l<0 then (0:Int) else (G nn:Int)+1)->a0x (.tuple [int k,bool AE]) (.tuple [int r,bool z]):=fun k h hk=>by rw[if_pos h] at hr;refine AR (.cons (b0a ?_) (.cons (a0s h.symm) .nil));rw[hr,hk];split<;>rfl
 cases ck with
 |false=>
  have hz':z=AJ:=by
   cases z
   ·rfl
   ·exact absurd (hz.1 rfl).1 AF
  cbv;exact hFz hz'
 |true=>
  cbv;split
  ·rename_i h;have h5:l<0:=b3h hS h;cbv;have h6:=hz.2 ⟨rfl,.inl h5⟩;rw[if_pos h6,if_pos h5] at hr;exact AR (.cons (a6c (by rw[hr])) (.cons (a0s h6.symm) .nil))
  rename_i h;have h5:0<=l:=b3r hS h;cbv;split
  ·rename_i h;have h6:lv=0:=by have:(lv:Int)=0:=e2h hS h;omega
   have hz':z=AJ:=by
    cases z
    ·rfl
    ·have:=(hz.1 rfl).2;omega
   cbv;exact hFz hz'
  rename_i h;have h6:0<lv:=by have:(lv:Int)≠0:=c8k hS h;omega
  cbv;refine a7r AB okP hS (fun i=>i<=nn/\ ∀j,j<i->zz j=AE) (fun i=>nn-i)
   (fun i=>⟨b5r [(1,int lv),(2,.ptr 0 0),(4,int (G i)),(28,.d (.sl 3 nn fun i=>[.int .i64 (.v (lk i)),.sl 2 (ncs i) (C i),.sl 3 (nns i) (E i)])),(29,int nn),(30,int i)] 50,[plO l nc F M nn fun i=>[.int .i64 (.v (lk i)),.sl 2 (ncs i) (C i),.sl 3 (nns i) (E i)]],[]⟩) 0 ⟨by omega,by omega⟩ ?_ ?_
  ·exact a4c rfl ⟨AC _,AC _,a6c (by rw[hG0];rfl),AC _,b0a (e.ofNat _),a6c rfl,trivial⟩ (.same _) (by omega) (.inr rfl) rfl
  rintro i ⟨hi,hj⟩ N hN;cbv;split
  ·rename_i h;have hlt:i<nn:=AK.1 (b3h hS h);cbv;simp only[Aa,e.toNat,AD,AH];refine a1g hS (a5p hS hlt) ?_;refine a1g hS (a9o hS (by omega)) ?_;obtain⟨g1,g2⟩:=hrr i hlt h6;have g4:a0j AA AE 83 [.agg [int (lk i),.d (.sl 2 (ncs i) (C i)),.d (.sl 3 (nns i) (E i))],int (Sg.isub (AG lv) (AG 1))] (.tuple [int (dd i),bool (zz i)]):=by rw[e.isub];exact g1
   generalize hzi:zz i=y at g4;cbv;refine a0v hS _ g4 ?_;cases y with
   |false=>
    have hz':z=AJ:=by
     cases z
     ·rfl
     ·have:=(hz.1 rfl).2;rcases this with h|h
      ·omega
      ·have:=h.2 i hlt;rw[hzi] at this;cases this
    cbv;exact hFz hz'
   |true=>
    have em:Sg.isel (Sg.ilt (AG (G i)) (AG (dd i))) (AG (dd i)) (AG (G i))=((G (i+1):Nat):Int):=by rw[e.ilt,e.isel,hGs];simp only[AD,decide_eq_true_eq];split<;>omega
    cbv;refine a1g hS (a4p hS (by simp only[AD];omega)) ?_;exact hN (i+1) _ ⟨by omega,fun j hj'=>by
     by_cases e:j=i
     ·rw[e];exact hzi
     ·exact hj j (by omega)⟩ (by omega) (a4c rfl ⟨AC _,AC _,b0a em,AC _,AC _,b2s hS,trivial⟩ (.cons (.refl _) (.nil _)) (by omega) (.inl ⟨rfl,rfl⟩) rfl)
  ·rename_i h;have hlt:nn<=i:=AM.1 (b3r hS h);have hin:i=nn:=by omega
   have hgb:=hGb i hi h6;cbv;refine a1g hS (a4p hS (by simp only[AD];omega)) ?_;subst hin;exact hTz _ (hz.2 ⟨rfl,.inr ⟨h6,hj⟩⟩) (by rw[if_neg (by omega)];exact e.iadd _ _)
def PlR.slim:Nat->PlR->Prop
 |0,p=>p.nc<=300/\p.nn<=300
 |lv+1,p=>p.nc<=300/\p.nn<=300/\ ∀i,i<p.nn->PlR.slim lv (p.nx i)
theorem PlR.slim_cut: ∀(k:Nat) (p:PlR),PlR.cnt k p<300-> ∀lv,PlR.slim lv (PlR.cut k p):=by
 intro k
 induction k with
 |zero=>
  intro p h lv;have:=p.cnt_ge 0;cases lv with
  |zero=>exact⟨show p.nc<=300 by omega,show 0<=300 by omega⟩
  |succ lv=>exact⟨show p.nc<=300 by omega,show 0<=300 by omega,fun i hi=>absurd hi (AQ i)⟩
 |succ k ih=>
  intro p h lv;have:=p.cnt_ge (k+1);cases lv with
  |zero=>exact⟨show p.nc<=300 by omega,show p.nn<=300 by omega⟩
  |succ lv=>exact⟨show p.nc<=300 by omega,show p.nn<=300 by omega,fun i hi=>ih (p.nx i) (by have:=PlR.cnt_kid (lv:=k) (p:=p) hi;omega) lv⟩
theorem PlR.ok_cut: ∀(k:Nat) (p:PlR),p.ok->(PlR.cut k p).ok:=by
 intro k
 induction k with
 |zero=>intro p h;obtain⟨a,b,c,d,e⟩:=p.ok_iff.1 h;exact (PlR.ok_iff _).2 ⟨a,b,show 0<=140737488355328 by omega,d,fun i hi=>absurd hi (AQ i)⟩
 |succ k ih=>intro p h;obtain⟨a,b,c,d,e⟩:=p.ok_iff.1 h;exact (PlR.ok_iff _).2 ⟨a,b,c,d,fun i hi=>ih (p.nx i) (e i hi)⟩
theorem PlR.isP_cut: ∀(d k:Nat) (p:PlR),d<k->((PlR.cut k p).isP d↔p.isP d):=by
 intro d
 induction d with
 |zero=>
  intro k p h;cases k with
  |zero=>omega
  |succ k=>exact Iff.rfl
 |succ d ih=>
  intro k p h;cases k with
  |zero=>omega
  |succ k=>simp only[PlR.isP,PlR.good];have: ∀i,((PlR.cut (k+1) p).nx i).isP d↔(p.nx i).isP d:=fun i=>ih k (p.nx i) (by omega);simp only[this];exact Iff.rfl
theorem c9u {f g:Nat->Nat}{n:Nat}(h: ∀i,i<n->f i=g i):b2o f n=b2o g n:=by
 induction n with
 |zero=>rfl
 |succ n ih=>rw[b2o,b2o,ih fun i hi=>h i (by omega),h n (by omega)]
theorem d3y {f:Nat->Nat}{n:Nat}(h:0<n):b2o (fun i=>1+f i) n=b2o f n+1:=by
 induction n with
 |zero=>omega
 |succ n ih=>
  simp only[b2o];cases n with
  |zero=>simp only[b2o];omega
  |succ n=>have:=ih (by omega);omega
theorem PlR.deep_cut: ∀(d k:Nat) (p:PlR),d<=k->PlR.deep d (PlR.cut k p)=PlR.deep d p:=by
 intro d
 induction d with
 |zero=>intro k p h;rfl
 |succ d ih=>
  intro k p h;cases k with
  |zero=>omega
  |succ k=>
   simp only[PlR.deep];exact c9u fun i hi=>by rw[show (PlR.cut (k+1) p).nx i=PlR.cut k (p.nx i) from rfl,ih k (p.nx i) (by omega)]
theorem PlR.parts (p:PlR)(E:Nat->List DV)(h:p.av= .agg [int p.look,vsl p.nc p.c,.d (.sl 3 p.nn E)]):p.av=j5e p.look p.nc (fun i=>(p.c i).fault) (fun i=>(p.c i).n) p.nn E:=h
theorem c1u (lv:Nat)(hlv:lv<=4)(p:PlR)(hp:p.ok)(h1:p.nc<=300)(h2:p.nn<=300)(dd:Nat->Nat)(zz:Nat->Bool)
 (hrr: ∀i,i<p.nn->0<lv->a0j AA AE 83 [(p.nx i).av,int ((lv:Int)-1)] (.tuple [int (dd i),bool (zz i)])/\dd i<=4)
 (r:Nat) (z:Bool) (hz:z=AE↔p.good lv fun i=>zz i=AE) (hr:r=if z=AE then (if p.look<0 then 0 else b2o dd p.nn+1) else 0):
 a0j AA AE 83 [p.av,int lv] (.tuple [int r,bool z]):=by
 classical
 obtain⟨lk,ncs,nns,C,E,hrow,hav,hpav⟩:=p.kids;obtain⟨_,_,_,hc0,_⟩:=p.ok_iff.1 hp;rw[p.parts _ hpav];simp+contextual only[hav] at hrr;refine d3f lv hlv p.look p.nc (fun i=>(p.c i).fault) (fun i=>(p.c i).n) p.nn lk ncs nns C E (by omega) (by omega) (fun i hi=>(hc0 i hi).1.1) _ decide_eq_true_iff _ rfl dd zz hrr r z ?_ hr;rw[hz];simp only[PlR.good,AX,decide_eq_true_eq];constructor
 ·rintro⟨a1,a2,a3,a4,a5⟩;by_cases h:p.look= -1
  ·have h0:=a4 h;exact⟨⟨⟨⟨⟨a1,a2⟩,.inr (by omega)⟩,.inl (by omega)⟩,fun i hi=>absurd hi (by omega)⟩,.inl (by omega)⟩
  ·obtain⟨b1,b2,b3⟩:=a5 h;exact⟨⟨⟨⟨⟨a1,a2⟩,.inl (by omega)⟩,.inr ⟨b2,a3⟩⟩,fun i hi=>⟨(b3 i hi).1,(b3 i hi).2.1⟩⟩,.inr ⟨b1,fun i hi=>(b3 i (by omega)).2.2⟩⟩
 ·rintro⟨⟨⟨⟨⟨a1,a2⟩,b⟩,c⟩,d⟩,e⟩;by_cases h:p.look= -1
  ·have h0:p.nc+p.nn=0:=by omega
   exact⟨a1,a2,by omega,fun _=>by omega,fun h'=>absurd h h'⟩
  ·have hl: ¬p.look<0:=by omega
   obtain⟨c1,c2⟩:=c.resolve_left hl;obtain⟨e1,e2⟩:=e.resolve_left hl;exact⟨a1,a2,c2,fun h'=>absurd h' h,fun _=>⟨e1,c1,fun i hi=>⟨(d i hi).1,(d i hi).2,e2 i (by omega)⟩⟩⟩
theorem d8m: ∀(lv:Nat),lv<=4-> ∀p:PlR,p.ok->PlR.slim lv p-> ∀(r:Nat) (z:Bool),(z=AE↔p.isP lv)->(r=if z=AE then PlR.deep (lv+1) p else 0)->a0j AA AE 83 [p.av,int lv] (.tuple [int r,bool z])/\r<=lv:=by
 classical
 intro lv
 induction lv with
 |zero=>
  intro _ p hp hs r z hz hr;have hr0:r=0:=by
   rw[hr];split
   ·rename_i h;obtain⟨a1,a2,a3,a4,a5⟩:=hz.1 h;by_cases h:p.look= -1
    ·have h0:=a4 h;simp only[PlR.deep];rw[show p.nn=0 by omega];rfl
    ·exact absurd (a5 h).1 (by omega)
   ·rfl
  refine⟨c1u 0 (by omega) p hp hs.1 hs.2 (fun _=>0) (fun _=>AE) (fun i _ h=>absurd h (by omega)) r z ?_ ?_,by omega⟩
  ·rw[hz];simp only[PlR.isP,PlR.good]
  ·rw[hr0];split
   ·rename_i h;obtain⟨a1,a2,a3,a4,a5⟩:=hz.1 h;by_cases h:p.look= -1
    ·rw[if_pos (by omega)]
    ·exact absurd (a5 h).1 (by omega)
   ·rfl
 |succ lv ih=>
  intro hlv p hp hs r z hz hr;obtain⟨_,_,_,_,h4⟩:=p.ok_iff.1 hp;have es:((lv+1:Nat):Int)-1=lv:=by omega
  have kid:=fun i (hi:i<p.nn)=>ih (by omega) (p.nx i) (h4 i hi) (hs.2.2 i hi) (if (p.nx i).isP lv then PlR.deep (lv+1) (p.nx i) else 0) (decide ((p.nx i).isP lv)) decide_eq_true_iff (by simp only[decide_eq_true_eq]);have hd:z=AE->r=if p.look<0 then 0 else b2o (fun i=>if (p.nx i).isP lv then PlR.deep (lv+1) (p.nx i) else 0) p.nn+1:=fun h=>by
   rw[if_pos h] at hr;obtain⟨a1,a2,a3,a4,a5⟩:=hz.1 h;rw[hr,PlR.deep];by_cases h:p.look= -1
   ·have h0:=a4 h;rw[if_pos (by omega),show p.nn=0 by omega];rfl
   ·obtain⟨b1,b2,b3⟩:=a5 h;rw[if_neg (by omega),d3y (by omega)];congr 1;exact c9u fun i hi=>by rw[if_pos (b3 i (by omega)).2.2]
  have hr2:r=if z=AE then (if p.look<0 then 0 else b2o (fun i=>if (p.nx i).isP lv then PlR.deep (lv+1) (p.nx i) else 0) p.nn+1) else 0:=by
   by_cases h:z=AE
   ·rw[if_pos h];exact hd h
   ·rw[if_neg h] at hr⊢;exact hr
  refine⟨c1u (lv+1) hlv p hp hs.1 hs.2.1 _ _ (fun i hi _=>by rw[es];exact⟨(kid i hi).1,by have:=(kid i hi).2;omega⟩) r z ?_ hr2,?_⟩
  ·rw[hz];simp only[PlR.isP,decide_eq_true_eq]
  ·rw[hr2];split
   ·split
    ·omega
    ·have:=c0n (f:=fun i=>if (p.nx i).isP lv then PlR.deep (lv+1) (p.nx i) else 0) (B:=lv) (n:=p.nn) fun i hi=>(kid i hi).2;omega
   ·omega
theorem i7e {ns no:Nat}(sz od:Nat->Int)(d:DiR)(hd:d.ns<=1000000/\d.no<=1000000)(r:Bool)(hr:r=AE↔L d.ns d.sz=L ns sz/\L d.no d.od=L no od):
 a0j AA AE 135 [.agg [isl ns sz,isl no od],d.av] (bool r):=by
 obtain⟨z,hz⟩: ∃z:Bool,z=AE↔L d.ns d.sz=L ns sz:=by classical exact⟨decide _,decide_eq_true_iff⟩
 obtain⟨z2,hz2⟩: ∃z:Bool,z=AE↔L d.no d.od=L no od:=by classical exact⟨decide _,decide_eq_true_iff⟩
 have h1:=h4z hd.1 d.sz sz z hz;have h2:=h4z hd.2 d.od od z2 hz2;rw[<-hz,<-hz2] at hr;clear hz hz2 hd;obtain⟨ns',sz',no',od',ne,en,nn,var,nk,kid,root⟩:=d;refine a1e (a0k AB okP f2g _ rfl fun E Sg hb hS=> ?_);cbv;refine a0v hS (bool z) (by subst hS;exact h1) ?_;cases z
 ·cbv;exact e8z hr fun h=>AF h.1
 cbv;refine a0v hS (bool z2) (by subst hS;exact h2) ?_;cbv;refine a0s ?_;cases r<;>cases z2<;>simp at hr⊢
theorem j5l {n:Nat}(hn:n<=1000000)(l:Nat->DiR)(H:List a0f)(gid:AP)(a:Nat)(p:Nat->Bool)
 (hp: ∀i,i<n->a1h AA gid [(l i).av,.ptr a 0] H (ro H (bool (p i)))) (r:Int) (hr:a6z n p r):
 a1h AA 205 [dsl n l,.fn gid [] [.ptr a 0]] H (ro H (int r)):=by
 refine a2y AB okP e9r _ rfl fun E Sg hb hS=> ?_;have ett: ∀z,Sg.toNat z=z.toNat:=by subst hS;exact fun _=>rfl
 cbv;refine a7r AB okP hS (fun i=>i<=n/\ ∀j,j<i->p j=AJ) (fun i=>n-i)
  (fun i=>⟨b5r [(0,dsl n l),(1,.fn gid [] [.ptr a 0]),(7,int n),(8,int i)] 19,H,[]⟩) 0 ⟨by omega,by omega⟩ ?_ ?_
 ·exact a4c rfl ⟨AC _,AC _,b0a (by subst hS;rfl),a6c rfl,trivial⟩ (.same _) (by omega) (.inr rfl) rfl
 ·intro i hi N hN;have hin:=hp i;clear hp;cbv;split
  ·cbv;have hlt:i<n:=by clear hin hN hr;subst hS;simp[AS] at*;omega
   have hin:=hin hlt;generalize hz:p i=z at hin;refine a1g hS (by clear hin hN hr;subst hS;simp[AS];omega) ?_;simp only[Aa,ett,AD,AH];refine a3v hS (r:=bool z) (by subst hS;exact hin) ?_;cases z
   ·cbv;refine a1g hS (by clear hin hN hr;subst hS;exact b6g (by simp[AS];omega) (by simp[AS];omega)) ?_;refine hN (i+1) _ ⟨by omega,fun j hj=> ?_⟩ (by omega) (a4c rfl ⟨AC _,AC _,AC _,b0a ?_,trivial⟩ (.same _) (by omega) (.inr rfl) rfl)
    ·by_cases e:j=i
     ·subst e;exact hz
     ·exact hi.2 j (by omega)
    ·clear hin hN hr;subst hS;simp[AS]
   ·cbv;exact a2s (b0a (hr.2 i hlt hz hi.2).symm) (.same _) (.inr rfl)
  ·have hni:n<=i:=by clear hin hN hr;subst hS;simp[AS] at*;omega
   cbv;exact a2s (a6c (hr.1 fun j hj=>hi.2 j (by omega)).symm) (.same _) (.inr rfl)
theorem j4z {n:Nat}(hn:n<=1000000)(l:Nat->DiR)(H:List a0f)(gid:AP)(a:Nat)(p:Nat->Bool)
 (hp: ∀i,i<n->a1h AA gid [(l i).av,.ptr a 0] H (ro H (bool (p i)))) (r:Bool) (hr:r=AE↔ ∃i,i<n/\p i=AE):
 a1h AA 174 [dsl n l,.fn gid [] [.ptr a 0]] H (ro H (bool r)):=by
 obtain⟨z,hz,hz1,hz2⟩: ∃z,a6z n p z/\(0<=z-> ∃i,i<n/\p i=AE)/\((∃i,i<n/\p i=AE)->0<=z):=a9i n p;have hin:=j5l hn l H gid a p hp z hz;have hzr:0<=z↔r=AE:=⟨fun h=>hr.2 (hz1 h),fun h=>hz2 (hr.1 h)⟩;clear hp hz hz1 hz2 hr;refine a2y AB okP e8e _ rfl fun E Sg hb hS=> ?_;cbv;refine a3v hS hin ?_;cbv;refine a2s (a0s ?_) (.same _) (.inr rfl);clear hin;subst hS;simp[AS];cases r
 ·simp at hzr⊢;omega
 ·simpa using hzr
theorem i1n {n:Nat}(hn:n<=1000000)(l:Nat->DiR)(H':List a0f)(gid:AP)(a:Nat)(p:Nat->Bool)
 (hp: ∀i,i<n->a1h AA gid [(l i).av,.ptr a 0] (.arr 5 n (fun i=>(l i).row)::H') (ro (.arr 5 n (fun i=>(l i).row)::H') (bool (p i)))) (r:Int) (hr:a6z n p r):
 a1h AA 205 [.msl 0 5 none n AJ,.fn gid [] [.ptr a 0]] (.arr 5 n (fun i=>(l i).row)::H') (ro (.arr 5 n (fun i=>(l i).row)::H') (int r)):=by
 refine a2y AB okP e9r _ rfl fun E Sg hb hS=> ?_;have ett: ∀z,Sg.toNat z=z.toNat:=by subst hS;exact fun _=>rfl
 cbv;refine a7r AB okP hS (fun i=>i<=n/\ ∀j,j<i->p j=AJ) (fun i=>n-i)
  (fun i=>⟨b5r [(0,.msl 0 5 none n AJ),(1,.fn gid [] [.ptr a 0]),(7,int n),(8,int i)] 19,.arr 5 n (fun i=>(l i).row)::H',[]⟩) 0 ⟨by omega,by omega⟩ ?_ ?_
 ·exact a4c rfl ⟨AC _,AC _,b0a (by subst hS;rfl),a6c rfl,trivial⟩ (.same _) (by omega) (.inr rfl) rfl
 ·intro i hi N hN;have hin:=hp i;clear hp;cbv;split
  ·cbv;have hlt:i<n:=by clear hin hN hr;subst hS;simp[AS] at*;omega
   have hin:=hin hlt;generalize hz:p i=z at hin;refine a1g hS (by clear hin hN hr;subst hS;simp[AS];omega) ?_;refine a1g hS (by clear hin hN hr;subst hS;simp[AS,Aa];omega) ?_;simp only[Aa,ett,AD,AH];refine a3v hS (r:=bool z) (by subst hS;exact hin) ?_;cases z
   ·cbv;refine a1g hS (by clear hin hN hr;subst hS;exact b6g (by simp[AS];omega) (by simp[AS];omega)) ?_;refine hN (i+1) _ ⟨by omega,fun j hj=> ?_⟩ (by omega) (a4c rfl ⟨AC _,AC _,AC _,b0a ?_,trivial⟩ (.same _) (by omega) (.inr rfl) rfl)
    ·by_cases e:j=i
     ·subst e;exact hz
     ·exact hi.2 j (by omega)
    ·clear hin hN hr;subst hS;simp[AS]
   ·cbv;exact a2s (b0a (hr.2 i hlt hz hi.2).symm) (.same _) (.inr rfl)
  ·have hni:n<=i:=by clear hin hN hr;subst hS;simp[AS] at*;omega
   cbv;exact a2s (a6c (hr.1 fun j hj=>hi.2 j (by omega)).symm) (.same _) (.inr rfl)
theorem h8d {n:Nat}(hn:n<=1000000)(l:Nat->DiR)(H':List a0f)(gid:AP)(a:Nat)(p:Nat->Bool)
 (hp: ∀i,i<n->a1h AA gid [(l i).av,.ptr a 0] (.arr 5 n (fun i=>(l i).row)::H') (ro (.arr 5 n (fun i=>(l i).row)::H') (bool (p i)))) (r:Bool) (hr:r=AE↔ ∃i,i<n/\p i=AE):
 a1h AA 174 [.msl 0 5 none n AJ,.fn gid [] [.ptr a 0]] (.arr 5 n (fun i=>(l i).row)::H') (ro (.arr 5 n (fun i=>(l i).row)::H') (bool r)):=by
 obtain⟨z,hz,hz1,hz2⟩: ∃z,a6z n p z/\(0<=z-> ∃i,i<n/\p i=AE)/\((∃i,i<n/\p i=AE)->0<=z):=a9i n p;have hin:=i1n hn l H' gid a p hp z hz;have hzr:0<=z↔r=AE:=⟨fun h=>hr.2 (hz1 h),fun h=>hz2 (hr.1 h)⟩;clear hp hz hz1 hz2 hr;refine a2y AB okP e8e _ rfl fun E Sg hb hS=> ?_;cbv;refine a3v hS hin ?_;cbv;refine a2s (a0s ?_) (.same _) (.inr rfl);clear hin;subst hS;simp[AS];cases r
 ·simp at hzr⊢;omega
 ·simpa using hzr
def i7b (ns no:Nat)(sz od:Nat->Int)(n:Nat)(l:Nat->DiR):List a0f:=[.arr 5 n (fun i=>(l i).row),.var [.fn 135 [.agg [isl ns sz,isl no od]] []]]
theorem i5o {ns no:Nat}(sz od:Nat->Int)(d:DiR)(hd:d.ns<=1000000/\d.no<=1000000)(n:Nat)(l:Nat->DiR)(r:Bool)(hr:r=AE↔ ¬(L d.ns d.sz=L ns sz/\L d.no d.od=L no od)):
 a1h AA 175 [d.av,.ptr 1 0] (i7b ns no sz od n l) (ro (i7b ns no sz od n l) (bool r)):=by
 have h1:=i7e (ns:=ns) (no:=no) sz od d hd (!r) (by
  cases r
  ·exact⟨fun _=>AI fun h=>AF (hr.2 h),fun _=>rfl⟩
  ·exact⟨fun h=>AF h,fun h=>absurd h (hr.1 rfl)⟩)
 clear hr hd;obtain⟨ns',sz',no',od',ne,en,nn,var,nk,kid,root⟩:=d;refine a2y AB okP e9v _ rfl fun E Sg hb hS=> ?_;simp only[i7b,AN,AO] at hb;cbv;refine a3v hS (a1h.of_pure rfl h1) ?_;cases r<;>cbv<;>exact a2s (a0s rfl) (.cons (.refl _) (.cons (.refl _) (.nil _))) (.inl ⟨rfl,rfl⟩)
theorem i1m {ns no:Nat}(sz od:Nat->Int){n:Nat}(hn:n<=1000000)(l:Nat->DiR)(hd: ∀i,i<n->(l i).ns<=1000000/\(l i).no<=1000000)(r:Bool)
 (hr:r=AE↔ ∀i,i<n->L (l i).ns (l i).sz=L ns sz/\L (l i).no (l i).od=L no od):
 a1h AA 136 [.msl 0 5 none n AJ,.fn 135 [.agg [isl ns sz,isl no od]] []] [.arr 5 n (fun i=>(l i).row)] (ro [.arr 5 n (fun i=>(l i).row)] (bool r)):=by
 obtain⟨p,hp⟩: ∃p:Nat->Bool,∀i,p i=AE↔ ¬(L (l i).ns (l i).sz=L ns sz/\L (l i).no (l i).od=L no od):=by classical exact⟨fun i=>decide (¬_),fun i=>decide_eq_true_iff⟩
 have hin:=h8d hn l [.var [.fn 135 [.agg [isl ns sz,isl no od]] []]] 175 1 p (fun i hi=>i5o sz od (l i) (hd i hi) n l (p i) (hp i)) (!r) (d2b hp hr);clear hr hp hd;refine a2y AB okP e7o _ rfl fun E Sg hb hS=> ?_;simp only[AN,AO] at hb;cbv;refine a3v hS hin ?_;cases r<;>cbv<;>exact a2s (a0s rfl) (.cons (.refl _) (.nil _)) (.inl ⟨rfl,rfl⟩)
noncomputable section
def j2p:Qx [0x220e04c80dcc03220c03ff0b090227850a81010183088101008308ff2603c880008f220200014600111000071000040a03090602080603030605000600040108,0x8116ff02000000860108831aff020000008401038318ff020000008101028315ff0b000203000bcd8002ff211304cc12cf118a10810102832403000b0f02ff03,0x1020003000083161468059417ff00050db514ff02000000881b0119000200fafafafa05020506b502000000871a0582020000008518058219ff020000008215,0x338526058225240584050424ff260105030008002104201ecd1f8a04052403060005c88005ff21030a1d04ff01060407050102000803090000891c1768059400,0x432ff140002030305030208002f042e2ccd2d8a04072403060205c88007ff21032305ffc922c023ff0522ff93000b2b02ff06222a04c829cc06222806ff2701,0xfd0c3d3c05843bfd0b073bfd0a043bfd093a08398e010501000203060407000087383602218506378104358136ff0501008337ff033400830233320584010700,0x1344c43b8c12438e3bfd010f0501000203060407080b0a0c0d09100e1100009142400221853bfd1041813bfd0e3f813bfd40ff0f0101833bfd41ff0d3e01833b,0xbc88002ff213107ffc930c031ff0730ff93000bca8002ff214504]:=⟨_,by cbv⟩
def i9a:XFn:=j2p.1
end
theorem i6u:a0q AA 42 i9a:=fk Tryz.func42 (by kernel_rfl)
noncomputable section
end
theorem d4e (l:Int)(nc nn:Nat)(c E:Nat->List DV)(r:Int)(z:Bool)(h:a0j AA AE 83 [.agg [int l,.d (.sl 2 nc c),.d (.sl 3 nn E)],int 4] (.tuple [int r,bool z]))(hr:z=AJ->r=0):
 a0j AA AE 37 [.agg [int l,.d (.sl 2 nc c),.d (.sl 3 nn E)]] (.tuple [int r,int (if z=AE then 0 else 4)]):=by
 obtain⟨k,hk⟩: ∃k:Int,k=if z=AE then 0 else 4:=⟨_,rfl⟩;rw[<-hk];refine b4i (fun x hx=>by simp at hx;rcases hx with rfl|rfl<;>trivial) (a0k AB okP f5n _ rfl fun E0 Sg hb hS=> ?_);cbv;refine a0v hS _ h ?_;cases z with
 |false=>cbv;exact AR (.cons (a6c (by rw[hr rfl];rfl)) (.cons (a6c (by rw[hk];rfl)) .nil))
 |true=>cbv;exact AR (.cons (.refl _) (.cons (a6c (by rw[hk];rfl)) .nil))
theorem d6j (l:Int)(nc nn:Nat)(c E:Nat->List DV)(r k:Int)(h:a0j AA AE 37 [.agg [int l,.d (.sl 2 nc c),.d (.sl 3 nn E)]] (.tuple [int r,int k])):
 a0j AA AE 35 [.agg [int l,.d (.sl 2 nc c),.d (.sl 3 nn E)]] (int k):=by
 refine a4e (a0k AB okP g0z _ rfl fun E0 Sg hb hS=> ?_);cbv;refine a0v hS _ h ?_;cbv;exact AC _
theorem c8q (p:PlR)(hp:p.ok)(hc:PlR.cnt 6 p<300)(z:Bool)(hz:z=AE↔p.isP 4)(r:Int)(hr:r=if z=AE then (PlR.deep 5 p:Int) else 0):
 a0j AA AE 37 [(PlR.cut 6 p).av] (.tuple [int r,int (if z=AE then 0 else 4)]):=by
 have h:=(d8m 4 (by omega) (PlR.cut 6 p) (PlR.ok_cut 6 p hp) (PlR.slim_cut 6 p hc 4) (if z=AE then PlR.deep 5 (PlR.cut 6 p) else 0) z (hz.trans (PlR.isP_cut 4 6 p (by omega)).symm) rfl).1;rw[PlR.deep_cut 5 6 p (by omega)] at h;rw[PlR.avE] at h⊢;have e:(((if z=AE then PlR.deep 5 p else 0:Nat)):Int)=r:=by rw[hr];split<;>rfl
 rw[e] at h;exact d4e _ _ _ _ _ r z h (fun h'=>by rw[hr,h'];rfl)
theorem e0r (p:PlR)(hp:p.ok)(hc:PlR.cnt 6 p<300)(z:Bool)(hz:z=AE↔p.isP 4):
 a0j AA AE 35 [(PlR.cut 6 p).av] (int (if z=AE then 0 else 4)):=by
 have h:=c8q p hp hc z hz _ rfl;rw[PlR.avE] at h⊢;exact d6j _ _ _ _ _ _ _ h
end Go.Proofs.Tryz.Run
