/- Reading of plans. Conditions: none. -/
import Derived.Test.YtbglklaocjifhaaGreatFSi
open Go.Proofs.Tryz renaming prog->AA
open Go.Vf.a0x renaming refl->AB
open Go.Proofs.YtbglklaocjifhaaGreat.Tryz renaming mixed->AC
open Bool renaming true->AD,noConfusion->AG,false->AI
open Int renaming ofNat_eq_natCast->AE,toNat_natCast->AF,ofNat->AM,ofNat_lt->AN,ofNat_le->AO
open Classical renaming byContradiction->AH,axiomOfChoice->AT
open Nat renaming le_refl->AJ,not_lt_zero->AK
open Go.Vf renaming rowAt->AP,std->AQ
open List renaming length_cons->AR,length_nil->AS
set_option linter.unusedSimpArgs false
set_option linter.unusedVariables false
set_option maxHeartbeats 0
set_option maxRecDepth 100000
namespace Go.Proofs.Tryz.Run
open Go Go.Vf Go.Proofs
open Go.Proofs.YtbglklaocjifhaaGreat
theorem f2k (a lo up:Int)(r:Bool)(hr:r=AD↔ ¬(lo<=a/\a<=up)):a1h AA 252 [int a,.ptr 0 0,.ptr 1 0] [.var [int lo],.var [int up]] (ro [.var [int lo],.var [int up]] (bool r)):=by
 refine a2y AC okP e1x _ rfl fun E Sg hb hS=> ?_;cbv
 repeat' (split<;>cbv)
 all_goals
  refine a2s (a0s ?_) (.same _) (.inr rfl);subst hS;simp[AQ] at*
  cases r<;>simp at* <;>omega
theorem c8w (lo up:Int){n:Nat}(hn:n<=1000000)(g:Nat->Int)(r:Bool)(hr:r=AD↔ ∀i,i<n->lo<=g i/\g i<=up):a0j AA AD 210 [int lo,int up,isl n g] (bool r):=by
 have hin:=c0u hn g (.var [int lo]) (.var [int up]) 252 (fun i=>decide (¬(lo<=g i/\g i<=up))) (fun i _=>f2k (g i) lo up _ decide_eq_true_iff) (!r) (by
  cases r
  ·have hr: ¬ ∀i,i<n->lo<=g i/\g i<=up:=fun h=>AG (hr.2 h);simp only[Bool.not_false,decide_eq_true_eq,true_iff];exact AH fun h=>hr fun i hi=>AH fun h'=>h ⟨i,hi,h'⟩
  ·have hr:=hr.1 rfl;simp only[Bool.not_true,decide_eq_true_eq,Bool.false_eq_true,false_iff];rintro⟨i,hi,h⟩;exact h (hr i hi))
 refine a1e (a0k AC okP e2g _ rfl fun E Sg hb hS=> ?_);cbv;refine a3v hS hin ?_;cases r<;>cbv
 ·exact a0s rfl
 ·exact a0s rfl
theorem c4w (lo up x:Int)(r:Bool)(hr:r=AD↔lo<=x/\x<=up):a0j AA AD 210 [int lo,int up,.d (.sl 1 1 (AP [[.int .i64 (.v x)]]))] (bool r):=
 a0j.like (.cons (AB _) (.cons (AB _) (.cons d0a .nil))) (c8w lo up (by omega) (fun _=>x) r (by rw[hr];exact⟨fun h _ _=>h,fun h=>h 0 (by omega)⟩))
theorem b7t (v:VaR)(h0:0<=v.fault)(r:Bool)(hr:r=AD↔a1i v):a0j AA AD 184 [v.av] (bool r):=by
 obtain⟨f,n⟩:=v;simp only at h0;simp only[a1i] at hr;refine a1e (a0k AC okP e4e _ rfl fun E Sg hb hS=> ?_);have hin:=c4w (-9999) 9999 n (decide (-9999<=n/\n<=9999)) decide_eq_true_iff;generalize hz:decide (-9999<=n/\n<=9999)=z at hin;cbv;split
 ·rename_i h;have h1:f=0:=e2h hS h;rw[if_pos h1] at hr;cbv;refine a0v hS (bool z) (by subst hS;exact hin) ?_;cbv;exact a0s (by cases r<;>cases z<;>simp at* <;>omega)
 ·rename_i h;have h1:f≠0:=c8k hS h;rw[if_neg h1] at hr;cbv;split
  ·rename_i h;have h:=e3n hS h;cbv;refine a0s ?_;subst hS;simp[AQ] at*;cases r<;>simp at* <;>omega
  ·rename_i h;have h:=e3g hS h;cbv;exact e8z hr fun k=>by simp at h;omega
theorem c8o {n:Nat}(hn:n<=1000000)(f:Nat->VaR)(H:List a0f)(gid:FuncId)(p:Nat->Bool)
 (hp: ∀i,i<n->a1h AA gid [(f i).av] H (ro H (bool (p i)))) (r:Int) (hr:a6z n p r):
 a1h AA 251 [vsl n f,.fn gid [] []] H (ro H (int r)):=by
 obtain⟨ef,en',hen⟩: ∃ef en',f=fun i=>VaR.mk (ef i) (en' i):=⟨fun i=>(f i).fault,fun i=>(f i).n,rfl⟩;subst hen;refine a2y AC okP e0s _ rfl fun E Sg hb hS=> ?_;have ett: ∀z,Sg.toNat z=z.toNat:=by subst hS;exact fun _=>rfl
 cbv;refine a7r AC okP hS (fun i=>i<=n/\ ∀j,j<i->p j=AI) (fun i=>n-i)
  (fun i=>⟨b5r [(0,vsl n (fun i=>⟨ef i,en' i⟩)),(1,.fn gid [] []),(7,int n),(8,int i)] 19,H,[]⟩) 0 ⟨by omega,by omega⟩ ?_ ?_
 ·exact a4c rfl ⟨AB _,AB _,b0a (by subst hS;rfl),a6c rfl,trivial⟩ (.same _) (by omega) (.inr rfl) rfl
 ·intro i hi N hN;have hin:=hp i;clear hp;cbv;split
  ·cbv;have hlt:i<n:=by clear hin hN hr;subst hS;simp[AQ] at*;omega
   have hin:=hin hlt;generalize hz:p i=z at hin;refine a1g hS (by clear hin hN hr;subst hS;simp[AQ];omega) ?_;simp only[nat,ett,AE,AF];refine a3v hS (r:=bool z) (by subst hS;exact hin) ?_;cases z
   ·cbv;refine a1g hS (by clear hin hN hr;subst hS;exact b6g (by simp[AQ];omega) (by simp[AQ];omega)) ?_;refine hN (i+1) _ ⟨by omega,fun j hj=> ?_⟩ (by omega) (a4c rfl ⟨AB _,AB _,AB _,b0a ?_,trivial⟩ (.same _) (by omega) (.inr rfl) rfl)
    ·by_cases e:j=i
     ·subst e;exact hz
     ·exact hi.2 j (by omega)
    ·clear hin hN hr;subst hS;simp[AQ]
   ·cbv;exact a2s (b0a (hr.2 i hlt hz hi.2).symm) (.same _) (.inr rfl)
  ·have hni:n<=i:=by clear hin hN hr;subst hS;simp[AQ] at*;omega
   cbv;exact a2s (a6c (hr.1 fun j hj=>hi.2 j (by omega)).symm) (.same _) (.inr rfl)
theorem b7i {n:Nat}(hn:n<=1000000)(f:Nat->VaR)(H:List a0f)(gid:FuncId)(p:Nat->Bool)
 (hp: ∀i,i<n->a1h AA gid [(f i).av] H (ro H (bool (p i)))) (r:Bool) (hr:r=AD↔ ∃i,i<n/\p i=AD):
 a1h AA 208 [vsl n f,.fn gid [] []] H (ro H (bool r)):=by
 obtain⟨z,hz,hz1,hz2⟩: ∃z,a6z n p z/\(0<=z-> ∃i,i<n/\p i=AD)/\((∃i,i<n/\p i=AD)->0<=z):=a9i n p;have hin:=c8o hn f H gid p hp z hz;have hzr:0<=z↔r=AD:=⟨fun h=>hr.2 (hz1 h),fun h=>hz2 (hr.1 h)⟩;clear hp hz hz1 hz2 hr;refine a2y AC okP e4y _ rfl fun E Sg hb hS=> ?_;cbv;refine a3v hS hin ?_;cbv;refine a2s (a0s ?_) (.same _) (.inr rfl);clear hin;subst hS;simp[AQ];cases r
 ·simp at hzr⊢;omega
 ·simpa using hzr
theorem e3a (v:VaR)(h0:0<=v.fault)(r:Bool)(hr:r=AD↔ ¬a1i v):a0j AA AD 253 [v.av] (bool r):=by
 obtain⟨z,hz⟩: ∃z:Bool,z=AD↔a1i v:=by classical exact⟨decide _,decide_eq_true_iff⟩
 have h1:=b7t v h0 z hz;have hzr:r=!z:=by
  cases z
  ·exact hr.2 fun h=>AG (hz.2 h)
  ·cases r
   ·rfl
   ·exact absurd (hz.1 rfl) (hr.1 rfl)
 obtain⟨f,n⟩:=v;refine a1e (a0k AC okP e4s _ rfl fun E Sg hb hS=> ?_);cbv;refine a0v hS (bool z) (by subst hS;exact h1) ?_;subst hzr;cases z<;>cbv<;>exact a0s rfl
theorem c0v (a b:VaR)(ha:0<=a.fault)(hb':0<=b.fault)(r:Bool)(hr:r=AD↔a1i a/\a1i b):a0j AA AD 211 [.d (.sl 2 2 (AP [a.row,b.row]))] (bool r):=by
 obtain⟨f,hf0,hf1⟩: ∃f:Nat->VaR,f 0=a/\f 1=b:=⟨fun i=>if i=0 then a else b,rfl,rfl⟩;have hf: ∀i,i<2->AP [a.row,b.row] i=(f i).row:=fun i hi=>by
  match i,hi with
  |0,_=>rw[hf0];rfl
  |1,_=>rw[hf1];rfl
 refine a0j.like (.cons (a0x.sl (e':=fun i=>(f i).row) hf) .nil) ?_;have h0: ∀i,i<2->0<=(f i).fault:=fun i hi=>by
  match i,hi with
  |0,_=>rw[hf0];exact ha
  |1,_=>rw[hf1];exact hb'
 obtain⟨p,hp⟩: ∃p:Nat->Bool,∀i,p i=AD↔ ¬a1i (f i):=by classical exact⟨fun i=>decide (¬a1i (f i)),fun i=>decide_eq_true_iff⟩
 have hr2:r=AD↔ ∀i,i<2->a1i (f i):=by
  rw[hr,<-hf0,<-hf1];constructor
  ·rintro⟨h1,h2⟩ i hi
   match i,hi with
   |0,_=>exact h1
   |1,_=>exact h2
  ·exact fun h=>⟨h 0 (by omega),h 1 (by omega)⟩
 have hin:=b7i (n:=2) (by omega) f [] 253 p (fun i hi=>a1h.of_pure rfl (e3a (f i) (h0 i hi) (p i) (hp i))) (!r) (d2b hp hr2);clear hr hp hr2 hf hf0 hf1 h0;obtain⟨ef,en',hen⟩: ∃ef en',f=fun i=>VaR.mk (ef i) (en' i):=⟨fun i=>(f i).fault,fun i=>(f i).n,rfl⟩;subst hen;have hin2:a0j AA AD 208 [vsl 2 fun i=>⟨ef i,en' i⟩,.fn 253 [] []] (bool (!r)):=a1e (a0j.of_acall hin fun E Sg hS pg v h' hk=>by
  obtain⟨rfl,rfl,rfl⟩:=hk;exact⟨rfl,AB _⟩)
 refine a1e (a0k AC okP e0o _ rfl fun E Sg hb hS=> ?_);cbv;refine a0v hS (bool (!r)) (by subst hS;exact hin2) ?_;cases r<;>cbv<;>exact a0s rfl
def d8g (a b:Int):Int:=if a<b then-1 else if b<a then 1 else 0
theorem c5s (a b:Int)(r:Int)(hr:r=d8g a b):a0j AA AD 214 [int a,int b] (int r):=by
 have h1:=c9c a;have h2:=c9c b;refine a4e (a0k AC okP e0m _ rfl fun E Sg hb hS=> ?_);unfold d8g at hr;cbv;refine a0v hS _ h1 ?_;cbv;refine a0v hS _ h2 ?_;cbv;split
 ·rename_i h;have h:=b3h hS h;cbv;exact a6c (by rw[hr,if_pos h];rfl)
 ·rename_i h;have h:=b3r hS h;cbv;split
  ·rename_i k;have k:=b3h hS k;cbv;exact a6c (by rw[hr,if_neg (by omega),if_pos k];rfl)
  ·rename_i k;have k:=b3r hS k;cbv;exact a6c (by rw[hr,if_neg (by omega),if_neg (by omega)];rfl)
theorem c2s (a:Int):a0j AA AD 254 [u8 a] (bool AI):=by refine a1e (a0k AC okP e1l _ rfl fun E Sg hb hS=> ?_);cbv;refine a0s ?_;subst hS;simp[AQ]
theorem c4y (a b:Int)(r:Int)(hr:r=d8g a b):a0j AA AD 213 [u8 a,u8 b] (int r):=by
 have h1:=c2s a;have h2:=c2s b;refine a4e (a0k AC okP e1g _ rfl fun E Sg hb hS=> ?_);unfold d8g at hr;cbv;refine a0v hS _ h1 ?_;cbv;refine a0v hS _ h2 ?_;cbv;split
 ·rename_i h;have h:=b3h hS h;cbv;exact a6c (by rw[hr,if_pos h];rfl)
 ·rename_i h;have h:=b3r hS h;cbv;split
  ·rename_i k;have k:=b3h hS k;cbv;exact a6c (by rw[hr,if_neg (by omega),if_pos k];rfl)
  ·rename_i k;have k:=b3r hS k;cbv;exact a6c (by rw[hr,if_neg (by omega),if_neg (by omega)];rfl)
theorem e8a (x y r:Int)(hr:r=if x≠0 then x else y):a0j AA AD 212 [.d (.sl 1 2 (AP [[.int .i64 (.v x)],[.int .i64 (.v y)]]))] (int r):=by
 refine a0j.like (.cons (c8h (x:=x) (y:=y)) .nil) ?_;obtain⟨g,hg0,hg1,hg⟩: ∃g:Nat->Int,g 0=x/\g 1=y/\two x y=g:=⟨two x y,rfl,rfl,rfl⟩;rw[hg];clear hg;refine a4e (a0k AC okP e1p _ rfl fun E Sg hb hS=> ?_);have e:=b2k hS;cbv;refine a7r AC okP hS (fun i=>i<=2/\ ∀j,j<i->g j=0) (fun i=>2-i)
  (fun i=>⟨b5r [(3,int 0),(6,isl 2 g),(7,int 2),(8,int i)] 18,[],[]⟩) 0 (by simp) ?_ ?_
 ·exact a4c rfl ⟨a6c rfl,AB _,b0a (e.ofNat 2),a6c rfl,trivial⟩ (.nil _) (by omega) (.inr rfl) rfl
 ·rintro i ⟨hi,hz⟩ N hN;cbv;split
  ·rename_i h;have hlt:i<2:=AN.1 (b3h hS h);cbv;simp only[nat,e.toNat,AE,AF];refine a1g hS (a5p hS hlt) ?_;split
   ·rename_i h;have h:=e8q hS h;cbv;refine b0a ?_
    match i,hlt,hz,h with
    |0,_,_,h=>rw[hr,hg0,if_pos (by rw[<-hg0];exact h)]
    |1,_,hz,h=>rw[hr,hg1,if_neg (by rw[<-hg0,hz 0 (by omega)];simp)]
   ·rename_i h;have h:=e8o hS h;cbv;refine a1g hS (e1n hS (by omega)) ?_;exact hN (i+1) _ ⟨by omega,fun j hj=>by
     by_cases e:j=i
     ·rw[e];exact h
     ·exact hz j (by omega)⟩ (by omega) (a4c rfl ⟨AB _,AB _,AB _,b2s hS,trivial⟩ (.nil _) (by omega) (.inr rfl) rfl)
  ·rename_i h;have hlt:2<=i:=AO.1 (b3r hS h);cbv;exact b0a (by rw[hr,if_neg (by rw[<-hg0,hz 0 (by omega)];simp),<-hg1,hz 1 (by omega)])
def vlt (a b:VaR):Prop:=a.fault<b.fault\/a.fault=b.fault/\a.n<b.n
instance (a b:VaR):Decidable (vlt a b):=by unfold vlt;exact inferInstance
theorem d6t (a b:VaR)(ha:0<=a.fault)(hb':0<=b.fault)(r:Bool)(hr:r=AD↔vlt a b)(h1:a1i a)(h2:a1i b):a0j AA AD 186 [a.av,b.av] (.tuple [bool r,int 0]):=by
 have hc:=c0v a b ha hb' AD (by simp[h1,h2]);obtain⟨fa,na⟩:=a;obtain⟨fb,nb⟩:=b;obtain⟨p,hp⟩: ∃p,p=d8g fa fb:=⟨_,rfl⟩;obtain⟨q,hq⟩: ∃q,q=d8g na nb:=⟨_,rfl⟩;obtain⟨z,hz⟩: ∃z,z=if p≠0 then p else q:=⟨_,rfl⟩;have hzr:(z<0)↔r=AD:=by
  rw[hr];unfold d8g at hp hq;simp only[vlt]
  (repeat' split at hp)<;>(repeat' split at hq)<;>split at hz<;>omega
 have c1:=c4y fa fb p hp;have c2:=c5s na nb q hq;have c3:=e8a p q z hz;clear hp hq hz hr h1 h2 ha hb';refine b4i (fun x hx=>by simp at hx;rcases hx with rfl|rfl<;>trivial) (a0k AC okP e2o _ rfl fun E Sg hb hS=> ?_);cbv;refine a0v hS (bool AD) (by subst hS;exact hc) ?_;cbv;refine a0v hS _ c1 ?_;cbv;refine a1g hS (c3d hS) (a1g hS (c3d hS) (a0v hS _ c2 ?_));cbv;refine a0v hS _ c3 ?_;cbv;refine a3x.tuple (.cons (a0s ?_) (.cons (a6c rfl) .nil));subst hS;simp[AQ];cases r<;>simp at* <;>omega
theorem c9s (a b:VaR)(ha:0<=a.fault)(hb':0<=b.fault)(h1:a1i a)(h2:a1i b)(r:Int)(hr:r=if a=b then 0 else if vlt a b then-1 else 1):a0j AA AD 149 [a.av,b.av] (int r):=by
 have hl:=d6t a b ha hb' (decide (vlt a b)) decide_eq_true_iff h1 h2;generalize hz:decide (vlt a b)=z at hl;have hr2:r=if a=b then 0 else if z=AD then-1 else 1:=by rw[hr,<-hz];simp
 obtain⟨fa,na⟩:=a;obtain⟨fb,nb⟩:=b;simp only[VaR.eq_iff] at hr2;clear hr hz;refine a4e (a0k AC okP e3y _ rfl fun E Sg hb hS=> ?_);cbv;refine a0v hS _ hl ?_;cbv;split
 ·rename_i h;have h:fa=fb/\na=nb:=by subst hS;simpa [AQ] using h
  cbv;exact a6c (by rw[hr2,if_pos h];rfl)
 ·rename_i h;have h: ¬(fa=fb/\na=nb):=by subst hS;simpa [AQ] using h
  cases z<;>cbv
  ·exact a6c (by rw[hr2,if_neg h];rfl)
  ·exact a6c (by rw[hr2,if_neg h];rfl)
theorem i7e {ns no:Nat}(sz od:Nat->Int)(d:DiR)(hd:d.ns<=1000000/\d.no<=1000000)(r:Bool)(hr:r=AD↔L d.ns d.sz=L ns sz/\L d.no d.od=L no od):
 a0j AA AD 135 [.agg [isl ns sz,isl no od],d.av] (bool r):=by
 obtain⟨z,hz⟩: ∃z:Bool,z=AD↔L d.ns d.sz=L ns sz:=by classical exact⟨decide _,decide_eq_true_iff⟩
 obtain⟨z2,hz2⟩: ∃z:Bool,z=AD↔L d.no d.od=L no od:=by classical exact⟨decide _,decide_eq_true_iff⟩
 have h1:=h4z hd.1 d.sz sz z hz;have h2:=h4z hd.2 d.od od z2 hz2;rw[<-hz,<-hz2] at hr;clear hz hz2 hd;obtain⟨ns',sz',no',od',ne,en,nn,var,nk,kid,root⟩:=d;refine a1e (a0k AC okP f2g _ rfl fun E Sg hb hS=> ?_);cbv;refine a0v hS (bool z) (by subst hS;exact h1) ?_;cases z
 ·cbv;exact e8z hr fun h=>AG h.1
 cbv;refine a0v hS (bool z2) (by subst hS;exact h2) ?_;cbv;refine a0s ?_;cases r<;>cases z2<;>simp at hr⊢
theorem i1n {n:Nat}(hn:n<=1000000)(l:Nat->DiR)(H':List a0f)(gid:FuncId)(a:Nat)(p:Nat->Bool)
 (hp: ∀i,i<n->a1h AA gid [(l i).av,.ptr a 0] (.arr 5 n (fun i=>(l i).row)::H') (ro (.arr 5 n (fun i=>(l i).row)::H') (bool (p i)))) (r:Int) (hr:a6z n p r):
 a1h AA 205 [.msl 0 5 none n AI,.fn gid [] [.ptr a 0]] (.arr 5 n (fun i=>(l i).row)::H') (ro (.arr 5 n (fun i=>(l i).row)::H') (int r)):=by
 refine a2y AC okP e9r _ rfl fun E Sg hb hS=> ?_;have ett: ∀z,Sg.toNat z=z.toNat:=by subst hS;exact fun _=>rfl
 cbv;refine a7r AC okP hS (fun i=>i<=n/\ ∀j,j<i->p j=AI) (fun i=>n-i)
  (fun i=>⟨b5r [(0,.msl 0 5 none n AI),(1,.fn gid [] [.ptr a 0]),(7,int n),(8,int i)] 19,.arr 5 n (fun i=>(l i).row)::H',[]⟩) 0 ⟨by omega,by omega⟩ ?_ ?_
 ·exact a4c rfl ⟨AB _,AB _,b0a (by subst hS;rfl),a6c rfl,trivial⟩ (.same _) (by omega) (.inr rfl) rfl
 ·intro i hi N hN;have hin:=hp i;clear hp;cbv;split
  ·cbv;have hlt:i<n:=by clear hin hN hr;subst hS;simp[AQ] at*;omega
   have hin:=hin hlt;generalize hz:p i=z at hin;refine a1g hS (by clear hin hN hr;subst hS;simp[AQ];omega) ?_;refine a1g hS (by clear hin hN hr;subst hS;simp[AQ,nat];omega) ?_;simp only[nat,ett,AE,AF];refine a3v hS (r:=bool z) (by subst hS;exact hin) ?_;cases z
   ·cbv;refine a1g hS (by clear hin hN hr;subst hS;exact b6g (by simp[AQ];omega) (by simp[AQ];omega)) ?_;refine hN (i+1) _ ⟨by omega,fun j hj=> ?_⟩ (by omega) (a4c rfl ⟨AB _,AB _,AB _,b0a ?_,trivial⟩ (.same _) (by omega) (.inr rfl) rfl)
    ·by_cases e:j=i
     ·subst e;exact hz
     ·exact hi.2 j (by omega)
    ·clear hin hN hr;subst hS;simp[AQ]
   ·cbv;exact a2s (b0a (hr.2 i hlt hz hi.2).symm) (.same _) (.inr rfl)
  ·have hni:n<=i:=by clear hin hN hr;subst hS;simp[AQ] at*;omega
   cbv;exact a2s (a6c (hr.1 fun j hj=>hi.2 j (by omega)).symm) (.same _) (.inr rfl)
theorem h8d {n:Nat}(hn:n<=1000000)(l:Nat->DiR)(H':List a0f)(gid:FuncId)(a:Nat)(p:Nat->Bool)
 (hp: ∀i,i<n->a1h AA gid [(l i).av,.ptr a 0] (.arr 5 n (fun i=>(l i).row)::H') (ro (.arr 5 n (fun i=>(l i).row)::H') (bool (p i)))) (r:Bool) (hr:r=AD↔ ∃i,i<n/\p i=AD):
 a1h AA 174 [.msl 0 5 none n AI,.fn gid [] [.ptr a 0]] (.arr 5 n (fun i=>(l i).row)::H') (ro (.arr 5 n (fun i=>(l i).row)::H') (bool r)):=by
 obtain⟨z,hz,hz1,hz2⟩: ∃z,a6z n p z/\(0<=z-> ∃i,i<n/\p i=AD)/\((∃i,i<n/\p i=AD)->0<=z):=a9i n p;have hin:=i1n hn l H' gid a p hp z hz;have hzr:0<=z↔r=AD:=⟨fun h=>hr.2 (hz1 h),fun h=>hz2 (hr.1 h)⟩;clear hp hz hz1 hz2 hr;refine a2y AC okP e8e _ rfl fun E Sg hb hS=> ?_;cbv;refine a3v hS hin ?_;cbv;refine a2s (a0s ?_) (.same _) (.inr rfl);clear hin;subst hS;simp[AQ];cases r
 ·simp at hzr⊢;omega
 ·simpa using hzr
def i7b (ns no:Nat)(sz od:Nat->Int)(n:Nat)(l:Nat->DiR):List a0f:=[.arr 5 n (fun i=>(l i).row),.var [.fn 135 [.agg [isl ns sz,isl no od]] []]]
theorem i5o {ns no:Nat}(sz od:Nat->Int)(d:DiR)(hd:d.ns<=1000000/\d.no<=1000000)(n:Nat)(l:Nat->DiR)(r:Bool)(hr:r=AD↔ ¬(L d.ns d.sz=L ns sz/\L d.no d.od=L no od)):
 a1h AA 175 [d.av,.ptr 1 0] (i7b ns no sz od n l) (ro (i7b ns no sz od n l) (bool r)):=by
 have h1:=i7e (ns:=ns) (no:=no) sz od d hd (!r) (by
  cases r
  ·exact⟨fun _=>AH fun h=>AG (hr.2 h),fun _=>rfl⟩
  ·exact⟨fun h=>AG h,fun h=>absurd h (hr.1 rfl)⟩)
 clear hr hd;obtain⟨ns',sz',no',od',ne,en,nn,var,nk,kid,root⟩:=d;refine a2y AC okP e9v _ rfl fun E Sg hb hS=> ?_;simp only[i7b,AR,AS] at hb;cbv;refine a3v hS (a1h.of_pure rfl h1) ?_;cases r<;>cbv<;>exact a2s (a0s rfl) (.cons (.refl _) (.cons (.refl _) (.nil _))) (.inl ⟨rfl,rfl⟩)
theorem i1m {ns no:Nat}(sz od:Nat->Int){n:Nat}(hn:n<=1000000)(l:Nat->DiR)(hd: ∀i,i<n->(l i).ns<=1000000/\(l i).no<=1000000)(r:Bool)
 (hr:r=AD↔ ∀i,i<n->L (l i).ns (l i).sz=L ns sz/\L (l i).no (l i).od=L no od):
 a1h AA 136 [.msl 0 5 none n AI,.fn 135 [.agg [isl ns sz,isl no od]] []] [.arr 5 n (fun i=>(l i).row)] (ro [.arr 5 n (fun i=>(l i).row)] (bool r)):=by
 obtain⟨p,hp⟩: ∃p:Nat->Bool,∀i,p i=AD↔ ¬(L (l i).ns (l i).sz=L ns sz/\L (l i).no (l i).od=L no od):=by classical exact⟨fun i=>decide (¬_),fun i=>decide_eq_true_iff⟩
 have hin:=h8d hn l [.var [.fn 135 [.agg [isl ns sz,isl no od]] []]] 175 1 p (fun i hi=>i5o sz od (l i) (hd i hi) n l (p i) (hp i)) (!r) (d2b hp hr);clear hr hp hd;refine a2y AC okP e7o _ rfl fun E Sg hb hS=> ?_;simp only[AR,AS] at hb;cbv;refine a3v hS hin ?_;cases r<;>cbv<;>exact a2s (a0s rfl) (.cons (.refl _) (.nil _)) (.inl ⟨rfl,rfl⟩)
noncomputable section
def j2p:Qx [0x220e04c80dcc03220c03ff0b090227850a81010183088101008308ff2603c880008f220200014600111000071000040a03090602080603030605000600040108,0x8116ff02000000860108831aff020000008401038318ff020000008101028315ff0b000203000bcd8002ff211304cc12cf118a10810102832403000b0f02ff03,0x1020003000083161468059417ff00050db514ff02000000881b0119000200fafafafa05020506b502000000871a0582020000008518058219ff020000008215,0x338526058225240584050424ff260105030008002104201ecd1f8a04052403060005c88005ff21030a1d04ff01060407050102000803090000891c1768059400,0x432ff140002030305030208002f042e2ccd2d8a04072403060205c88007ff21032305ffc922c023ff0522ff93000b2b02ff06222a04c829cc06222806ff2701,0xfd0c3d3c05843bfd0b073bfd0a043bfd093a08398e010501000203060407000087383602218506378104358136ff0501008337ff033400830233320584010700,0x1344c43b8c12438e3bfd010f0501000203060407080b0a0c0d09100e1100009142400221853bfd1041813bfd0e3f813bfd40ff0f0101833bfd41ff0d3e01833b,0xbc88002ff213107ffc930c031ff0730ff93000bca8002ff214504]:=⟨_,by cbv⟩
def i9a:XFn:=j2p.1
end
theorem i6u:a0q AA 42 i9a:=fk Tryz.func42 (by kernel_rfl)
inductive PlR where
 |none
 |mk (look:Int) (nc:Nat) (c:Nat->VaR) (nn:Nat) (nx:Nat->PlR)
def PlR.look:PlR->Int| .none=>0| .mk l _ _ _ _=>l
def PlR.nc:PlR->Nat| .none=>0| .mk _ n _ _ _=>n
def PlR.c:PlR->Nat->VaR| .none=>fun _=>⟨0,0⟩| .mk _ _ c _ _=>c
def PlR.nn:PlR->Nat| .none=>0| .mk _ _ _ n _=>n
def PlR.nx:PlR->Nat->PlR| .none=>fun _=> .none| .mk _ _ _ _ f=>f
def d4k:List DV:=[.int .i64 (.v 0),.sl 2 0 fun _=>[],.sl 3 0 fun _=>[]]
def PlR.row:PlR->List DV
 | .none=>[.int .i64 (.v 0),.sl 2 0 fun _=>(VaR.mk 0 0).row,.sl 3 0 fun _=>d4k]
 | .mk l nc c nn nx=>[.int .i64 (.v l),.sl 2 nc fun i=>(c i).row,.sl 3 nn fun i=>if i<nn then (nx i).row else d4k]
def PlR.av:PlR->AV
 | .none=> .agg [int 0,vsl 0 fun _=>⟨0,0⟩,.d (.sl 3 0 fun _=>d4k)]
 | .mk l nc c nn nx=> .agg [int l,vsl nc c,.d (.sl 3 nn fun i=>if i<nn then (nx i).row else d4k)]
theorem PlR.rowE (q:PlR):q.row=[.int .i64 (.v q.look),.sl 2 q.nc fun j=>(q.c j).row,.sl 3 q.nn fun j=>if j<q.nn then (q.nx j).row else d4k]:=by
 cases q with
 |none=>simp[PlR.row,PlR.look,PlR.nc,PlR.c,PlR.nn]
 |mk=>rfl
theorem PlR.avE (q:PlR):q.av= .agg [int q.look,.d (.sl 2 q.nc fun j=>(q.c j).row),.d (.sl 3 q.nn fun j=>if j<q.nn then (q.nx j).row else d4k)]:=by
 cases q with
 |none=>simp[PlR.av,PlR.look,PlR.nc,PlR.c,PlR.nn,vsl]
 |mk=>rfl
theorem PlR.kids (p:PlR): ∃(lk:Nat->Int) (nc nn:Nat->Nat) (C E:Nat->Nat->List DV),(∀i,i<p.nn->(p.nx i).row=[.int .i64 (.v (lk i)),.sl 2 (nc i) (C i),.sl 3 (nn i) (E i)])/\
 (∀i,i<p.nn->(p.nx i).av= .agg [int (lk i),.d (.sl 2 (nc i) (C i)),.d (.sl 3 (nn i) (E i))])/\p.av= .agg [int p.look,vsl p.nc p.c,.d (.sl 3 p.nn fun i=>[.int .i64 (.v (lk i)),.sl 2 (nc i) (C i),.sl 3 (nn i) (E i)])]:=by
 refine⟨fun i=>if i<p.nn then (p.nx i).look else 0,fun i=>if i<p.nn then (p.nx i).nc else 0,fun i=>if i<p.nn then (p.nx i).nn else 0,fun i j=>if i<p.nn then ((p.nx i).c j).row else [],
  fun i j=>if i<p.nn then (if j<(p.nx i).nn then ((p.nx i).nx j).row else d4k) else [],fun i hi=> ?_,fun i hi=> ?_,?_⟩
 ·simp only[if_pos hi];exact PlR.rowE _
 ·simp only[if_pos hi];exact PlR.avE _
 ·rw[PlR.avE p];have:(fun j=>if j<p.nn then (p.nx j).row else d4k)=fun i=>[.int .i64 (.v (if i<p.nn then (p.nx i).look else 0)),.sl 2 (if i<p.nn then (p.nx i).nc else 0) (fun j=>if i<p.nn then ((p.nx i).c j).row else []),.sl 3 (if i<p.nn then (p.nx i).nn else 0) (fun j=>if i<p.nn then (if j<(p.nx i).nn then ((p.nx i).nx j).row else d4k) else [])]:=funext fun i=>by
   by_cases hi:i<p.nn
   ·simp only[if_pos hi];exact PlR.rowE _
   ·simp only[if_neg hi];rfl
  rw[this];rfl
def PlR.ok:PlR->Prop
 | .none=>True
 | .mk l nc c nn nx=>c5t l/\nc<=140737488355328/\nn<=140737488355328/\(∀i,i<nc->(0<=(c i).fault/\(c i).fault<=255)/\c5t (c i).n)/\ ∀i,i<nn->(nx i).ok
theorem PlR.ok_iff (p:PlR):p.ok↔c5t p.look/\p.nc<=140737488355328/\p.nn<=140737488355328/\(∀i,i<p.nc->(0<=(p.c i).fault/\(p.c i).fault<=255)/\c5t (p.c i).n)/\ ∀i,i<p.nn->(p.nx i).ok:=by
 cases p with
 |none=>exact⟨fun _=>⟨⟨by decide,by decide⟩,by decide,by decide,fun i hi=>absurd hi (AK i),fun i hi=>absurd hi (AK i)⟩,fun _=>trivial⟩
 |mk=>exact Iff.rfl
def b9p (f:Nat->Nat):Nat->Nat
 |0=>0
 |n+1=>b9p f n+f n
def PlR.cnt:Nat->PlR->Nat
 |0,p=>p.nc+p.nn
 |lv+1,p=>p.nc+p.nn+b9p (fun i=>PlR.cnt lv (p.nx i)) p.nn
def c4o (lv:Nat)(rr:Nat->Int)(nn:Nat):Nat->Nat->Int->Int
 |0,_,n=>n
 |k+1,i,n=>if i<nn/\n<300/\0<lv then c4o lv rr nn k (i+1) (n+rr i) else n
theorem a5n {lv:Nat}{rr:Nat->Int}{nn k i:Nat}{n:Int}(h: ¬(i<nn/\n<300/\0<lv)):c4o lv rr nn k i n=n:=by
 cases k with
 |zero=>rfl
 |succ k=>rw[c4o,if_neg h]
theorem c9z {lv:Nat}{rr:Nat->Int}{nn:Nat}{B:Int}{f:Nat->Nat}(hr: ∀i,i<nn->0<lv->0<=rr i/\rr i<=B/\(rr i<300->rr i=f i)/\(300<=rr i->300<=f i))(hB:0<=B)(a:Nat)(B2:Int)(hB2:300+B<=B2)(ha:(a:Int)<=B2)(hlv:0<lv):
 ∀(k i:Nat) (n:Int),k+i=nn->0<=n->n<=B2->(n<300->n=a+b9p f i)->(300<=n->300<=a+b9p f i)->
 0<=c4o lv rr nn k i n/\c4o lv rr nn k i n<=B2/\(c4o lv rr nn k i n<300->c4o lv rr nn k i n=a+b9p f nn)/\(300<=c4o lv rr nn k i n->300<=a+b9p f nn):=by
 have mono: ∀i j,i<=j->b9p f i<=b9p f j:=fun i j hij=>by
  induction hij with
  |refl=>exact AJ _
  |step h ih=>exact Nat.le_trans ih (by simp[b9p])
 intro k
 induction k with
 |zero=>
  intro i n hk h0 h1 h2 h3;have:i=nn:=by omega
  subst this;exact⟨h0,h1,h2,h3⟩
 |succ k ih=>
  intro i n hk h0 h1 h2 h3;have hi:i<nn:=by omega
  by_cases hc:n<300
  ·rw[c4o,if_pos ⟨hi,hc,hlv⟩];obtain⟨r0,r1,r2,r3⟩:=hr i hi hlv;have e:=h2 hc;have hp:b9p f (i+1)=b9p f i+f i:=rfl;refine ih (i+1) (n+rr i) (by omega) (by omega) (by omega) (fun h=> ?_) (fun h=> ?_)
   ·rw[hp];have:=r2 (by omega);omega
   ·rw[hp];by_cases h4:rr i<300
    ·have:=r2 h4;omega
    ·have:=r3 (by omega);omega
  ·rw[a5n (by omega)];refine⟨h0,h1,fun h=>absurd h hc,fun h=> ?_⟩;have:=h3 h;have:=mono i nn (by omega);omega
theorem c7x (lv:Nat)(hlv:lv<=6)(p:PlR)(hp:p.ok)(rr:Nat->Int)(hrr: ∀i,i<p.nn->0<lv->a0j AA AD 77 [(p.nx i).av,int ((lv:Int)-1)] (int (rr i))/\0<=rr i/\rr i<=281474976713656)(r:Int)(hr:c4o lv rr p.nn p.nn 0 ((p.nc:Int)+p.nn)=r):
 a0j AA AD 77 [p.av,int lv] (int r):=by
 obtain⟨lk,ncs,nns,C,E,hrow,hav,hpav⟩:=p.kids;obtain⟨_,h1,h2,_,_⟩:=p.ok_iff.1 hp;rw[hpav];simp+contextual only[hav] at hrr;clear hpav hav hrow hp;obtain⟨l,hl⟩: ∃l,p.look=l:=⟨_,rfl⟩;obtain⟨nc,hnc⟩: ∃l,p.nc=l:=⟨_,rfl⟩;obtain⟨nn,hnn⟩: ∃l,p.nn=l:=⟨_,rfl⟩;obtain⟨c,hc⟩: ∃l,p.c=l:=⟨_,rfl⟩;rw[hl,hnc,hnn,hc];rw[hnc] at h1 hr;rw[hnn] at h2 hr hrr;clear hl hnc hnn hc;refine a4e (a0k AC okP g7g _ rfl fun E0 Sg hb hS=> ?_);have e:=b2k hS;cbv;refine a1g hS (a4p hS (by simp only[e.ofNat];omega)) ?_;refine a7r AC okP hS (σ:=Nat×Int) (fun s=>s.1<=nn/\c4o lv rr nn (nn-s.1) s.1 s.2=r/\0<=s.2/\s.2<=281474976713956) (fun s=>nn-s.1)
  (fun s=>⟨b5r [(1,int lv),(2,.ptr 0 0),(5,int s.2),(6,int s.1)] 40,[.var [int l,vsl nc c,.d (.sl 3 nn fun i=>[.int .i64 (.v (lk i)),.sl 2 (ncs i) (C i),.sl 3 (nns i) (E i)])]],[]⟩) (0,(nc:Int)+nn) ⟨by simp,by simpa using hr,by simp;omega,by simp;omega⟩ ?_ ?_
 ·exact a4c rfl ⟨AB _,AB _,b0a (by simp only[e.iadd,e.ofNat]),a6c rfl,trivial⟩ (.same _) (by omega) (.inr rfl) rfl
 ·rintro⟨i,n⟩ ⟨hi,hz,h0,hB⟩ N hN;simp only at hi hz h0 hB hN;cbv;split
  ·rename_i h;have hlt:i<nn:=d3r hS h;cbv;split
   ·rename_i h;have h3:n<300:=b3h hS h;cbv;split
    ·rename_i h;have h4:0<lv:=AN.1 (b3h hS h);cbv;simp only[nat,e.toNat,AE,AF];refine a1g hS (a5p hS hlt) ?_;refine a1g hS (a9o hS (by omega)) ?_;obtain⟨g1,g2,g3⟩:=hrr i hlt h4;cbv;have g4:a0j AA AD 77 [.agg [int (lk i),.d (.sl 2 (ncs i) (C i)),.d (.sl 3 (nns i) (E i))],int (Sg.isub (AM lv) (AM 1))] (int (rr i)):=by rw[e.isub];exact g1
     refine a0v hS (int (rr i)) g4 ?_;cbv;refine a1g hS (a4p hS (by omega)) ?_;refine a1g hS (a4p hS (by simp only[AE];omega)) ?_;cbv;refine hN (i+1,n+rr i) _ ⟨by omega,?_,by omega,by omega⟩ (by omega) (a4c rfl ⟨AB _,AB _,b0a (e.iadd _ _),b2s hS,trivial⟩ (.same _) (by omega) (.inr rfl) rfl);have hk:nn-i=nn-(i+1)+1:=by omega
     rw[hk,c4o,if_pos ⟨hlt,h3,h4⟩] at hz;exact hz
    ·rename_i h;have h4:lv<=0:=AO.1 (b3r hS h);cbv;rw[a5n (by omega)] at hz;exact b0a hz
   ·rename_i h;have h3:300<=n:=b3r hS h;cbv;rw[a5n (by omega)] at hz;exact b0a hz
  ·rename_i h;have hlt:nn<=i:=d3c hS h;cbv;rw[a5n (by omega)] at hz;exact b0a hz
theorem e3e: ∀(lv:Nat),lv<=6-> ∀p:PlR,p.ok-> ∃r:Int,a0j AA AD 77 [p.av,int lv] (int r)/\0<=r/\r<=281474976710656+300*lv/\(r<300->r=PlR.cnt lv p)/\(300<=r->300<=PlR.cnt lv p):=by
 intro lv
 induction lv with
 |zero=>intro _ p hp;obtain⟨_,h1,h2,_,_⟩:=p.ok_iff.1 hp;have hs:c4o 0 (fun _=>0) p.nn p.nn 0 ((p.nc:Int)+p.nn)=(p.nc:Int)+p.nn:=a5n (by omega);refine⟨_,c7x 0 (by omega) p hp (fun _=>0) (fun i _ h=>absurd h (by omega)) _ rfl,?_⟩;rw[hs];exact⟨by omega,by omega,fun _=>by simp[PlR.cnt],fun h=>by simp only[PlR.cnt];omega⟩
 |succ lv ih=>
  intro hlv p hp;obtain⟨_,h1,h2,_,h4⟩:=p.ok_iff.1 hp;have hi: ∀i,∃r:Int,i<p.nn->a0j AA AD 77 [(p.nx i).av,int lv] (int r)/\0<=r/\r<=281474976710656+300*lv/\(r<300->r=PlR.cnt lv (p.nx i))/\(300<=r->300<=PlR.cnt lv (p.nx i)):=fun i=>by
   by_cases h:i<p.nn
   ·obtain⟨r,hr⟩:=ih (by omega) (p.nx i) (h4 i h);exact⟨r,fun _=>hr⟩
   ·exact⟨0,fun h'=>absurd h' h⟩
  obtain⟨rr,hrr⟩:=AT hi;have es:((lv+1:Nat):Int)-1=lv:=by omega
  refine⟨_,c7x (lv+1) hlv p hp rr (fun i hi _=> ?_) _ rfl,?_⟩
  ·rw[es];obtain⟨a1,a2,a3,_⟩:=hrr i hi;exact⟨a1,a2,by omega⟩
  ·have:=c9z (lv:=lv+1) (rr:=rr) (nn:=p.nn) (B:=281474976710656+300*lv) (f:=fun i=>PlR.cnt lv (p.nx i)) (fun i hi _=>(hrr i hi).2) (by omega) (p.nc+p.nn) (281474976710656+300*(lv+1:Nat)) (by omega) (by omega) (by omega) p.nn 0 ((p.nc:Int)+p.nn) (by omega) (by omega) (by omega) (fun h=>by simp[b9p]) (fun h=>by simp only[b9p];omega);simpa only[PlR.cnt,Int.natCast_add] using this
theorem e4c (p:PlR)(hp:p.ok)(r:Bool)(hr:r=AD↔PlR.cnt 6 p<300):a0j AA AD 23 [p.av] (bool r):=by
 obtain⟨lk,ncs,nns,C,E,hrow,hav,hpav⟩:=p.kids;obtain⟨r0,h0,h1,h2,h3,h4⟩:=e3e 6 (by omega) p hp;have hr2:decide (r0<300)=r:=by
  by_cases h:r0<300
  ·have:=h3 h;rw[decide_eq_true h];exact (hr.2 (by omega)).symm
  ·have:=h4 (by omega);rw[decide_eq_false h];cases r with
   |false=>rfl
   |true=>have:=hr.1 rfl;omega
 rw[hpav] at h0⊢;clear hpav hav hrow hr;obtain⟨l,hl⟩: ∃l,p.look=l:=⟨_,rfl⟩;obtain⟨nc,hnc⟩: ∃l,p.nc=l:=⟨_,rfl⟩;obtain⟨nn,hnn⟩: ∃l,p.nn=l:=⟨_,rfl⟩;obtain⟨c,hc⟩: ∃l,p.c=l:=⟨_,rfl⟩;rw[hl,hnc,hnn,hc] at h0⊢;refine a1e (a0k AC okP h1w _ rfl fun E0 Sg hb hS=> ?_);have e:=b2k hS;cbv;refine a0v hS (int r0) h0 ?_;cbv;exact a0s ((e.ilt _ _).trans hr2)
theorem b3w (lv:Nat)(l:Int)(nc nn m:Nat)(c:Nat->List DV)(lk lk':Nat->Int)(ncs nns ncs' nns':Nat->Nat)(C E C' E':Nat->Nat->List DV)(h0:lv<=6)(h1:nc<=300)(h2:nn<=300)(hm:m=if 0<lv then nn else 0)
 (hrr: ∀i,i<nn->0<lv->a0j AA AI 82 [.agg [int (lk i),.d (.sl 2 (ncs i) (C i)),.d (.sl 3 (nns i) (E i))],int ((lv:Int)-1)] (.agg [int (lk' i),.d (.sl 2 (ncs' i) (C' i)),.d (.sl 3 (nns' i) (E' i))])):
 a0j AA AI 82 [.agg [int l,.d (.sl 2 nc c),.d (.sl 3 nn fun i=>[.int .i64 (.v (lk i)),.sl 2 (ncs i) (C i),.sl 3 (nns i) (E i)])],int lv]
  (.agg [int l,.d (.sl 2 nc c),.d (.sl 3 m fun i=>[.int .i64 (.v (lk' i)),.sl 2 (ncs' i) (C' i),.sl 3 (nns' i) (E' i)])]):=by
 refine a0k AC okP g2w _ rfl fun E0 Sg hb hS=> ?_;have e:=b2k hS;cbv;refine a1g hS (e8l hS (show _<=_ by omega)) ?_;refine e4p AC okP hS (fun i=>i<=m) (fun i=>m-i)
  (fun i=>⟨b5r [(1,int lv),(2,.ptr 0 0),(4,.ptr 1 0),(5,.ptr 2 0),(6,int i)] 38,[.var [int l,.d (.sl 2 nc c),.d (.sl 3 nn fun i=>[.int .i64 (.v (lk i)),.sl 2 (ncs i) (C i),.sl 3 (nns i) (E i)])],.var [int 0,.d .nil,.d .nil],.var [int l,.d (.sl 2 nc c),.msl 3 3 none i AI],.arr 3 i fun i=>[.int .i64 (.v (lk' i)),.sl 2 (ncs' i) (C' i),.sl 3 (nns' i) (E' i)]],[3]⟩)
  0 (by omega) ?_ ?_
 ·exact (b4w.gh 2 2 3 (fun _=>[]) rfl rfl).trans (b4w.le (a4c rfl ⟨AB _,AB _,AB _,AB _,a6c rfl,trivial⟩
   (.cons (.refl _) (.cons (.var (.cons (a6c rfl) (.cons (AB _) (.cons (AB _) .nil)))) (.cons (.refl _) (.cons (a9v.arrr rfl fun j hj=>by omega) (.nil _))))) (by simp;omega) (.inr rfl) rfl))
 ·intro i hi N hN;cbv;split
  ·rename_i h;have hlt:i<nn:=d3r hS h;cbv;split
   ·rename_i h;have h4:0<lv:=AN.1 (b3h hS h);have hmn:m=nn:=by rw[hm,if_pos h4]
    cbv;simp only[nat,e.toNat,AE,AF];refine a1g hS (a9o hS (by omega)) (a1g hS (a5p hS hlt) ?_);have g4:a0j AA AI 82 [.agg [int (lk i),.d (.sl 2 (ncs i) (C i)),.d (.sl 3 (nns i) (E i))],int (Sg.isub (AM lv) (AM 1))] (.agg [int (lk' i),.d (.sl 2 (ncs' i) (C' i)),.d (.sl 3 (nns' i) (E' i))]):=by rw[e.isub];exact hrr i hlt h4
    cbv;refine a0v hS _ g4 ?_;cbv;refine a1g hS (c3d hS) (a1g hS (c3d hS) (a1g hS trivial (a1g hS (f1i hS (by omega)) (a1g hS (e1n hS (by omega)) ?_))));exact hN (i+1) _ (by omega) (by omega) (b4w.le (a4c rfl ⟨AB _,AB _,AB _,AB _,b2s hS,trivial⟩
     (.cons (.refl _) (.cons (.refl _) (.cons (.var (.cons (AB _) (.cons (AB _) (.cons (d8n hS) .nil)))) (.cons (d7h hS (fun j hj=> .refl _) (.refl _)) (.nil _))))) (by simp;omega) (.inr rfl) rfl))
   ·rename_i h;have h4:lv<=0:=AO.1 (b3r hS h);have hin:i=m:=by rw[if_neg (by omega)] at hm;omega
    cbv;refine a1g hS (e8l hS (AJ _)) ?_;subst hin;exact AB _
  ·rename_i h;have hlt:nn<=i:=d3c hS h;have hin:i=m:=by
    by_cases h4:0<lv
    ·rw[if_pos h4] at hm;omega
    ·rw[if_neg h4] at hm;omega
   cbv;refine a1g hS (e8l hS (AJ _)) ?_;subst hin;exact AB _
def PlR.cut:Nat->PlR->PlR
 |0,p=> .mk p.look p.nc p.c 0 p.nx
 |lv+1,p=> .mk p.look p.nc p.c p.nn fun i=>PlR.cut lv (p.nx i)
theorem d9f {f:Nat->Nat}{n i:Nat}(h:i<n):f i<=b9p f n:=by
 induction n with
 |zero=>omega
 |succ n ih=>
  simp only[b9p];by_cases e:i=n
  ·subst e;omega
  ·have:=ih (by omega);omega
theorem PlR.cnt_ge (lv:Nat)(p:PlR):p.nc+p.nn<=PlR.cnt lv p:=by
 cases lv with
 |zero=>exact AJ _
 |succ lv=>simp only[PlR.cnt];omega
theorem PlR.cnt_kid {lv:Nat}{p:PlR}{i:Nat}(h:i<p.nn):PlR.cnt lv (p.nx i)<=PlR.cnt (lv+1) p:=by have:=d9f (f:=fun i=>PlR.cnt lv (p.nx i)) h;simp only[PlR.cnt];omega
theorem c7w: ∀(lv:Nat),lv<=6-> ∀p:PlR,PlR.cnt lv p<300->a0j AA AI 82 [p.av,int lv] (PlR.cut lv p).av:=by
 intro lv
 induction lv with
 |zero=>intro _ p hp;have:=p.cnt_ge 0;obtain⟨lk,ncs,nns,C,E,hrow,hav,hpav⟩:=p.kids;obtain⟨lk',ncs',nns',C',E',hrow',hav',hpav'⟩:=(PlR.cut 0 p).kids;rw[hpav,hpav'];exact b3w 0 p.look p.nc p.nn 0 (fun i=>(p.c i).row) lk lk' ncs nns ncs' nns' C E C' E' (by omega) (by omega) (by omega) rfl (fun i _ h=>absurd h (by omega))
 |succ lv ih=>
  intro hlv p hp;have:=p.cnt_ge (lv+1);obtain⟨lk,ncs,nns,C,E,hrow,hav,hpav⟩:=p.kids;obtain⟨lk',ncs',nns',C',E',hrow',hav',hpav'⟩:=(PlR.cut (lv+1) p).kids;rw[hpav,hpav'];have es:((lv+1:Nat):Int)-1=lv:=by omega
  refine b3w (lv+1) p.look p.nc p.nn p.nn (fun i=>(p.c i).row) lk lk' ncs nns ncs' nns' C E C' E' (by omega) (by omega) (by omega) (by rw[if_pos (by omega)]) (fun i hi _=> ?_);rw[es,<-hav i hi,<-hav' i hi];exact ih (by omega) (p.nx i) (by have:=PlR.cnt_kid (lv:=lv) hi;omega)
theorem c8y (l l':Int)(nc nn nc' nn':Nat)(c E c' E':Nat->List DV)
 (h:a0j AA AI 82 [.agg [int l,.d (.sl 2 nc c),.d (.sl 3 nn E)],int 6] (.agg [int l',.d (.sl 2 nc' c'),.d (.sl 3 nn' E')])):
 a0j AA AI 36 [.agg [int l,.d (.sl 2 nc c),.d (.sl 3 nn E)]] (.agg [int l',.d (.sl 2 nc' c'),.d (.sl 3 nn' E')]):=by
 refine a0k AC okP g0w _ rfl fun E0 Sg hb hS=> ?_;cbv;refine a0v hS _ h ?_;cbv;exact AB _
theorem d1z (p:PlR)(h:PlR.cnt 6 p<300):a0j AA AI 36 [p.av] (PlR.cut 6 p).av:=by have h1:=c7w 6 (by omega) p h;rw[PlR.avE,PlR.avE] at h1⊢;exact c8y _ _ _ _ _ _ _ _ _ _ h1
noncomputable section
end
section
variable {l:Int} {nc:Nat} {F M:Nat->Int} {nn:Nat} {E:Nat->List DV}
end
section
variable {l:Int} {nc:Nat} {F M:Nat->Int} {nn:Nat} {E:Nat->List DV}
end
theorem PlR.ok_cut: ∀(k:Nat) (p:PlR),p.ok->(PlR.cut k p).ok:=by
 intro k
 induction k with
 |zero=>intro p h;obtain⟨a,b,c,d,e⟩:=p.ok_iff.1 h;exact (PlR.ok_iff _).2 ⟨a,b,show 0<=140737488355328 by omega,d,fun i hi=>absurd hi (AK i)⟩
 |succ k ih=>intro p h;obtain⟨a,b,c,d,e⟩:=p.ok_iff.1 h;exact (PlR.ok_iff _).2 ⟨a,b,c,d,fun i hi=>ih (p.nx i) (e i hi)⟩
end Go.Proofs.Tryz.Run
namespace Go.Proofs.YtbglklaocjifhaaGreat
open Go.ChangeShapes Go.WideShapes Go.ChangeAt Go.RowKit Go.Vf Go.Proofs.Tryz.Run
noncomputable def fieldsOf (t:TypeId):Option (List (TypeId×Nat)):=
 match AA.underlying t with
 |some (.struct fs)=>some (fs.toList.map fun f=>(f.type,f.offset))
 |_=>none
theorem u24:AA.underlying 24=some (.slice 77):=by kernel_rfl
theorem u32:AA.underlying 32=some (.slice 34):=by kernel_rfl
theorem u3:AA.underlying 3=some (.int .i64):=by kernel_rfl
theorem u5:AA.underlying 5=some (.int .u8):=by kernel_rfl
theorem f77:fieldsOf 77=some [(5,0),(3,1)]:=by kernel_rfl
theorem k77:AA.cellsOf 77=2:=by kernel_rfl
theorem k3:AA.cellsOf 3=1:=by kernel_rfl
theorem k5:AA.cellsOf 5=1:=by kernel_rfl
theorem k24:AA.cellsOf 24=1:=by kernel_rfl
theorem list2 {α:Type}{l:List α}(h:l.length=2): ∃a b,l=[a,b]:=by
 match l,h with
 |[a,b],_=>exact⟨a,b,rfl⟩
section
variable {H:Type} {enc:TypeId×Value->H} {P:Program} {w:World} {spare:Nat->Bool} {held:Bool}
end
section
variable {H:Type} {enc:TypeId×Value->H} {w:World} {spare:Nat->Bool} {held:Bool}
end
end Go.Proofs.YtbglklaocjifhaaGreat
