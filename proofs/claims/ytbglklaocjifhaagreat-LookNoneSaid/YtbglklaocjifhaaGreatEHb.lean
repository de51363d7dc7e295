/- The program's cells (package value): within, isCell, Check, Less, and the looks' before; the reference's Is and Less. Cells compared: cmp.Compare, cmp.Or, the program's Less, Check and before, the reference's Is and Less. Conditions: none. -/
import Derived.Test.YtbglklaocjifhaaGreatESg
open Go.Proofs.YtbglklaocjifhaaGreat.Tryz renaming mixed->AA
open Go.Proofs.Tryz renaming prog->AB
open Go.Vf.a0x renaming refl->AC
open Bool renaming true->AD,noConfusion->AH
open Classical renaming byContradiction->AE
open Int renaming ofNat_eq_natCast->AF,toNat_natCast->AG
set_option linter.unusedSimpArgs false
set_option linter.unusedVariables false
set_option maxHeartbeats 0
namespace Go.Proofs.Tryz.Run
open Go Go.Vf Go.Proofs
open Go.Proofs.YtbglklaocjifhaaGreat
theorem f2k (a lo up:Int)(r:Bool)(hr:r=AD↔ ¬(lo<=a/\a<=up)):a1h AB 252 [int a,.ptr 0 0,.ptr 1 0] [.var [int lo],.var [int up]] (ro [.var [int lo],.var [int up]] (bool r)):=by
 refine a2y AA okP e1x _ rfl fun E Sg hb hS=> ?_;cbv
 repeat' (split<;>cbv)
 all_goals
  refine a2s (a0s ?_) (.same _) (.inr rfl);subst hS;simp[std] at*
  cases r<;>simp at* <;>omega
theorem c8w (lo up:Int){n:Nat}(hn:n<=1000000)(g:Nat->Int)(r:Bool)(hr:r=AD↔ ∀i,i<n->lo<=g i/\g i<=up):a0j AB AD 210 [int lo,int up,isl n g] (bool r):=by
 have hin:=c0u hn g (.var [int lo]) (.var [int up]) 252 (fun i=>decide (¬(lo<=g i/\g i<=up))) (fun i _=>f2k (g i) lo up _ decide_eq_true_iff) (!r) (by
  cases r
  ·have hr: ¬ ∀i,i<n->lo<=g i/\g i<=up:=fun h=>AH (hr.2 h);simp only[Bool.not_false,decide_eq_true_eq,true_iff];exact AE fun h=>hr fun i hi=>AE fun h'=>h ⟨i,hi,h'⟩
  ·have hr:=hr.1 rfl;simp only[Bool.not_true,decide_eq_true_eq,Bool.false_eq_true,false_iff];rintro⟨i,hi,h⟩;exact h (hr i hi))
 refine a1e (a0k AA okP e2g _ rfl fun E Sg hb hS=> ?_);cbv;refine a3v hS hin ?_;cases r<;>cbv
 ·exact a0s rfl
 ·exact a0s rfl
theorem c4w (lo up x:Int)(r:Bool)(hr:r=AD↔lo<=x/\x<=up):a0j AB AD 210 [int lo,int up,.d (.sl 1 1 (Vf.rowAt [[.int .i64 (.v x)]]))] (bool r):=
 a0j.like (.cons (AC _) (.cons (AC _) (.cons d0a .nil))) (c8w lo up (by omega) (fun _=>x) r (by rw[hr];exact⟨fun h _ _=>h,fun h=>h 0 (by omega)⟩))
theorem b7t (v:VaR)(h0:0<=v.fault)(r:Bool)(hr:r=AD↔a1i v):a0j AB AD 184 [v.av] (bool r):=by
 obtain⟨f,n⟩:=v;simp only at h0;simp only[a1i] at hr;refine a1e (a0k AA okP e4e _ rfl fun E Sg hb hS=> ?_);have hin:=c4w (-9999) 9999 n (decide (-9999<=n/\n<=9999)) decide_eq_true_iff;generalize hz:decide (-9999<=n/\n<=9999)=z at hin;cbv;split
 ·rename_i h;have h1:f=0:=e2h hS h;rw[if_pos h1] at hr;cbv;refine a0v hS (bool z) (by subst hS;exact hin) ?_;cbv;exact a0s (by cases r<;>cases z<;>simp at* <;>omega)
 ·rename_i h;have h1:f≠0:=c8k hS h;rw[if_neg h1] at hr;cbv;split
  ·rename_i h;have h:=e3n hS h;cbv;refine a0s ?_;subst hS;simp[std] at*;cases r<;>simp at* <;>omega
  ·rename_i h;have h:=e3g hS h;cbv;exact e8z hr fun k=>by simp at h;omega
theorem c8o {n:Nat}(hn:n<=1000000)(f:Nat->VaR)(H:List a0f)(gid:FuncId)(p:Nat->Bool)
 (hp: ∀i,i<n->a1h AB gid [(f i).av] H (ro H (bool (p i)))) (r:Int) (hr:a6z n p r):
 a1h AB 251 [vsl n f,.fn gid [] []] H (ro H (int r)):=by
 obtain⟨ef,en',hen⟩: ∃ef en',f=fun i=>VaR.mk (ef i) (en' i):=⟨fun i=>(f i).fault,fun i=>(f i).n,rfl⟩;subst hen;refine a2y AA okP e0s _ rfl fun E Sg hb hS=> ?_;have ett: ∀z,Sg.toNat z=z.toNat:=by subst hS;exact fun _=>rfl
 cbv;refine a7r AA okP hS (fun i=>i<=n/\ ∀j,j<i->p j=false) (fun i=>n-i)
  (fun i=>⟨b5r [(0,vsl n (fun i=>⟨ef i,en' i⟩)),(1,.fn gid [] []),(7,int n),(8,int i)] 19,H,[]⟩) 0 ⟨by omega,by omega⟩ ?_ ?_
 ·exact a4c rfl ⟨AC _,AC _,b0a (by subst hS;rfl),a6c rfl,trivial⟩ (.same _) (by omega) (.inr rfl) rfl
 ·intro i hi N hN;have hin:=hp i;clear hp;cbv;split
  ·cbv;have hlt:i<n:=by clear hin hN hr;subst hS;simp[std] at*;omega
   have hin:=hin hlt;generalize hz:p i=z at hin;refine a1g hS (by clear hin hN hr;subst hS;simp[std];omega) ?_;simp only[nat,ett,AF,AG];refine a3v hS (r:=bool z) (by subst hS;exact hin) ?_;cases z
   ·cbv;refine a1g hS (by clear hin hN hr;subst hS;exact b6g (by simp[std];omega) (by simp[std];omega)) ?_;refine hN (i+1) _ ⟨by omega,fun j hj=> ?_⟩ (by omega) (a4c rfl ⟨AC _,AC _,AC _,b0a ?_,trivial⟩ (.same _) (by omega) (.inr rfl) rfl)
    ·by_cases e:j=i
     ·subst e;exact hz
     ·exact hi.2 j (by omega)
    ·clear hin hN hr;subst hS;simp[std]
   ·cbv;exact a2s (b0a (hr.2 i hlt hz hi.2).symm) (.same _) (.inr rfl)
  ·have hni:n<=i:=by clear hin hN hr;subst hS;simp[std] at*;omega
   cbv;exact a2s (a6c (hr.1 fun j hj=>hi.2 j (by omega)).symm) (.same _) (.inr rfl)
theorem b7i {n:Nat}(hn:n<=1000000)(f:Nat->VaR)(H:List a0f)(gid:FuncId)(p:Nat->Bool)
 (hp: ∀i,i<n->a1h AB gid [(f i).av] H (ro H (bool (p i)))) (r:Bool) (hr:r=AD↔ ∃i,i<n/\p i=AD):
 a1h AB 208 [vsl n f,.fn gid [] []] H (ro H (bool r)):=by
 obtain⟨z,hz,hz1,hz2⟩: ∃z,a6z n p z/\(0<=z-> ∃i,i<n/\p i=AD)/\((∃i,i<n/\p i=AD)->0<=z):=a9i n p;have hin:=c8o hn f H gid p hp z hz;have hzr:0<=z↔r=AD:=⟨fun h=>hr.2 (hz1 h),fun h=>hz2 (hr.1 h)⟩;clear hp hz hz1 hz2 hr;refine a2y AA okP e4y _ rfl fun E Sg hb hS=> ?_;cbv;refine a3v hS hin ?_;cbv;refine a2s (a0s ?_) (.same _) (.inr rfl);clear hin;subst hS;simp[std];cases r
 ·simp at hzr⊢;omega
 ·simpa using hzr
theorem e3a (v:VaR)(h0:0<=v.fault)(r:Bool)(hr:r=AD↔ ¬a1i v):a0j AB AD 253 [v.av] (bool r):=by
 obtain⟨z,hz⟩: ∃z:Bool,z=AD↔a1i v:=by classical exact⟨decide _,decide_eq_true_iff⟩
 have h1:=b7t v h0 z hz;have hzr:r=!z:=by
  cases z
  ·exact hr.2 fun h=>AH (hz.2 h)
  ·cases r
   ·rfl
   ·exact absurd (hz.1 rfl) (hr.1 rfl)
 obtain⟨f,n⟩:=v;refine a1e (a0k AA okP e4s _ rfl fun E Sg hb hS=> ?_);cbv;refine a0v hS (bool z) (by subst hS;exact h1) ?_;subst hzr;cases z<;>cbv<;>exact a0s rfl
theorem c0v (a b:VaR)(ha:0<=a.fault)(hb':0<=b.fault)(r:Bool)(hr:r=AD↔a1i a/\a1i b):a0j AB AD 211 [.d (.sl 2 2 (Vf.rowAt [a.row,b.row]))] (bool r):=by
 obtain⟨f,hf0,hf1⟩: ∃f:Nat->VaR,f 0=a/\f 1=b:=⟨fun i=>if i=0 then a else b,rfl,rfl⟩;have hf: ∀i,i<2->Vf.rowAt [a.row,b.row] i=(f i).row:=fun i hi=>by
  match i,hi with
  |0,_=>rw[hf0];rfl
  |1,_=>rw[hf1];rfl
 refine a0j.like (.cons (a0x.sl (e':=fun i=>(f i).row) hf) .nil) ?_;have h0: ∀i,i<2->0<=(f i).fault:=fun i hi=>by
  match i,hi with
  |0,_=>rw[hf0];exact ha
  |1,_=>rw[hf1];exact hb'
 obtain⟨p,hp⟩: ∃p:Nat->Bool,∀i,p i=AD↔ ¬a1i (f i):=by classical exact⟨fun i=>decide (¬a1i (f i)),fun i=>decide_eq_true_iff⟩
 have hr2:r=AD↔ ∀i,i<2->a1i (f i):=by
  rw[hr,<-hf0,<-hf1];constructor
  ·rintro⟨h1,h2⟩ i hi
   match i,hi with
   |0,_=>exact h1
   |1,_=>exact h2
  ·exact fun h=>⟨h 0 (by omega),h 1 (by omega)⟩
 have hin:=b7i (n:=2) (by omega) f [] 253 p (fun i hi=>a1h.of_pure rfl (e3a (f i) (h0 i hi) (p i) (hp i))) (!r) (d2b hp hr2);clear hr hp hr2 hf hf0 hf1 h0;obtain⟨ef,en',hen⟩: ∃ef en',f=fun i=>VaR.mk (ef i) (en' i):=⟨fun i=>(f i).fault,fun i=>(f i).n,rfl⟩;subst hen;have hin2:a0j AB AD 208 [vsl 2 fun i=>⟨ef i,en' i⟩,.fn 253 [] []] (bool (!r)):=a1e (a0j.of_acall hin fun E Sg hS pg v h' hk=>by
  obtain⟨rfl,rfl,rfl⟩:=hk;exact⟨rfl,AC _⟩)
 refine a1e (a0k AA okP e0o _ rfl fun E Sg hb hS=> ?_);cbv;refine a0v hS (bool (!r)) (by subst hS;exact hin2) ?_;cases r<;>cbv<;>exact a0s rfl
def d8g (a b:Int):Int:=if a<b then-1 else if b<a then 1 else 0
theorem c5s (a b:Int)(r:Int)(hr:r=d8g a b):a0j AB AD 214 [int a,int b] (int r):=by
 have h1:=c9c a;have h2:=c9c b;refine a4e (a0k AA okP e0m _ rfl fun E Sg hb hS=> ?_);unfold d8g at hr;cbv;refine a0v hS _ h1 ?_;cbv;refine a0v hS _ h2 ?_;cbv;split
 ·rename_i h;have h:=b3h hS h;cbv;exact a6c (by rw[hr,if_pos h];rfl)
 ·rename_i h;have h:=b3r hS h;cbv;split
  ·rename_i k;have k:=b3h hS k;cbv;exact a6c (by rw[hr,if_neg (by omega),if_pos k];rfl)
  ·rename_i k;have k:=b3r hS k;cbv;exact a6c (by rw[hr,if_neg (by omega),if_neg (by omega)];rfl)
theorem c2s (a:Int):a0j AB AD 254 [u8 a] (bool false):=by refine a1e (a0k AA okP e1l _ rfl fun E Sg hb hS=> ?_);cbv;refine a0s ?_;subst hS;simp[std]
theorem c4y (a b:Int)(r:Int)(hr:r=d8g a b):a0j AB AD 213 [u8 a,u8 b] (int r):=by
 have h1:=c2s a;have h2:=c2s b;refine a4e (a0k AA okP e1g _ rfl fun E Sg hb hS=> ?_);unfold d8g at hr;cbv;refine a0v hS _ h1 ?_;cbv;refine a0v hS _ h2 ?_;cbv;split
 ·rename_i h;have h:=b3h hS h;cbv;exact a6c (by rw[hr,if_pos h];rfl)
 ·rename_i h;have h:=b3r hS h;cbv;split
  ·rename_i k;have k:=b3h hS k;cbv;exact a6c (by rw[hr,if_neg (by omega),if_pos k];rfl)
  ·rename_i k;have k:=b3r hS k;cbv;exact a6c (by rw[hr,if_neg (by omega),if_neg (by omega)];rfl)
theorem e8a (x y r:Int)(hr:r=if x≠0 then x else y):a0j AB AD 212 [.d (.sl 1 2 (Vf.rowAt [[.int .i64 (.v x)],[.int .i64 (.v y)]]))] (int r):=by
 refine a0j.like (.cons (c8h (x:=x) (y:=y)) .nil) ?_;obtain⟨g,hg0,hg1,hg⟩: ∃g:Nat->Int,g 0=x/\g 1=y/\two x y=g:=⟨two x y,rfl,rfl,rfl⟩;rw[hg];clear hg;refine a4e (a0k AA okP e1p _ rfl fun E Sg hb hS=> ?_);have e:=b2k hS;cbv;refine a7r AA okP hS (fun i=>i<=2/\ ∀j,j<i->g j=0) (fun i=>2-i)
  (fun i=>⟨b5r [(3,int 0),(6,isl 2 g),(7,int 2),(8,int i)] 18,[],[]⟩) 0 (by simp) ?_ ?_
 ·exact a4c rfl ⟨a6c rfl,AC _,b0a (e.ofNat 2),a6c rfl,trivial⟩ (.nil _) (by omega) (.inr rfl) rfl
 ·rintro i ⟨hi,hz⟩ N hN;cbv;split
  ·rename_i h;have hlt:i<2:=Int.ofNat_lt.1 (b3h hS h);cbv;simp only[nat,e.toNat,AF,AG];refine a1g hS (a5p hS hlt) ?_;split
   ·rename_i h;have h:=e8q hS h;cbv;refine b0a ?_
    match i,hlt,hz,h with
    |0,_,_,h=>rw[hr,hg0,if_pos (by rw[<-hg0];exact h)]
    |1,_,hz,h=>rw[hr,hg1,if_neg (by rw[<-hg0,hz 0 (by omega)];simp)]
   ·rename_i h;have h:=e8o hS h;cbv;refine a1g hS (e1n hS (by omega)) ?_;exact hN (i+1) _ ⟨by omega,fun j hj=>by
     by_cases e:j=i
     ·rw[e];exact h
     ·exact hz j (by omega)⟩ (by omega) (a4c rfl ⟨AC _,AC _,AC _,b2s hS,trivial⟩ (.nil _) (by omega) (.inr rfl) rfl)
  ·rename_i h;have hlt:2<=i:=Int.ofNat_le.1 (b3r hS h);cbv;exact b0a (by rw[hr,if_neg (by rw[<-hg0,hz 0 (by omega)];simp),<-hg1,hz 1 (by omega)])
def vlt (a b:VaR):Prop:=a.fault<b.fault\/a.fault=b.fault/\a.n<b.n
instance (a b:VaR):Decidable (vlt a b):=by unfold vlt;exact inferInstance
theorem d6t (a b:VaR)(ha:0<=a.fault)(hb':0<=b.fault)(r:Bool)(hr:r=AD↔vlt a b)(h1:a1i a)(h2:a1i b):a0j AB AD 186 [a.av,b.av] (.tuple [bool r,int 0]):=by
 have hc:=c0v a b ha hb' AD (by simp[h1,h2]);obtain⟨fa,na⟩:=a;obtain⟨fb,nb⟩:=b;obtain⟨p,hp⟩: ∃p,p=d8g fa fb:=⟨_,rfl⟩;obtain⟨q,hq⟩: ∃q,q=d8g na nb:=⟨_,rfl⟩;obtain⟨z,hz⟩: ∃z,z=if p≠0 then p else q:=⟨_,rfl⟩;have hzr:(z<0)↔r=AD:=by
  rw[hr];unfold d8g at hp hq;simp only[vlt]
  (repeat' split at hp)<;>(repeat' split at hq)<;>split at hz<;>omega
 have c1:=c4y fa fb p hp;have c2:=c5s na nb q hq;have c3:=e8a p q z hz;clear hp hq hz hr h1 h2 ha hb';refine b4i (fun x hx=>by simp at hx;rcases hx with rfl|rfl<;>trivial) (a0k AA okP e2o _ rfl fun E Sg hb hS=> ?_);cbv;refine a0v hS (bool AD) (by subst hS;exact hc) ?_;cbv;refine a0v hS _ c1 ?_;cbv;refine a1g hS (c3d hS) (a1g hS (c3d hS) (a0v hS _ c2 ?_));cbv;refine a0v hS _ c3 ?_;cbv;refine a3x.tuple (.cons (a0s ?_) (.cons (a6c rfl) .nil));subst hS;simp[std];cases r<;>simp at* <;>omega
theorem c9s (a b:VaR)(ha:0<=a.fault)(hb':0<=b.fault)(h1:a1i a)(h2:a1i b)(r:Int)(hr:r=if a=b then 0 else if vlt a b then-1 else 1):a0j AB AD 149 [a.av,b.av] (int r):=by
 have hl:=d6t a b ha hb' (decide (vlt a b)) decide_eq_true_iff h1 h2;generalize hz:decide (vlt a b)=z at hl;have hr2:r=if a=b then 0 else if z=AD then-1 else 1:=by rw[hr,<-hz];simp
 obtain⟨fa,na⟩:=a;obtain⟨fb,nb⟩:=b;simp only[VaR.eq_iff] at hr2;clear hr hz;refine a4e (a0k AA okP e3y _ rfl fun E Sg hb hS=> ?_);cbv;refine a0v hS _ hl ?_;cbv;split
 ·rename_i h;have h:fa=fb/\na=nb:=by subst hS;simpa [std] using h
  cbv;exact a6c (by rw[hr2,if_pos h];rfl)
 ·rename_i h;have h: ¬(fa=fb/\na=nb):=by subst hS;simpa [std] using h
  cases z<;>cbv
  ·exact a6c (by rw[hr2,if_neg h];rfl)
  ·exact a6c (by rw[hr2,if_neg h];rfl)
theorem e2y (a b:VaR)(r:Bool)(hr:r=AD↔vlt a b):a0j AB AD 79 [a.av,b.av] (bool r):=by
 obtain⟨fa,na⟩:=a;obtain⟨fb,nb⟩:=b;simp only[vlt] at hr;refine a1e (a0k AA okP g8k _ rfl fun E Sg hb hS=> ?_);cbv;split<;>cbv
 all_goals subst hS;simp[std] at*;exact a0s (by cases r<;>simp at* <;>omega)
end Go.Proofs.Tryz.Run
