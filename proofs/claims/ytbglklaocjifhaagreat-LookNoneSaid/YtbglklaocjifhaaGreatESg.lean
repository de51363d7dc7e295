/- The program's node: cells, ranks, kids. The program's node: ranks, kids, branches. The program's loose diagrams: what is open, and that it is so just if the reference says so. Conditions: none. -/
import Derived.Test.YtbglklaocjifhaaGreatEQi
import Derived.Test.YtbglklaocjifhaaGreatESd
open Go.Proofs.YtbglklaocjifhaaGreat.Tryz renaming mixed->AA
open Go.Vf.a0x renaming refl->AB
open Go.Proofs.Tryz renaming prog->AC
open Bool renaming noConfusion->AD,true->AF
open Classical renaming byContradiction->AE
open Int renaming ofNat_eq_natCast->AG,toNat_natCast->AH,ofNat_lt->AM
open Go.Vf renaming std->AI
open Go.Vf.a3x renaming tuple->AJ
open List renaming length_cons->AK,length_nil->AL
set_option linter.unusedSimpArgs false
set_option linter.unusedVariables false
set_option maxHeartbeats 0
namespace Go.Proofs.Tryz.Run
open Go Go.Vf Go.Proofs
open Go.Proofs.YtbglklaocjifhaaGreat
theorem i0y (v:VaR)(h0:0<=v.fault)(r:Bool)(hr:r=AF↔a1i v):a0j AC AF 229 [v.av] (bool r):=by
 obtain⟨f,n⟩:=v;simp only at h0;simp only[a1i] at hr;refine a1e (a0k AA okP f0l _ rfl fun E Sg hb hS=> ?_);have hin:=h6p (-9999) 9999 n (decide (-9999<=n/\n<=9999)) decide_eq_true_iff;generalize hz:decide (-9999<=n/\n<=9999)=z at hin;cbv;split
 ·have h1:f≠0:=by subst hS;simp[AI] at*;omega
  rw[if_neg h1] at hr;cbv;split<;>cbv
  all_goals subst hS;simp[AI] at*;exact a0s (by cases r<;>simp at* <;>omega)
 ·have h1:f=0:=by subst hS;simp[AI] at*;omega
  rw[if_pos h1] at hr;cbv;refine a0v hS (bool z) (by subst hS;exact hin) ?_;cbv;exact a0s (by cases r<;>cases z<;>simp at* <;>omega)
theorem i6z (v:VaR)(h0:0<=v.fault)(r:Bool)(hr:r=AF↔ ¬a1i v):a1h AC 262 [v.av,.ptr 0 0] [.var [.fn 229 [] []]] (ro [.var [.fn 229 [] []]] (bool r)):=by
 obtain⟨z,hz⟩: ∃z:Bool,z=AF↔a1i v:=by classical exact⟨decide _,decide_eq_true_iff⟩
 have h1:=i0y v h0 z hz;have hzr:r=!z:=by
  cases z
  ·exact hr.2 fun h=>AD (hz.2 h)
  ·cases r
   ·rfl
   ·exact absurd (hz.1 rfl) (hr.1 rfl)
 obtain⟨f,n⟩:=v;refine a2y AA okP f2c _ rfl fun E Sg hb hS=> ?_;simp only[AK,AL] at hb;cbv;refine a3v hS (a1h.of_pure (h:=[.var [.fn 229 [] []],.var [u8 f,int n]]) rfl h1) ?_;subst hzr;cases z<;>cbv<;>exact a2s (a0s rfl) (.cons (.refl _) (.nil _)) (.inl ⟨rfl,rfl⟩)
theorem i1a {n:Nat}(hn:n<=1000000)(f:Nat->VaR)(H:List a0f)(gid:FuncId)(a:Nat)(p:Nat->Bool)
 (hp: ∀i,i<n->a1h AC gid [(f i).av,.ptr a 0] H (ro H (bool (p i)))) (r:Int) (hr:a6z n p r):
 a1h AC 251 [vsl n f,.fn gid [] [.ptr a 0]] H (ro H (int r)):=by
 obtain⟨ef,en',hen⟩: ∃ef en',f=fun i=>VaR.mk (ef i) (en' i):=⟨fun i=>(f i).fault,fun i=>(f i).n,rfl⟩;subst hen;refine a2y AA okP e0s _ rfl fun E Sg hb hS=> ?_;have ett: ∀z,Sg.toNat z=z.toNat:=by subst hS;exact fun _=>rfl
 cbv;refine a7r AA okP hS (fun i=>i<=n/\ ∀j,j<i->p j=false) (fun i=>n-i)
  (fun i=>⟨b5r [(0,vsl n (fun i=>⟨ef i,en' i⟩)),(1,.fn gid [] [.ptr a 0]),(7,int n),(8,int i)] 19,H,[]⟩) 0 ⟨by omega,by omega⟩ ?_ ?_
 ·exact a4c rfl ⟨AB _,AB _,b0a (by subst hS;rfl),a6c rfl,trivial⟩ (.same _) (by omega) (.inr rfl) rfl
 ·intro i hi N hN;have hin:=hp i;clear hp;cbv;split
  ·cbv;have hlt:i<n:=by clear hin hN hr;subst hS;simp[AI] at*;omega
   have hin:=hin hlt;generalize hz:p i=z at hin;refine a1g hS (by clear hin hN hr;subst hS;simp[AI];omega) ?_;simp only[nat,ett,AG,AH];refine a3v hS (r:=bool z) (by subst hS;exact hin) ?_;cases z
   ·cbv;refine a1g hS (by clear hin hN hr;subst hS;exact b6g (by simp[AI];omega) (by simp[AI];omega)) ?_;refine hN (i+1) _ ⟨by omega,fun j hj=> ?_⟩ (by omega) (a4c rfl ⟨AB _,AB _,AB _,b0a ?_,trivial⟩ (.same _) (by omega) (.inr rfl) rfl)
    ·by_cases e:j=i
     ·subst e;exact hz
     ·exact hi.2 j (by omega)
    ·clear hin hN hr;subst hS;simp[AI]
   ·cbv;exact a2s (b0a (hr.2 i hlt hz hi.2).symm) (.same _) (.inr rfl)
  ·have hni:n<=i:=by clear hin hN hr;subst hS;simp[AI] at*;omega
   cbv;exact a2s (a6c (hr.1 fun j hj=>hi.2 j (by omega)).symm) (.same _) (.inr rfl)
theorem h7y {n:Nat}(hn:n<=1000000)(f:Nat->VaR)(H:List a0f)(gid:FuncId)(a:Nat)(p:Nat->Bool)
 (hp: ∀i,i<n->a1h AC gid [(f i).av,.ptr a 0] H (ro H (bool (p i)))) (r:Bool) (hr:r=AF↔ ∃i,i<n/\p i=AF):
 a1h AC 208 [vsl n f,.fn gid [] [.ptr a 0]] H (ro H (bool r)):=by
 obtain⟨z,hz,hz1,hz2⟩: ∃z,a6z n p z/\(0<=z-> ∃i,i<n/\p i=AF)/\((∃i,i<n/\p i=AF)->0<=z):=a9i n p;have hin:=i1a hn f H gid a p hp z hz;have hzr:0<=z↔r=AF:=⟨fun h=>hr.2 (hz1 h),fun h=>hz2 (hr.1 h)⟩;clear hp hz hz1 hz2 hr;refine a2y AA okP e4y _ rfl fun E Sg hb hS=> ?_;cbv;refine a3v hS hin ?_;cbv;refine a2s (a0s ?_) (.same _) (.inr rfl);clear hin;subst hS;simp[AI];cases r
 ·simp at hzr⊢;omega
 ·simpa using hzr
theorem d2b {n:Nat}{P:Nat->Prop}{p:Nat->Bool}(hp: ∀i,p i=AF↔ ¬P i){r:Bool}(hr:r=AF↔ ∀i,i<n->P i):(!r)=AF↔ ∃i,i<n/\p i=AF:=by
 cases r
 ·have hr: ¬ ∀i,i<n->P i:=fun h=>AD (hr.2 h);simp only[Bool.not_false,true_iff];exact AE fun h=>hr fun i hi=>AE fun h'=>h ⟨i,hi,(hp i).2 h'⟩
 ·have hr:=hr.1 rfl;simp only[Bool.not_true,Bool.false_eq_true,false_iff];rintro⟨i,hi,h⟩;exact (hp i).1 h (hr i hi)
theorem i2y {n:Nat}(hn:n<=1000000)(f:Nat->VaR)(h0: ∀i,i<n->0<=(f i).fault)(r:Bool)(hr:r=AF↔ ∀i,i<n->a1i (f i)):a0j AC AF 228 [vsl n f,.fn 229 [] []] (bool r):=by
 obtain⟨p,hp⟩: ∃p:Nat->Bool,∀i,p i=AF↔ ¬a1i (f i):=by classical exact⟨fun i=>decide (¬a1i (f i)),fun i=>decide_eq_true_iff⟩
 have hin:=h7y hn f [.var [.fn 229 [] []]] 262 0 p (fun i hi=>i6z (f i) (h0 i hi) (p i) (hp i)) (!r) (d2b hp hr);clear hr hp;refine a1e (a0k AA okP e9s _ rfl fun E Sg hb hS=> ?_);cbv;refine a3v hS hin ?_;cases r<;>cbv
 ·exact a0s rfl
 ·exact a0s rfl
theorem i4z {n:Nat}(hn:n<=1000000)(g:Nat->Int)(v:Int)(r:Int)(hr:a6z n (fun i=>decide (v=g i)) r):a0j AC AF 271 [isl n g,int v] (int r):=by
 refine a4e (a0k AA okP f0w _ rfl fun E Sg hb hS=> ?_);have ett: ∀z,Sg.toNat z=z.toNat:=by subst hS;exact fun _=>rfl
 cbv;refine a7r AA okP hS (fun i=>i<=n/\ ∀j,j<i->v≠g j) (fun i=>n-i)
  (fun i=>⟨b5r [(0,isl n g),(1,int v),(7,int n),(8,int i)] 19,[],[]⟩) 0 ⟨by omega,by omega⟩ ?_ ?_
 ·exact a4c rfl ⟨AB _,AB _,b0a (by subst hS;rfl),a6c rfl,trivial⟩ (.nil _) (by omega) (.inr rfl) rfl
 ·intro i hi N hN;cbv;split
  ·have hlt:i<n:=by clear hr;subst hS;simp[AI] at*;omega
   cbv;refine a1g hS (by subst hS;simp[AI];omega) ?_;simp only[nat,ett,AG,AH];split
   ·have hx:v=g i:=by clear hr;subst hS;simp[AI] at*;assumption
    cbv;exact b0a (hr.2 i hlt (decide_eq_true hx) fun j hj=>decide_eq_false (hi.2 j hj)).symm
   ·have hx:v≠g i:=by clear hr;subst hS;simp[AI] at*;assumption
    cbv;refine a1g hS (by subst hS;exact b6g (by simp[AI];omega) (by simp[AI];omega)) ?_;refine hN (i+1) _ ⟨by omega,fun j hj=> ?_⟩ (by omega) (a4c rfl ⟨AB _,AB _,AB _,b0a (by subst hS;simp[AI]),trivial⟩ (.nil _) (by omega) (.inr rfl) rfl);by_cases e:j=i
    ·subst e;exact hx
    ·exact hi.2 j (by omega)
  ·have hni:n<=i:=by clear hr;subst hS;simp[AI] at*;omega
   cbv;exact a6c (hr.1 fun j hj=>decide_eq_false (hi.2 j (by omega))).symm
def prk (od:Nat->Int)(no:Nat)(v:Int):Int:=if pos od v no 0<no then (pos od v no 0:Int) else-1
theorem i0i (od:Nat->Int)(no:Nat)(v:Int):a6z no (fun i=>decide (v=od i)) (prk od no v):=by
 constructor
 ·intro h;have:pos od v no 0=0+no:=h6w fun l _ hl=>by have:=of_decide_eq_false (h l (by omega));exact fun e=>this e.symm
  rw[prk,if_neg (by omega)]
 ·intro i hi hp hj;have:pos od v no 0=i:=h5n (by omega) (by omega) (of_decide_eq_true hp).symm fun l _ hl=>by have:=of_decide_eq_false (hj l hl);exact fun e=>this e.symm
  rw[prk,this,if_pos hi]
theorem i1b {ns no:Nat}(hno:no<=1000000)(sz od:Nat->Int)(v:Int):a0j AC AF 265 [.agg [isl ns sz,isl no od],int v] (int (prk od no v)):=by have h1:=i4z hno od v _ (i0i od no v);generalize prk od no v=r at h1;refine a4e (a0k AA okP f0v _ rfl fun E Sg hb hS=> ?_);cbv;refine a0v hS (int r) (by subst hS;exact h1) ?_;cbv;exact AB _
theorem h9k (k:Int)(hk: -1000001<=k)(hk2:k<=1000000):a0j AC AF 200 [int k] (int (-1-k)):=by refine a4e (a0k AA okP e7m _ rfl fun E Sg hb hS=> ?_);generalize hr: -1-k=r;cbv;refine a1g hS (by subst hS;exact b6g (by simp[AI];omega) (by simp[AI];omega)) ?_;refine b0a ?_;subst hS;simp[AI];omega
theorem i4i (k:Int)(hk:c5t k)(h0:k<0):a0j AC AF 200 [int k] (int (-1-k)):=by simp only[c5t] at hk;refine a4e (a0k AA okP e7m _ rfl fun E Sg hb hS=> ?_);generalize hr: -1-k=r;cbv;refine a1g hS (by subst hS;exact b6g (by simp[AI];omega) (by simp[AI];omega)) ?_;refine b0a ?_;subst hS;simp[AI];omega
def DiR.lav (d:DiR):AV:= .agg [isl d.ns d.sz,isl d.no d.od,isl d.ns d.sz,isl d.no d.od,vsl d.ne d.en,bsl d.nn d.var d.nk d.kid,int d.root]
def h8y (d:DiR)(k below rank:Int):Prop:=if k<0 then-1-k<d.ne else k<below/\rank<prk d.od d.no (d.var k.toNat)
theorem h9f (d:DiR)(hd:d.no<=1000000)(k below rank:Int)(hw:c5t k)(hb:0<=k->k<below->k<d.nn)(r:Bool)(hr:r=AF↔h8y d k below rank):a0j AC AF 232 [d.lav,int k,int below,int rank] (bool r):=by
 have hrk:=fun v=>i1b (ns:=d.ns) hd d.sz d.od v;have he:=fun h0=>i4i k hw h0;simp only[h8y] at hr;obtain⟨q,hq⟩: ∃q:Int->Int,∀v,prk d.od d.no v=q v:=⟨_,fun _=>rfl⟩;simp only[hq] at hrk hr;clear hq;obtain⟨ns,sz,no,od,ne,en,nn,var,nk,kid,root⟩:=d;simp only at hrk hr hb;refine a1e (a0k AA okP f1y _ rfl fun E Sg hb' hS=> ?_);have ett: ∀z,Sg.toNat z=z.toNat:=by subst hS;exact fun _=>rfl
 cbv;split
 ·have h0:k<0:=by clear hrk hr he;subst hS;simp[AI] at*;assumption
  rw[if_pos h0] at hr;obtain⟨e,hee⟩: ∃e,-1-k=e:=⟨_,rfl⟩;have he:=he h0;rw[hee] at he hr;cbv;refine a0v hS (int e) (by subst hS;exact he) ?_;cbv;refine a1g hS (by clear hrk he hr;subst hS;simp[AI]) ?_;refine a0s ?_;clear hrk he;subst hS;simp only[AI];cases r
  ·exact decide_eq_false fun h=>AD (hr.2 h)
  ·exact decide_eq_true (hr.1 rfl)
 ·have h0: ¬k<0:=by clear hrk hr he;subst hS;simp[AI] at*;omega
  rw[if_neg h0] at hr;cbv;split
  ·have hlt:k<below:=by clear hrk hr he;subst hS;simp[AI] at*;assumption
   have hkn:=hb (by omega) hlt;cbv;refine a1g hS (by subst hS;exact⟨by omega,hkn⟩) ?_;simp only[nat,ett,AG,AH];refine a0v hS (int (q (var k.toNat))) (by subst hS;exact hrk _) ?_;cbv;refine a0s ?_;clear hrk he;subst hS;simp only[AI];cases r
   ·exact decide_eq_false fun h=>AD (hr.2 ⟨hlt,h⟩)
   ·exact decide_eq_true (hr.1 rfl).2
  ·have hlt: ¬k<below:=by clear hrk hr he;subst hS;simp[AI] at*;omega
   cbv;exact e8z hr fun h=>hlt h.1
def pBr (d:DiR)(i:Nat):Prop:=((0<=d.var i/\d.var i<=(d.ns:Int)-1)/\(d.nk i:Int)=d.sz (d.var i).toNat)/\ ∀j,j<d.nk i->h8y d (d.kid i j) i (prk d.od d.no (d.var i))
theorem i5m (d:DiR)(hd:d.no<=1000000)(i:Nat)(hi:i<d.nn)(k:Int)(hw:c5t k)(r:Bool)(hr:r=AF↔h8y d k i (prk d.od d.no (d.var i))):
 a1h AC 264 [int k,.ptr 0 0,.ptr 1 0,.ptr 2 0] [.var [isl d.ns d.sz,isl d.no d.od,isl d.ns d.sz,isl d.no d.od,vsl d.ne d.en,bsl d.nn d.var d.nk d.kid,int d.root],.var [int i],.var [int (d.var i),isl (d.nk i) (d.kid i)]]
  (ro [.var [isl d.ns d.sz,isl d.no d.od,isl d.ns d.sz,isl d.no d.od,vsl d.ne d.en,bsl d.nn d.var d.nk d.kid,int d.root],.var [int i],.var [int (d.var i),isl (d.nk i) (d.kid i)]] (bool r)):=by
 have h1:=i1b (ns:=d.ns) hd d.sz d.od (d.var i);have h2:=h9f d hd k i (prk d.od d.no (d.var i)) hw (fun _ h=>Int.lt_trans h (AM.2 hi)) r hr;generalize prk d.od d.no (d.var i)=q at h1 h2;clear hr;obtain⟨ns,sz,no,od,ne,en,nn,var,nk,kid,root⟩:=d;refine a2y AA okP f1g _ rfl fun E Sg hb hS=> ?_;cbv;refine a0v hS (int q) (by subst hS;exact h1) ?_;cbv
 repeat' (with_reducible apply a1g hS)
 all_goals try (clear h1 h2;subst hS;simp[AI];done)
 refine a0v hS (bool r) (by subst hS;exact h2) ?_;cbv;exact a2s (AB _) (.same _) (.inr rfl)
theorem i6f (d:DiR)(hd:d.no<=1000000)(i:Nat)(hi:i<d.nn)(k:Int)(hw:c5t k)(z:Bool)(hz:z=AF↔ ¬h8y d k i (prk d.od d.no (d.var i))):
 a1h AC 263 [int k,.ptr 3 0] [.var [isl d.ns d.sz,isl d.no d.od,isl d.ns d.sz,isl d.no d.od,vsl d.ne d.en,bsl d.nn d.var d.nk d.kid,int d.root],.var [int i],.var [int (d.var i),isl (d.nk i) (d.kid i)],.var [.fn 264 [] [.ptr 0 0,.ptr 1 0,.ptr 2 0]]]
  (ro [.var [isl d.ns d.sz,isl d.no d.od,isl d.ns d.sz,isl d.no d.od,vsl d.ne d.en,bsl d.nn d.var d.nk d.kid,int d.root],.var [int i],.var [int (d.var i),isl (d.nk i) (d.kid i)],.var [.fn 264 [] [.ptr 0 0,.ptr 1 0,.ptr 2 0]]] (bool z)):=by
 have h1:=i5m d hd i hi k hw (!z) (by
  cases z
  ·exact⟨fun _=>AE fun h=>AD (hz.2 h),fun _=>rfl⟩
  ·exact⟨fun h=>AD h,fun h=>absurd h (hz.1 rfl)⟩)
 clear hz;obtain⟨ns,sz,no,od,ne,en,nn,var,nk,kid,root⟩:=d;refine a2y AA okP e9f _ rfl fun E Sg hb hS=> ?_;cbv;refine h3v hS (a1h.frame h1 [0,1,2] rfl rfl ⟨a9v.refl _,a9v.refl _,a9v.refl _,trivial⟩) ?_;rintro pg v H' ⟨pg0,v0,h0,⟨rfl,rfl,rfl⟩,rfl,rfl,rfl⟩;cases z<;>cbv<;>exact a2s (a0s rfl) (.same _) (.inr rfl)
theorem i5c (d:DiR)(hd:d.no<=1000000)(i:Nat)(hi:i<d.nn)(hn:d.nk i<=1000000)(hw: ∀j,j<d.nk i->c5t (d.kid i j))(r:Bool)(hr:r=AF↔ ∀j,j<d.nk i->h8y d (d.kid i j) i (prk d.od d.no (d.var i))):
 a1h AC 230 [isl (d.nk i) (d.kid i),.fn 264 [] [.ptr 0 0,.ptr 1 0,.ptr 2 0]] [.var [isl d.ns d.sz,isl d.no d.od,isl d.ns d.sz,isl d.no d.od,vsl d.ne d.en,bsl d.nn d.var d.nk d.kid,int d.root],.var [int i],.var [int (d.var i),isl (d.nk i) (d.kid i)]]
  (ro [.var [isl d.ns d.sz,isl d.no d.od,isl d.ns d.sz,isl d.no d.od,vsl d.ne d.en,bsl d.nn d.var d.nk d.kid,int d.root],.var [int i],.var [int (d.var i),isl (d.nk i) (d.kid i)]] (bool r)):=by
 obtain⟨p,hp⟩: ∃p:Nat->Bool,∀j,p j=AF↔ ¬h8y d (d.kid i j) i (prk d.od d.no (d.var i)):=by classical exact⟨fun j=>decide (¬h8y d (d.kid i j) i (prk d.od d.no (d.var i))),fun j=>decide_eq_true_iff⟩
 have hin:=h5w hn (d.kid i) _ 263 3 p (fun j hj=>i6f d hd i hi (d.kid i j) (hw j hj) (p j) (hp j)) (!r) (d2b hp hr);clear hr hp hw;obtain⟨ns,sz,no,od,ne,en,nn,var,nk,kid,root⟩:=d;refine a2y AA okP e8u _ rfl fun E Sg hb hS=> ?_;simp only[AK,AL] at hb;cbv;refine a3v hS hin ?_;cases r<;>cbv<;>exact a2s (a0s rfl) (.cons (.refl _) (.cons (.refl _) (.cons (.refl _) (.nil _)))) (.inl ⟨rfl,rfl⟩)
theorem h8t (d:DiR)(hf:d.fit)(i:Nat)(hi:i<d.nn)(r:Bool)(hr:r=AF↔pBr d i):a0j AC AF 231 [d.lav,int i] (bool r):=by
 obtain⟨z,hz⟩: ∃z:Bool,z=AF↔0<=d.var i/\d.var i<=(d.ns:Int)-1:=by classical exact⟨decide _,decide_eq_true_iff⟩
 obtain⟨z2,hz2⟩: ∃z:Bool,z=AF↔ ∀j,j<d.nk i->h8y d (d.kid i j) i (prk d.od d.no (d.var i)):=by classical exact⟨decide _,decide_eq_true_iff⟩
 have h1:=h6p 0 ((d.ns:Int)-1) (d.var i) z hz;have h2:=i5c d hf.no i hi (hf.nk i hi) (hf.kid i hi) z2 hz2;have hns:=hf.ns;have hni:=hf.nk i hi;simp only[pBr,<-hz2] at hr;clear hz2 hf;obtain⟨ns,sz,no,od,ne,en,nn,var,nk,kid,root⟩:=d;simp only at h1 h2 hns hni hr hz hi;refine a1e (a0k AA okP f1q _ rfl fun E Sg hb hS=> ?_);have ett: ∀z,Sg.toNat z=z.toNat:=by subst hS;exact fun _=>rfl
 cbv;refine a1g hS (by clear h1 h2;subst hS;exact⟨Int.natCast_nonneg i,AM.2 hi⟩) ?_;simp only[nat,ett,AG,AH];refine a1g hS (by clear h1 h2;subst hS;exact b6g (by simp[AI];omega) (by simp[AI];omega)) ?_;refine a1g hS (by clear h1 h2;subst hS;simp[AI]) ?_;refine a0v hS (bool z) (by subst hS;exact h1) ?_;cases z
 ·cbv
  repeat' (with_reducible apply a1g hS)
  all_goals try (clear h1 h2;subst hS;simp[AI];done)
  exact e8z hr fun h=>AD (hz.2 h.1.1)
 ·have hv:=hz.1 rfl;cbv
  repeat' (with_reducible apply a1g hS)
  all_goals try (clear h1 h2;subst hS;first|exact i3t hv|(simp[AI];done))
  simp only[nat,ett,AG,AH];split
  ·have hne:(nk i:Int)≠sz (var i).toNat:=by clear h1 h2;subst hS;simp[AI] at*;assumption
   cbv;exact e8z hr fun h=>hne h.1.2
  ·have heq:(nk i:Int)=sz (var i).toNat:=by clear h1 h2;subst hS;simp[AI] at*;assumption
   cbv;refine a3v hS h2 ?_;cbv;refine a0s ?_;cases r
   ·cases z2
    ·rfl
    ·exact absurd (hr.2 ⟨⟨hv,heq⟩,rfl⟩) (by simp)
   ·exact (hr.1 rfl).2
theorem i6k (d:DiR)(hf:d.fit)(i:Nat)(hi:i<d.nn)(z:Bool)(hz:z=AF↔ ¬pBr d i):
 a1h AC 263 [int i,.ptr 0 0] [.var [.fn 231 [d.lav] []]] (ro [.var [.fn 231 [d.lav] []]] (bool z)):=by
 have h1:=h8t d hf i hi (!z) (by
  cases z
  ·exact⟨fun _=>AE fun h=>AD (hz.2 h),fun _=>rfl⟩
  ·exact⟨fun h=>AD h,fun h=>absurd h (hz.1 rfl)⟩)
 clear hz hf;obtain⟨ns,sz,no,od,ne,en,nn,var,nk,kid,root⟩:=d;refine a2y AA okP e9f _ rfl fun E Sg hb hS=> ?_;cbv;refine a3v hS (a1h.of_pure (h:=[.var [.fn 231 [DiR.lav ⟨ns,sz,no,od,ne,en,nn,var,nk,kid,root⟩] []]]) rfl h1) ?_;cases z<;>cbv<;>exact a2s (a0s rfl) (.same _) (.inr rfl)
theorem i5g (d:DiR)(hf:d.fit)(r:Bool)(hr:r=AF↔ ∀i,i<d.nn->pBr d i):
 a1h AC 230 [isl d.nn fun i=>(i:Int),.fn 231 [d.lav] []] [] (ro [] (bool r)):=by
 obtain⟨p,hp⟩: ∃p:Nat->Bool,∀j,p j=AF↔ ¬pBr d j:=by classical exact⟨fun j=>decide (¬pBr d j),fun j=>decide_eq_true_iff⟩
 have hin:=h5w hf.nn (fun i=>(i:Int)) _ 263 0 p (fun j hj=>i6k d hf j hj (p j) (hp j)) (!r) (d2b hp hr);clear hr hp hf;obtain⟨ns,sz,no,od,ne,en,nn,var,nk,kid,root⟩:=d;refine a2y AA okP e8u _ rfl fun E Sg hb hS=> ?_;simp only[AK,AL] at hb;cbv;refine a3v hS hin ?_;cases r<;>cbv<;>exact a2s (a0s rfl) (.nil _) (.inl ⟨rfl,rfl⟩)
def i3y (d:DiR):Prop:=(∀i,i<d.ne->a1i (d.en i))/\(∀i,i<d.nn->pBr d i)/\h8y d d.root d.nn (-1)
theorem h6s {ns no:Nat}{od:Nat->Int}(h:h6y ns no od){v:Int}(hv:0<=v/\v<=(ns:Int)-1): ∃p,p<no/\pos od v no 0=p/\prk od no v=p:=by
 have hex: ∃p,p<no/\od p=v:=by
  apply AE;intro hc;have hn:no=ns:=h.1;have hlen:=h4u (no-1) (L no fun i=>if od i<v then od i else od i-1) (by
   rw[h8x];intro i hi k hk;have h1:=(h.2 i hi).2 k hk;have hi':od i≠v:=fun e=>hc ⟨i,hi,e⟩;have hk':od k≠v:=fun e=>hc ⟨k,by omega,e⟩;split<;>split<;>omega) (fun x hx=>by
   obtain⟨i,hi,rfl⟩:=h6d.1 hx;have h1:=(h.2 i hi).1;have hi':od i≠v:=fun e=>hc ⟨i,hi,e⟩;split<;>omega)
  rw[h3u] at hlen;omega
 obtain⟨p,hp,e⟩:=hex;have hne: ∀l,l<p->od l≠v:=fun l hl e2=>(h.2 p hp).2 l hl (e2.trans e.symm);have h1:pos od v no 0=p:=h5n (by omega) (by omega) e fun l _ hl=>hne l hl;exact⟨p,hp,h1,by rw[prk,h1,if_pos hp]⟩
theorem i0a {d:DiR}(ho:h6y d.ns d.no d.od):i3y d↔h3x d:=by
 have kid:(∀i,i<d.nn->0<=d.var i/\d.var i<=(d.ns:Int)-1)-> ∀i,i<d.nn-> ∀k,(h8y d k i (prk d.od d.no (d.var i))↔h5g d k i/\h4t d i<h4t d k):=by
  intro hv i hi k;obtain⟨p,hp,e1,e2⟩:=h6s ho (hv i hi);have hri:h4t d i=p:=by rw[h4t,if_pos (by omega)];simpa using e1
  rw[e2,hri];unfold h8y h5g;by_cases hk:k<0
  ·rw[if_pos hk,if_neg (by omega)];have:h4t d k=d.no:=by rw[h4t,if_neg (by omega)]
   rw[this];constructor
   ·intro h;exact⟨by omega,hp⟩
   ·intro h;omega
  ·rw[if_neg hk,if_pos (by omega)];constructor
   ·rintro⟨h1,h2⟩;obtain⟨q,hq,f1,f2⟩:=h6s ho (hv k.toNat (by omega));have:h4t d k=q:=by rw[h4t,if_pos (by omega)];exact f1
    rw[this];rw[f2] at h2;exact⟨h1,by omega⟩
   ·rintro⟨h1,h2⟩;obtain⟨q,hq,f1,f2⟩:=h6s ho (hv k.toNat (by omega));have:h4t d k=q:=by rw[h4t,if_pos (by omega)];exact f1
    rw[this] at h2;rw[f2];exact⟨h1,by omega⟩
 have root:(∀i,i<d.nn->0<=d.var i/\d.var i<=(d.ns:Int)-1)->(h8y d d.root d.nn (-1)↔h5g d d.root d.nn):=by
  intro hv;unfold h8y h5g;by_cases hk:d.root<0
  ·rw[if_pos hk,if_neg (by omega)];omega
  ·rw[if_neg hk,if_pos (by omega)];constructor
   ·exact fun h=>h.1
   ·intro h;obtain⟨q,hq,f1,f2⟩:=h6s ho (hv d.root.toNat (by omega));rw[f2];exact⟨h,by omega⟩
 unfold i3y h3x;constructor
 ·rintro⟨a,b,c⟩;have hv:=fun i hi=>(b i hi).1.1;exact⟨a,fun i hi=>⟨(b i hi).1,fun j hj=>(kid hv i hi _).1 ((b i hi).2 j hj)⟩,(root hv).1 c⟩
 ·rintro⟨a,b,c⟩;have hv:=fun i hi=>(b i hi).1.1;exact⟨a,fun i hi=>⟨(b i hi).1,fun j hj=>(kid hv i hi _).2 ((b i hi).2 j hj)⟩,(root hv).2 c⟩
def i2o:AV:= .agg [.d .nil,.d .nil,.d .nil,.d .nil,.d .nil,.d .nil,int 0]
theorem h7g (d:DiR)(hf:d.fit)(h0: ∀i,i<d.ne->0<=(d.en i).fault)(hno:d.no<=12)(r:Int)(hr:h3z d=r):
 ∃v,(v=d.lav\/h4e d.ns d.no d.sz d.od≠0/\v=i2o)/\a0j AC false 196 [d.av] (.tuple [v,int r]):=by
 obtain⟨e,he⟩: ∃e,h4e d.ns d.no d.sz d.od=e:=⟨_,rfl⟩;have h1:=h5l hf.ns hno d.sz d.od e he;obtain⟨z1,hz1⟩: ∃z:Bool,z=AF↔ ∀i,i<d.ne->a1i (d.en i):=by classical exact⟨decide _,decide_eq_true_iff⟩
 obtain⟨z2,hz2⟩: ∃z:Bool,z=AF↔ ∀i,i<d.nn->pBr d i:=by classical exact⟨decide _,decide_eq_true_iff⟩
 obtain⟨z3,hz3⟩: ∃z:Bool,z=AF↔h8y d d.root d.nn (-1):=by classical exact⟨decide _,decide_eq_true_iff⟩
 have h2:=i2y hf.ne d.en h0 z1 hz1;have h3:=i5g d hf z2 hz2;have h4:=h9f d hf.no d.root d.nn (-1) hf.root (fun _ h=>h) z3 hz3;have h5:=h6o hf.nn;have hnn:=hf.nn;rw[h3z,he] at hr;have r1:e≠0->e=r:=fun h=>by rw[<-hr,if_pos h]
 have r2:e=0->6000<d.nn->5=r:=fun h g=>by rw[<-hr,if_neg (fun k=>k h),if_pos g]
 have hl:e=0->((z1=AF/\z2=AF/\z3=AF)↔h3x d):=fun h=>by rw[<-i0a (h4s (he.trans h)).2.2.2,hz1,hz2,hz3];exact Iff.rfl
 have r3:e=0-> ¬6000<d.nn->z1=AF->z2=AF->z3=AF->0=r:=fun h g a b c=>by rw[<-hr,if_neg (fun k=>k h),if_neg g,if_pos ((hl h).1 ⟨a,b,c⟩)]
 have r4:e=0-> ¬6000<d.nn-> ¬(z1=AF/\z2=AF/\z3=AF)->4=r:=fun h g a=>by rw[<-hr,if_neg (fun k=>k h),if_neg g,if_neg (fun k=>a ((hl h).2 k))]
 clear hr hl hz1 hz2 hz3 hf h0;by_cases hz:e=0
 ·refine⟨d.lav,.inl rfl,?_⟩;subst hz;obtain⟨ns,sz,no,od,ne,en,nn,var,nk,kid,root⟩:=d;simp only at h1 h2 h3 h4 h5 hnn r2 r3 r4 hno;obtain⟨res,hres⟩: ∃res,res=DiR.lav ⟨ns,sz,no,od,ne,en,nn,var,nk,kid,root⟩:=⟨_,rfl⟩;rw[<-hres];refine a0k AA okP f0j _ rfl fun E Sg hb hS=> ?_;have ett: ∀z,Sg.toNat z=z.toNat:=by subst hS;exact fun _=>rfl
  cbv;refine a0v hS (int 0) (by subst hS;exact h1) ?_;cbv;split
  ·rename_i h;exfalso;clear h1 h2 h3 h4 h5;subst hS;simp[AI] at h
  cbv;split
  ·have h6:6000<nn:=by clear h1 h2 h3 h4 h5;subst hS;simp[AI] at*;omega
   cbv;subst hres;exact AJ (.cons (AB _) (.cons (a6c (r2 trivial h6)) .nil))
  have h6: ¬6000<nn:=by clear h1 h2 h3 h4 h5;subst hS;simp[AI] at*;omega
  cbv;refine a0v hS (bool z1) (by subst hS;exact h2) ?_;cases z1
  ·cbv;subst hres;exact AJ (.cons (AB _) (.cons (a6c (r4 trivial h6 (by simp))) .nil))
  cbv;refine a0v hS (isl nn fun i=>(i:Int)) (by subst hS;exact h5) ?_;cbv;refine a1g hS (by clear h1 h2 h3 h4 h5;subst hS;simp[AI]) ?_;refine h3v hS (a1h.frame h3 [] rfl rfl trivial) ?_;rintro pg v H' ⟨pg0,v0,h0,⟨rfl,rfl,rfl⟩,rfl,rfl,rfl⟩;cases z2
  ·cbv;subst hres;exact AJ (.cons (AB _) (.cons (a6c (r4 trivial h6 (by simp))) .nil))
  cbv;refine a0v hS (bool z3) (by subst hS;exact h4) ?_;cases z3
  ·cbv;subst hres;exact AJ (.cons (AB _) (.cons (a6c (r4 trivial h6 (by simp))) .nil))
  ·cbv;subst hres;exact AJ (.cons (AB _) (.cons (a6c (r3 trivial h6 rfl rfl rfl)) .nil))
 ·refine⟨i2o,.inr ⟨fun h=>hz (he.symm.trans h),rfl⟩,?_⟩;obtain⟨ns,sz,no,od,ne,en,nn,var,nk,kid,root⟩:=d;simp only at h1;obtain⟨res,hres⟩: ∃res,res=i2o:=⟨_,rfl⟩;rw[<-hres];refine a0k AA okP f0j _ rfl fun E Sg hb hS=> ?_;cbv;refine a0v hS (int e) (by subst hS;exact h1) ?_;cbv;split
  ·cbv;subst hres;exact AJ (.cons (a3x.agg (.cons (AB _) (.cons (AB _) (.cons (AB _) (.cons (AB _) (.cons (AB _) (.cons (AB _) (.cons (a6c rfl) .nil)))))))) (.cons (b0a (r1 hz)) .nil))
  ·rename_i h;exfalso;clear h1 h2 h3 h4 h5;subst hS;simp[AI] at h;exact hz h
end Go.Proofs.Tryz.Run
