/- The way of a place in a loose diagram. All places of a frame, in their order: the plain law. The program's walk through all places. The list of the cells of all places of a diagram. The program's list of a diagram. Conditions: none. -/
import Derived.Test.YtbglklaocjifhaaGreatESq
open Go.Vf.a0x renaming refl->AA
open Int renaming toNat_natCast->AB,ofNat_lt->AC,ofNat_eq_natCast->AF,lt_or_le->AG,natCast_nonneg->AI,ofNat_le->AK,add_mul->AL
open Go.Proofs.YtbglklaocjifhaaGreat.Tryz renaming mixed->AD
open Go.Proofs.Tryz renaming prog->AE
open Go.Vf renaming std->AH
open Go.Vf.a9v renaming refl->AJ,loop->AM,arrr->AN
set_option linter.unusedSimpArgs false
set_option linter.unusedVariables false
set_option maxHeartbeats 0
namespace Go.Proofs.Tryz.Run
open Go Go.Vf Go.Proofs
open Go.Proofs.YtbglklaocjifhaaGreat
def i2i (d:DiR)(pl:Nat->Int):Nat->Int->Int
 |0,k=>k
 |f+1,k=>if k<0 then k else i2i d pl f (d.kid k.toNat (pl (d.var k.toNat).toNat).toNat)
def h5d (d:DiR)(pl:Nat->Int)(k:Int):Int:=i2i d pl (k.toNat+1) k
def i3i (d:DiR)(pl:Nat->Int):Prop:= ∀j,j<d.ns->0<=pl j/\pl j<d.sz j
theorem h5q {d:DiR}(hl:h3x d){pl:Nat->Int}(hp:i3i d pl){k:Nat}(hk:k<d.nn):
 (0<=d.var k/\d.var k<d.ns)/\(0<=pl (d.var k).toNat/\pl (d.var k).toNat<(d.nk k:Int))/\h4k d.ne (d.kid k (pl (d.var k).toNat).toNat) k:=by
 obtain⟨⟨⟨a,b⟩,c⟩,e⟩:=hl.2.1 k hk;have h1:=hp (d.var k).toNat (by omega);rw[<-c] at h1;exact⟨⟨a,by omega⟩,h1,h4g (e _ (by omega)).1⟩
theorem i2n {d:DiR}(hl:h3x d){pl:Nat->Int}(hp:i3i d pl): ∀(f:Nat) (k:Int),k<f->k<d.nn->i2i d pl f k=h5d d pl k:=by
 have key: ∀(m:Nat) (f f':Nat) (k:Int),k<m->k<f->k<f'->k<d.nn->i2i d pl f k=i2i d pl f' k:=by
  intro m
  induction m with
  |zero=>
   intro f f' k hm hf hf' hn;have:k<0:=by omega
   cases f<;>cases f'<;>simp[i2i,this]
  |succ m ih=>
   intro f f' k hm hf hf' hn;by_cases h0:k<0
   ·cases f<;>cases f'<;>simp[i2i,h0]
   ·obtain⟨i,rfl⟩: ∃i:Nat,k=i:=⟨k.toNat,by omega⟩;obtain⟨g,rfl⟩: ∃g,f=g+1:=⟨f-1,by omega⟩;obtain⟨g',rfl⟩: ∃g,f'=g+1:=⟨f'-1,by omega⟩;have hi:i<d.nn:=by omega
    have h1:=(h5q hl hp hi).2.2;simp only[i2i,if_neg h0,AB];have hlt:d.kid i (pl (d.var i).toNat).toNat<i:=by
     rcases AG (d.kid i (pl (d.var i).toNat).toNat) 0 with h|h
     ·omega
     ·exact h1.1 h
    exact ih g g' _ (by omega) (by omega) (by omega) (by omega)
 intro f k hf hn;exact key (k.toNat+1) f (k.toNat+1) k (by omega) hf (by omega) hn
theorem h4x {d:DiR}(hl:h3x d){pl:Nat->Int}(hp:i3i d pl){i:Nat}(hi:i<d.nn):h5d d pl i=h5d d pl (d.kid i (pl (d.var i).toNat).toNat):=by
 have h1:=(h5q hl hp hi).2.2;have hlt:d.kid i (pl (d.var i).toNat).toNat<i:=by
  rcases AG (d.kid i (pl (d.var i).toNat).toNat) 0 with h|h
  ·omega
  ·exact h1.1 h
 rw[<-i2n hl hp i _ hlt (by omega)];unfold h5d;rw[AB,i2i,if_neg (by omega)];simp only[AB]
theorem h4c {d:DiR}{pl:Nat->Int}{k:Int}(h:k<0):h5d d pl k=k:=by unfold h5d;rw[i2i,if_pos h]
theorem i5w (x:Int):a1h AE 242 [int x] [] (fun pg v h'=>pg=[]/\h'=[]):=by refine h3w AD okP f2s rfl fun E Sg hb hS F hF=> ?_;cbv;exact⟨[],by simp,hF (.nil _) (AA _) (by simp) (.inr rfl) ⟨rfl,rfl⟩⟩
theorem j5u (gid:FuncId)(hnop: ∀x:Int,a1h AE gid [int x] [] (fun pg v h'=>pg=[]/\h'=[]))(d:DiR)(hl:h3x d)(hf:d.fit)(pl:Nat->Int)(hp:i3i d pl):h4k d.ne (h5d d pl d.root) 0/\a0j AE true 162 [d.lav,isl d.ns pl,.fn gid [] []] (int (-1-h5d d pl d.root)):=by
 have hro:=h4g hl.2.2;have hnx:=fun k hk=>h5q hl hp (k:=k) hk;have hst:=fun i hi=>h4x hl hp (i:=i) hi;have hwe: ∀k:Int,h4k d.ne k d.nn->h5d d pl k<0/\ -1-h5d d pl k<d.ne:=by
  have: ∀(m:Nat) (k:Int),k<m->h4k d.ne k d.nn->h5d d pl k<0/\ -1-h5d d pl k<d.ne:=by
   intro m
   induction m with
   |zero=>intro k hm hr;rw[h4c (by omega)];exact⟨by omega,hr.2 (by omega)⟩
   |succ m ih=>
    intro k hm hr;by_cases h0:k<0
    ·rw[h4c h0];exact⟨h0,hr.2 h0⟩
    ·obtain⟨i,rfl⟩: ∃i:Nat,k=i:=⟨k.toNat,by omega⟩;have hi:i<d.nn:=by have:=hr.1 (by omega);omega
     rw[hst i hi];have h1:=(hnx i hi).2.2;refine ih _ ?_ ⟨fun h=>by have:=h1.1 h;omega,h1.2⟩;rcases AG (d.kid i (pl (d.var i).toNat).toNat) 0 with h|h
     ·omega
     ·have:=h1.1 h;omega
  intro k hr;exact this (k.toNat+1) k (by omega) hr
 have hw:=hwe d.root hro;refine⟨⟨fun h=>by omega,fun _=>hw.2⟩,?_⟩;have hne:=hf.ne;have hnn:=hf.nn;have hend:=h9k (h5d d pl d.root) (by omega) (by omega);obtain⟨W,hW⟩: ∃W,W=h5d d pl d.root:=⟨_,rfl⟩;rw[<-hW] at hw hend⊢;have hlast: ∀k:Int,k<0->h5d d pl k=W->k=W:=fun k h e=>by rw[h4c h] at e;exact e
 obtain⟨Y,hY⟩: ∃Y:Int->Int,∀k,h5d d pl k=Y k:=⟨_,fun _=>rfl⟩;simp only[hY] at hst hlast hW;clear hwe hY hl hp hf;obtain⟨ns,sz,no,od,ne,en,nn,var,nk,kid,root⟩:=d;simp only at hnx hst hW hro;refine a4e (a0k AD okP f1o _ rfl fun E Sg hb hS=> ?_);have ett: ∀z,Sg.toNat z=z.toNat:=by subst hS;exact fun _=>rfl
 cbv;refine a7r AD okP hS (σ:=Int) (fun k=>h4k ne k nn/\Y k=W) (fun k=>(k+1).toNat)
  (fun k=>⟨b5r [(1,isl ns pl),(2,.fn gid [] []),(3,.ptr 0 0),(7,int k)] 37,[.var [isl ns sz,isl no od,isl ns sz,isl no od,vsl ne en,bsl nn var nk kid,int root]],[]⟩) root ⟨hro,hW.symm⟩ ?_ ?_
 ·exact a4c rfl ⟨AA _,AA _,AA _,AA _,trivial⟩ (.cons (.refl _) (.nil _)) (by simp;omega) (.inr rfl) rfl
 ·rintro k ⟨hk1,hk2⟩ N hN;cbv;split
  ·have h0:0<=k:=by clear hN hend;subst hS;simp[AH] at*;assumption
   obtain⟨i,rfl⟩: ∃i:Nat,k=i:=⟨k.toNat,by omega⟩;have hi:i<nn:=AC.1 (hk1.1 (AI i));obtain⟨n1,n2,n3⟩:=hnx i hi;cbv;refine h3v hS (a1h.frame (hnop i) [] rfl rfl trivial) ?_;rintro pg v H' ⟨pg0,v0,h0',⟨rfl,rfl⟩,rfl,rfl,rfl⟩;cbv;refine a1g hS (by clear hN hend;subst hS;exact⟨AI i,AC.2 hi⟩) ?_;refine a1g hS (by clear hN hend;subst hS;exact⟨AI i,AC.2 hi⟩) ?_;simp only[nat,ett,AF,AB];refine a1g hS (by clear hN hend;subst hS;exact n1) ?_;refine a1g hS (by clear hN hend;subst hS;exact n2) ?_;refine hN (kid i (pl (var i).toNat).toNat) _ ⟨⟨fun h=>Int.lt_trans (n3.1 h) (AC.2 hi),n3.2⟩,by rw[<-hst i hi];exact hk2⟩ ?_ (a4c rfl ⟨AA _,AA _,AA _,AA _,trivial⟩ (.cons (.refl _) (.nil _)) (by simp;omega) (.inr rfl) rfl);rcases AG (kid i (pl (var i).toNat).toNat) 0 with h|h
   ·omega
   ·have:=n3.1 h;omega
  ·have h0:k<0:=by clear hN hend;subst hS;simp[AH] at*;omega
   have hkW:=hlast k h0 hk2;subst hkW;cbv;refine a0v hS _ (by subst hS;exact hend) ?_;cbv;exact AA _
theorem i6j (d:DiR)(hl:h3x d)(hf:d.fit)(pl:Nat->Int)(hp:i3i d pl):h4k d.ne (h5d d pl d.root) 0/\a0j AE true 162 [d.lav,isl d.ns pl,.fn 242 [] []] (int (-1-h5d d pl d.root)):=j5u 242 i5w d hl hf pl hp
def h4l (pl:Nat->Int)(k:Nat)(z:Int):Nat->Int:=fun j=>if j=k then z else pl j
def h5h (sz:Nat->Int):Nat->(Nat->Int)->Option (Nat->Int)
 |0,_=>none
 |k+1,pl=>if pl k=sz k-1 then h5h sz k (h4l pl k 0) else some (h4l pl k (pl k+1))
def h4w (sz pl:Nat->Int):Nat->Int
 |0=>0
 |k+1=>h4w sz pl k*sz k+pl k
def i2j (sz pl:Nat->Int)(n:Nat):Prop:= ∀j,j<n->0<=pl j/\pl j<sz j
theorem h5a {sz pl pl':Nat->Int}: ∀{k:Nat},(∀j,j<k->pl j=pl' j)->h4w sz pl k=h4w sz pl' k
 |0,_=>rfl
 |k+1,h=>by rw[h4w,h4w,h5a fun j hj=>h j (by omega),h k (by omega)]
theorem h5c {sz pl:Nat->Int}: ∀{n:Nat},i2j sz pl n->0<=h4w sz pl n/\h4w sz pl n<h4d sz n
 |0,_=>by simp[h4w,h4d]
 |n+1,h=>by have h1:=h5c (n:=n) fun j hj=>h j (by omega);have h2:=h n (by omega);rw[h4w,h4d];have a:0<=h4w sz pl n*sz n:=Int.mul_nonneg h1.1 (by omega);have b:(h4w sz pl n+1)*sz n<=h4d sz n*sz n:=Int.mul_le_mul_of_nonneg_right (by omega) (by omega);rw[AL] at b;omega
theorem h5t {sz:Nat->Int}: ∀{k:Nat} {pl pl':Nat->Int},i2j sz pl k->h5h sz k pl=some pl'->h4w sz pl' k=h4w sz pl k+1/\i2j sz pl' k/\ ∀j,k<=j->pl' j=pl j
 |0,_,_,_,h=>by simp[h5h] at h
 |k+1,pl,pl',hp,h=>by
  rw[h5h] at h;have hk:=hp k (by omega);split at h
  ·rename_i he;have h1:=h5t (k:=k) (pl:=h4l pl k 0) (fun j hj=>by simp only[h4l];rw[if_neg (by omega)];exact hp j (by omega)) h;have e0:pl' k=0:=by rw[h1.2.2 k (Nat.le_refl k)];simp[h4l]
   have ev:h4w sz (h4l pl k 0) k=h4w sz pl k:=h5a fun j hj=>by simp only[h4l];rw[if_neg (by omega)]
   refine⟨?_,fun j hj=> ?_,fun j hj=> ?_⟩
   ·rw[h4w,h4w,h1.1,ev,e0,AL];omega
   ·by_cases e:j=k
    ·subst e;rw[e0];omega
    ·exact h1.2.1 j (by omega)
   ·rw[h1.2.2 j (by omega)];simp only[h4l];rw[if_neg (by omega)]
  ·rename_i he;cases h;have ev:h4w sz (h4l pl k (pl k+1)) k=h4w sz pl k:=h5a fun j hj=>by simp only[h4l];rw[if_neg (by omega)]
   refine⟨?_,fun j hj=> ?_,fun j hj=> ?_⟩
   ·rw[h4w,h4w,ev];simp only[h4l,if_pos];omega
   ·simp only[h4l];by_cases e:j=k
    ·subst e;rw[if_pos rfl];omega
    ·rw[if_neg e];exact hp j (by omega)
   ·simp only[h4l];rw[if_neg (by omega)]
theorem h5r {sz:Nat->Int}: ∀{k:Nat} {pl:Nat->Int},i2j sz pl k->h5h sz k pl=none->h4w sz pl k=h4d sz k-1
 |0,_,_,_=>by simp[h4w,h4d]
 |k+1,pl,hp,h=>by
  rw[h5h] at h;have hk:=hp k (by omega);split at h
  ·rename_i he;have h1:=h5r (k:=k) (pl:=h4l pl k 0) (fun j hj=>by simp only[h4l];rw[if_neg (by omega)];exact hp j (by omega)) h;have ev:h4w sz (h4l pl k 0) k=h4w sz pl k:=h5a fun j hj=>by simp only[h4l];rw[if_neg (by omega)]
   rw[ev] at h1;rw[h4w,h4d,h1,he,Int.sub_mul];omega
  ·cases h
def h5j (sz:Nat->Int)(n:Nat):Nat->(Nat->Int)
 |0=>fun _=>0
 |p+1=>(h5h sz n (h5j sz n p)).getD (h5j sz n p)
theorem h7i {sz:Nat->Int}: ∀n,h4w sz (fun _=>0) n=0
 |0=>rfl
 |n+1=>by rw[h4w,h7i n];simp
theorem h5s {sz:Nat->Int}{n:Nat}(hs: ∀j,j<n->1<=sz j): ∀p:Nat,(p:Int)<h4d sz n->i2j sz (h5j sz n p) n/\h4w sz (h5j sz n p) n=p
 |0,_=>⟨fun j hj=>by have:=hs j hj;simp only[h5j];omega,h7i n⟩
 |p+1,h=>by
  obtain⟨h1,h2⟩:=h5s hs p (by omega);cases hc:h5h sz n (h5j sz n p) with
  |none=>have:=h5r h1 hc;omega
  |some q=>have h3:=h5t h1 hc;rw[h5j,hc];exact⟨h3.2.1,by simp only[Option.getD];rw[h3.1,h2];omega⟩
theorem i1o {sz:Nat->Int}{n:Nat}(hs: ∀j,j<n->1<=sz j){p:Nat}(h:(p:Int)<h4d sz n):
 (∀q,h5h sz n (h5j sz n p)=some q->h5j sz n (p+1)=q/\((p+1:Nat):Int)<h4d sz n)/\(h5h sz n (h5j sz n p)=none->((p+1:Nat):Int)=h4d sz n):=by
 obtain⟨h1,h2⟩:=h5s hs p h;constructor
 ·intro q hc;have h3:=h5t h1 hc;have h4:=h5c h3.2.1;refine⟨by rw[h5j,hc];rfl,?_⟩;rw[h3.1,h2] at h4;omega
 ·intro hc;have:=h5r h1 hc;omega
def i4w:Nat->Int
 |0=> -1
 |k+1=>(k:Int)
theorem h9p (k:Nat):i4w k=(k:Int)-1:=by cases k<;>simp[i4w]
theorem i0o {ns no:Nat}(sz od:Nat->Int)(hns:ns<=1000000)(hs: ∀j,j<ns->1<=sz j/\sz j<=12)(hp:h4d sz ns<=2000)(A B C D:Nat->a0f)(hlow: ∀p,d5i 4 [A p,B p,C p,D p]=true)
 (hy: ∀(p:Nat) (u:Nat->Int),(p:Int)<h4d sz ns->(∀j,j<ns->u j=h5j sz ns p j)->
   b5d AE 2 [int p,.msl 5 1 none ns false] [A p,B p,C p,D p,.var [isl ns sz,isl no od],arrI ns u]
    (fun pg v h'=>pg=[3]/\v= .d (.bool true)/\h'=[A (p+1),B (p+1),C (p+1),D (p+1),.var [isl ns sz,isl no od],arrI ns u])):
 a1h AE 241 [.agg [isl ns sz,isl no od],.yl 2] [A 0,B 0,C 0,D 0] (fun pg v h'=>pg=[3]/\ ∃q:Nat,(q:Int)=h4d sz ns/\h'=[A q,B q,C q,D q]):=by
 have hs1:=fun j hj=>(hs j hj).1;have hsq:=fun p h=>h5s (sz:=sz) (n:=ns) hs1 p h;have hnx:=fun p h=>i1o (sz:=sz) (n:=ns) hs1 (p:=p) h;have hpos:=h4r hs1;obtain⟨T,hT⟩: ∃T:Nat,(T:Int)=h4d sz ns:=⟨(h4d sz ns).toNat,by omega⟩;rw[<-hT] at hsq hnx hpos hy⊢;have hT2:T<=2000:=by omega
 have hsq:=fun p (h:p<T)=>hsq p (AC.2 h);have hnx: ∀p,p<T->(∀q,h5h sz ns (h5j sz ns p)=some q->h5j sz ns (p+1)=q/\p+1<T)/\(h5h sz ns (h5j sz ns p)=none->p+1=T):=fun p h=>by obtain⟨a,b⟩:=hnx p (AC.2 h);exact⟨fun q hq=>⟨(a q hq).1,AC.1 (a q hq).2⟩,fun hq=>Int.ofNat.inj (b hq)⟩
 have hy:=fun p u (h:p<T) hu=>hy p u (AC.2 h) hu;have hpos:0<T:=by omega
 clear hT hp;refine h3w AD okP e7j rfl fun E Sg hb hS F hF=> ?_;simp only[List.length_cons,List.length_nil] at hb;have ett: ∀z,Sg.toNat z=z.toNat:=by subst hS;exact fun _=>rfl
 cbv;refine a1g hS (by clear hy hF hsq hnx;subst hS;simp[AH]) (a1g hS (by clear hy hF hsq hnx;subst hS;simp[AH,big];omega) ?_);refine a7r AD okP hS (σ:=Nat×(Nat->Int)) (fun s=>s.1<T/\ ∀j,j<ns->s.2 j=h5j sz ns s.1 j) (fun s=>T-s.1)
  (fun s=>⟨b5r [(1,.yl 2),(2,.ptr 4 0),(4,.msl 5 1 none ns false),(5,int s.1)] 49,[A s.1,B s.1,C s.1,D s.1,.var [isl ns sz,isl no od],arrI ns s.2],[3]⟩) (0,fun _=>0) ⟨hpos,fun j hj=>rfl⟩ ?_ ?_
 ·refine a4c rfl ⟨AA _,AA _,(by clear hy hF hsq hnx;subst hS;exact AA _),a6c rfl,trivial⟩ (.cons (.refl _) (.cons (.refl _) (.cons (.refl _) (.cons (.refl _) (.cons (.refl _) (.cons (AN ?_ ?_) (.nil _))))))) (by simp;omega) (.inr rfl) rfl
  ·clear hy hF hsq hnx;subst hS;rfl
  ·intro j hj;clear hy hF hsq hnx;subst hS;simp only[AH] at hj⊢;rw[if_pos hj];exact .one (.int rfl)
 ·rintro⟨p,u⟩ ⟨hp1,hu⟩ N hN;simp only at hp1 hu hN;have hyp:=hy p u hp1 hu;obtain⟨g1,g2⟩:=hsq p hp1;obtain⟨n1,n2⟩:=hnx p hp1;cbv;refine i5x hS hyp ?_;rintro pg v H' ⟨rfl,rfl,rfl⟩;cbv;refine a1g hS (by clear hy hF hsq hnx hyp hN;subst hS;exact b6g (by simp[AH];omega) (by simp[AH];omega)) ?_;refine a7r AD okP hS (σ:=Nat×(Nat->Int)) (fun s=>s.1<=ns/\h5h sz ns (h5j sz ns p)=h5h sz s.1 s.2/\i2j sz s.2 ns) (fun s=>s.1)
   (fun s=>⟨b5r [(1,.yl 2),(2,.ptr 4 0),(4,.msl 5 1 none ns false),(5,int p),(6,int (i4w s.1))] 49,[A (p+1),B (p+1),C (p+1),D (p+1),.var [isl ns sz,isl no od],arrI ns s.2],[3]⟩) (ns,h5j sz ns p) ⟨by simp,rfl,g1⟩ ?_ ?_
  ·refine a4c rfl ⟨AA _,AA _,AA _,AA _,b0a ?_,trivial⟩ (.cons (.refl _) (.cons (.refl _) (.cons (.refl _) (.cons (.refl _) (.cons (.refl _) (.cons (a9v.arrI rfl fun j hj=>by rw[hu j hj]) (.nil _))))))) (by simp;omega) (.inr rfl) rfl;rw[h9p];clear hy hF hsq hnx hyp hN;subst hS;rfl
  ·rintro⟨k,w⟩ ⟨hk,hc,hw⟩ M hM;simp only at hk hc hw hM;cases k with
   |zero=>
    have hend:=n2 hc;cbv;split
    ·rename_i h;exfalso;clear hy hF hsq hnx hyp hN hM;subst hS;simp[AH] at h
    cbv;split
    ·cbv;exact⟨[3],by simp,hF (h1:=[A (p+1),B (p+1),C (p+1),D (p+1)]) (.cons (.refl _) (.cons (.refl _) (.cons (.refl _) (.cons (.refl _) (.nil _))))) (AA _) (by simp) (.inl ⟨rfl,hlow (p+1)⟩) ⟨rfl,p+1,by rw[hend],rfl⟩⟩
    ·rename_i h;exfalso;clear hy hF hsq hnx hyp hN hM;subst hS;simp[AH] at h
   |succ k=>
    rw[h5h] at hc;have hszk:=hs k (by omega);have hwk:=hw k (by omega);cbv;split
    rotate_left
    ·rename_i h;exfalso;clear hy hF hsq hnx hyp hN hM;subst hS;simp[AH] at h<;>omega
    cbv;refine a1g hS (by clear hy hF hsq hnx hyp hN hM;subst hS;simp[AH];omega) ?_;refine a1g hS (by clear hy hF hsq hnx hyp hN hM;subst hS;simp[AH];omega) ?_;refine a1g hS (by clear hy hF hsq hnx hyp hN hM;subst hS;simp[AH];omega) ?_;simp only[nat,ett,AF,AB];refine a1g hS (by clear hy hF hsq hnx hyp hN hM;subst hS;exact b6g (by simp[AH];omega) (by simp[AH];omega)) ?_;split
    ·have he:w k=sz k-1:=by clear hy hF hsq hnx hyp hN hM;subst hS;simp[AH] at*;assumption
     rw[if_pos he] at hc;cbv;refine a1g hS (by clear hy hF hsq hnx hyp hN hM;subst hS;simp[AH];omega) ?_;simp only[nat,ett,AF,AB];refine a1g hS (by clear hy hF hsq hnx hyp hN hM;subst hS;simp[AH];omega) ?_;refine a1g hS (by clear hy hF hsq hnx hyp hN hM;subst hS;exact b6g (by simp[AH];omega) (by simp[AH];omega)) ?_;refine hM (k,h4l w k 0) _ ⟨by simp;omega,hc,fun j hj=> ?_⟩ (by simp) (a4c rfl ⟨AA _,AA _,AA _,AA _,b0a ?_,trivial⟩ (.cons (.refl _) (.cons (.refl _) (.cons (.refl _) (.cons (.refl _) (.cons (.refl _) (.cons (AN rfl fun j hj=> ?_) (.nil _))))))) (by simp;omega) (.inr rfl) rfl)
     ·simp only[h4l];split
      ·rename_i e;subst e;omega
      ·exact hw j hj
     ·rw[h9p];clear hy hF hsq hnx hyp hN hM;subst hS;simp[AH]
     ·clear hy hF hsq hnx hyp hN hM;subst hS;simp only[AH,h4l];split
      ·exact .one (.int rfl)
      ·exact .refl _
    ·have he:w k≠sz k-1:=by clear hy hF hsq hnx hyp hN hM;subst hS;simp[AH] at*;assumption
     rw[if_neg he] at hc;obtain⟨q1,q2⟩:=n1 _ hc;cbv;split
     ·rename_i h;exfalso;clear hy hF hsq hnx hyp hN hM;subst hS;simp[AH] at h<;>omega
     cbv;refine a1g hS (by clear hy hF hsq hnx hyp hN hM;subst hS;simp[AH];omega) ?_;simp only[nat,ett,AF,AB];refine a1g hS (by clear hy hF hsq hnx hyp hN hM;subst hS;simp[AH];omega) ?_;refine a1g hS (by clear hy hF hsq hnx hyp hN hM;subst hS;exact b6g (by simp[AH];omega) (by simp[AH];omega)) ?_;refine a1g hS (by clear hy hF hsq hnx hyp hN hM;subst hS;simp[AH];omega) ?_;refine a1g hS (by clear hy hF hsq hnx hyp hN hM;subst hS;simp[AH];omega) ?_;refine a1g hS (by clear hy hF hsq hnx hyp hN hM;subst hS;exact b6g (by simp[AH];omega) (by simp[AH];omega)) ?_;refine hN (p+1,h4l w k (w k+1)) _ ⟨q2,fun j hj=>by rw[q1]⟩ (by simp;omega) (a4c rfl ⟨AA _,AA _,AA _,b0a ?_,trivial⟩ (.cons (.refl _) (.cons (.refl _) (.cons (.refl _) (.cons (.refl _) (.cons (.refl _) (.cons (a9v.arrI rfl fun j hj=> ?_) (.nil _))))))) (by simp;omega) (.inr rfl) rfl)
     ·clear hy hF hsq hnx hyp hN hM;subst hS;simp[AH]
     ·clear hy hF hsq hnx hyp hN hM;subst hS;simp only[AH,h4l];split<;>rfl
def DiR.cell (d:DiR)(i:Nat):VaR:=d.en (-1-h5d d (h5j d.sz d.ns i) d.root).toNat
def i7m:a0c×a0c:=match g9y with| .seq _ (.seq (.seq _ (.block _ (.range _ _ a b))) _)=>(a,b)|_=>(.ret,.ret)
def i3j:a0f:= .loop .ready (b5r [(1,.ptr 0 0),(2,.ptr 1 0)] 22) [8,9] (fun ca cb=>comp AE g1f.A ca=some i7m.1/\comp AE g1f.A cb=some i7m.2)
def DiR.lcs (d:DiR):List AV:=[isl d.ns d.sz,isl d.no d.od,isl d.ns d.sz,isl d.no d.od,vsl d.ne d.en,bsl d.nn d.var d.nk d.kid,int d.root]
theorem i0e {d:DiR}(hl:h3x d){pl u:Nat->Int}(hpu: ∀j,j<d.ns->pl j=u j)(hp:i3i d pl)(hu:i3i d u)(k:Int)(hk:h4k d.ne k d.nn):h5d d pl k=h5d d u k:=by
 have: ∀(m:Nat) (k:Int),k<m->k<d.nn->h5d d pl k=h5d d u k:=by
  intro m
  induction m with
  |zero=>intro k hm hn;rw[h4c (by omega),h4c (by omega)]
  |succ m ih=>
   intro k hm hn;by_cases h0:k<0
   ·rw[h4c h0,h4c h0]
   ·obtain⟨i,rfl⟩: ∃i:Nat,k=i:=⟨k.toNat,by omega⟩;have hi:i<d.nn:=by omega
    have h1:=(h5q hl hp hi);rw[h4x hl hp hi,h4x hl hu hi,hpu _ (by have:=h1.1;omega)];have h2:=h1.2.2;rw[hpu _ (by have:=h1.1;omega)] at h2;have hlt:d.kid i (u (d.var i).toNat).toNat<i:=by
     rcases AG (d.kid i (u (d.var i).toNat).toNat) 0 with h|h
     ·omega
     ·exact h2.1 h
    exact ih _ (by omega) (by omega)
 rcases AG k 0 with h|h
 ·rw[h4c h,h4c h]
 ·exact this (k.toNat+1) k (by omega) (hk.1 h)
theorem i4f (d:DiR)(hl:h3x d)(hf:d.fit)(hs: ∀j,j<d.ns->1<=d.sz j/\d.sz j<=12){T:Nat}(hT:(T:Int)=h4d d.sz d.ns)(hp:T<=2000):
 a0j AE false 203 [d.lav] (vsl T d.cell):=by
 have hway:=fun pl h=>i6j d hl hf pl h;have hne:=hf.ne;have hns:=hf.ns;refine a0k AD okP e9k _ rfl fun E Sg hb hS=> ?_;have ett: ∀z,Sg.toNat z=z.toNat:=by subst hS;exact fun _=>rfl
 cbv;refine i0x hS rfl ?_;have hc:=(a1h.nilH (args:=[.agg [isl d.ns d.sz,isl d.no d.od],.yl 2]) (args':=[.agg [isl d.ns d.sz,isl d.no d.od],.yl 2]) (h:=[.var d.lcs,.var [.d .nil],i3j]) (h2:=[.var d.lcs,.var [.msl 3 2 none 0 false],i3j]) 2 (fun i=>(d.cell i).row) (i0o d.sz d.od (no:=d.no) hns hs (by rw[<-hT];exact AK.2 hp) (fun _=> .var d.lcs) (fun p=> .var [.msl 3 2 none p false]) (fun _=>i3j) (fun p=> .arr 2 p fun i=>(d.cell i).row) (fun p=>rfl) ?_) ⟨.inl rfl,.inl rfl,trivial⟩ ⟨.inl rfl,.inr ⟨_,_,rfl,rfl,.inr ⟨rfl,rfl⟩,trivial⟩,.inl rfl,trivial⟩).pgs
 ·refine (a1h.mono ?_ (hc.heap (.cons (AJ _) (.cons (AJ _) (.cons (AM ?_ fun a b h=>h) (.nil _)))) rfl))
  ·rintro pg v h' ⟨pg1,⟨rfl,q,hq,rfl⟩,rfl⟩;obtain rfl:q=T:=Int.ofNat.inj (hq.trans hT.symm);clear hc;cbv;refine⟨fun h=>(nomatch h),_,_,_,_,rfl,?_⟩;cbv;exact a1g hS (by subst hS;exact Nat.le_refl _) (AA _)
  ·exact d2w rfl ⟨AA _,AA _,trivial⟩
 ·intro p u hp1 hu;have hpl:i3i d u:=fun j hj=>by rw[hu j hj];exact (h5s (n:=d.ns) (fun j hj=>(hs j hj).1) p hp1).1 j hj
  obtain⟨hw1,hw2⟩:=hway u hpl;have hwe:h5d d (h5j d.sz d.ns p) d.root=h5d d u d.root:=i0e hl (fun j hj=>(hu j hj).symm) (fun j hj=>by rw[<-hu j hj];exact hpl j hj) hpl _ (h4g hl.2.2);refine b5d.cut (b9t AD okP (A:=g1f.A) rfl (fun _ _ h=>h) rfl fun ro E Sg hS=> ?_);have ett: ∀z,Sg.toNat z=z.toNat:=by subst hS;exact fun _=>rfl
  clear hway;cbv;refine⟨fun h=>(nomatch h),_,_,_,rfl,?_⟩;cbv;refine a1g hS (by subst hS;exact Nat.le_refl _) ?_;have hix:0<= -1-h5d d u d.root/\ -1-h5d d u d.root<d.ne:=⟨by have:=hw1.1;omega,hw1.2 (by have:=hw1.1;omega)⟩;obtain⟨W,hW⟩: ∃W,-1-h5d d u d.root=W:=⟨_,rfl⟩;have hcell:d.cell p=d.en W.toNat:=by rw[<-hW];exact congrArg (fun z=>d.en (-1-z).toNat) hwe
  rw[hW] at hw2 hix;have hpT:p<T:=by have h:=hp1;rw[<-hT] at h;exact AC.1 h
  refine a0v hS _ hw2 ?_;cbv;refine a1g hS (by subst hS;rfl) (a1g hS (by subst hS;rfl) (a1g hS (by clear hw2;subst hS;exact hix) (a1g hS (by subst hS;rfl) (a1g hS trivial (a1g hS (by clear hw2;subst hS;simp[AH];omega) ?_)))));refine⟨fun h=>(nomatch h),_,_,_,rfl,[3],?_,?_⟩
  ·exact fun m _ h=>h
  ·cbv;refine⟨[.var d.lcs,.var [.msl 3 2 none (p+1) false],i3j,.arr 2 (p+1) fun i=>(d.cell i).row,.var [isl d.ns d.sz,isl d.no d.od],arrI d.ns u],.d (.bool true),?_,AA _,by simp,.inr ?_,rfl,rfl,rfl⟩
   ·refine .cons (AJ _) (.cons (a9v.var (.cons ?_ .nil)) (.cons (AM (d2w rfl ⟨AA _,AA _,trivial⟩) fun a b h=>h) (.cons (a9v.arr' ?_ ?_) (.cons (AJ _) (.cons (AJ _) (.nil _))))))
    ·subst hS;exact AA _
    ·subst hS;rfl
    ·intro i hi;subst hS;simp only[AH] at hi⊢;by_cases h:i<p
     ·rw[if_pos h]
     ·obtain rfl:i=p:=by omega
      rw[if_neg (by omega),Nat.sub_self,hcell];rfl
   ·rfl
theorem i5u (d:DiR)(hf:d.fit)(h0: ∀i,i<d.ne->0<=(d.en i).fault)(hno:d.no<=12)(r:Int)(hr:h5o d=r)(v:AV)
 (hv:(r≠0/\v= .d .nil)\/(r=0/\ ∃T:Nat,(T:Int)=h4d d.sz d.ns/\v=vsl T d.cell)):a0j AE false 170 [d.av] (.tuple [v,int r]):=by
 obtain⟨w,hw,ho⟩:=i1u d hf h0 hno r hr;by_cases hz:r=0
 ·subst hz;obtain⟨⟨k1,k2,k3⟩,k4⟩:(h4e d.ns d.no d.sz d.od=0/\d.nn<=6000/\h3x d)/\h5e d:=⟨h4q (h6x hr).1,(h6x hr).2⟩;obtain⟨f1,f2,f3,f4⟩:=h4s k1;obtain⟨_,T,hT,rfl⟩:=hv.resolve_left fun h=>h.1 rfl;obtain rfl:=hw.resolve_right fun h=>h.1 k1;have hl:=i4f d k3 hf f2 hT (AK.1 (by rw[<-hT] at f3;exact f3));clear hw hv hr k1 k2 k3 k4 f1 f2 f3 f4;refine a0k AD okP e9e _ rfl fun E Sg hb hS=> ?_;cbv;refine a0v hS _ ho ?_;cbv;split
  ·rename_i h;exfalso;clear ho hl;subst hS;simp[AH] at h
  cbv;refine a0v hS _ hl ?_;cbv;exact a3x.tuple (.cons (AA _) (.cons (a6c rfl) .nil))
 ·obtain⟨_,rfl⟩:=hv.resolve_right fun h=>hz h.1;clear hv hr;rcases hw with rfl|⟨_,rfl⟩<;>
  ·refine a0k AD okP e9e _ rfl fun E Sg hb hS=> ?_;cbv;refine a0v hS _ ho ?_;cbv;split
   rotate_left
   ·rename_i h;exfalso;clear ho;subst hS;simp[AH,hz] at h
   cbv;exact a3x.tuple (.cons (AA _) (.cons (b0a rfl) .nil))
end Go.Proofs.Tryz.Run
