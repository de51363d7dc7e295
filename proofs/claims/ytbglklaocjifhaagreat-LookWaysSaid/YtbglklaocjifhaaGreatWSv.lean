/- The way of a place in a loose diagram. All places of a frame, in their order: the plain law. The program's walk through all places. Conditions: none. -/
import Derived.Test.YtbglklaocjifhaaGreatWLr
import Derived.Test.YtbglklaocjifhaaGreatWNb
import Derived.Test.YtbglklaocjifhaaGreatWNe
import Derived.Test.YtbglklaocjifhaaGreatWQd
import Derived.Test.YtbglklaocjifhaaGreatWQf
import Derived.Test.YtbglklaocjifhaaGreatWQi
import Derived.Test.YtbglklaocjifhaaGreatWSd
import Derived.Test.YtbglklaocjifhaaGreatWSg
set_option linter.unusedSimpArgs false
set_option linter.unusedVariables false
set_option maxHeartbeats 0
namespace Go.Proofs.Tryz.Run
open Go Go.Vf Go.Proofs
open Go.Proofs.YtbglklaocjifhaaGreat
def i2i (d:DiR)(pl:Nat->Int):Nat->Int->Int
 |0,k=>k
 |f+1,k=>if k<0 then k else i2i d pl f (d.kid k.toNat (pl (d.var k.toNat).toNat).toNat)
def h5d (d:DiR)(pl:Nat->Int)(k:Int):Int:=i2i d pl (k.toNat+1) k
def i3i (d:DiR)(pl:Nat->Int):Prop:= ∀j,j<d.ns->0<=pl j/\pl j<d.sz j
theorem h5q {d:DiR}(hl:h3x d){pl:Nat->Int}(hp:i3i d pl){k:Nat}(hk:k<d.nn):
 (0<=d.var k/\d.var k<d.ns)/\(0<=pl (d.var k).toNat/\pl (d.var k).toNat<(d.nk k:Int))/\h4k d.ne (d.kid k (pl (d.var k).toNat).toNat) k:=by
 obtain⟨⟨⟨a,b⟩,c⟩,e⟩:=hl.2.1 k hk
 have h1:=hp (d.var k).toNat (by omega)
 rw[<-c] at h1
 exact⟨⟨a,by omega⟩,h1,h4g (e _ (by omega)).1⟩
theorem i2n {d:DiR}(hl:h3x d){pl:Nat->Int}(hp:i3i d pl): ∀(f:Nat) (k:Int),k<f->k<d.nn->i2i d pl f k=h5d d pl k:=by
 have key: ∀(m:Nat) (f f':Nat) (k:Int),k<m->k<f->k<f'->k<d.nn->i2i d pl f k=i2i d pl f' k:=by
  intro m
  induction m with
  |zero=>
   intro f f' k hm hf hf' hn
   have:k<0:=by omega
   cases f<;>cases f'<;>simp[i2i,this]
  |succ m ih=>
   intro f f' k hm hf hf' hn
   by_cases h0:k<0
   ·cases f<;>cases f'<;>simp[i2i,h0]
   ·obtain⟨i,rfl⟩: ∃i:Nat,k=i:=⟨k.toNat,by omega⟩
    obtain⟨g,rfl⟩: ∃g,f=g+1:=⟨f-1,by omega⟩
    obtain⟨g',rfl⟩: ∃g,f'=g+1:=⟨f'-1,by omega⟩
    have hi:i<d.nn:=by omega
    have h1:=(h5q hl hp hi).2.2
    simp only[i2i,if_neg h0,Int.toNat_natCast]
    have hlt:d.kid i (pl (d.var i).toNat).toNat<i:=by
     rcases Int.lt_or_le (d.kid i (pl (d.var i).toNat).toNat) 0 with h|h
     ·omega
     ·exact h1.1 h
    exact ih g g' _ (by omega) (by omega) (by omega) (by omega)
 intro f k hf hn
 exact key (k.toNat+1) f (k.toNat+1) k (by omega) hf (by omega) hn
theorem h4x {d:DiR}(hl:h3x d){pl:Nat->Int}(hp:i3i d pl){i:Nat}(hi:i<d.nn):h5d d pl i=h5d d pl (d.kid i (pl (d.var i).toNat).toNat):=by
 have h1:=(h5q hl hp hi).2.2
 have hlt:d.kid i (pl (d.var i).toNat).toNat<i:=by
  rcases Int.lt_or_le (d.kid i (pl (d.var i).toNat).toNat) 0 with h|h
  ·omega
  ·exact h1.1 h
 rw[<-i2n hl hp i _ hlt (by omega)]
 unfold h5d
 rw[Int.toNat_natCast,i2i,if_neg (by omega)]
 simp only[Int.toNat_natCast]
theorem h4c {d:DiR}{pl:Nat->Int}{k:Int}(h:k<0):h5d d pl k=k:=by
 unfold h5d
 rw[i2i,if_pos h]
theorem j5u (gid:FuncId)(hnop: ∀x:Int,a1h Tryz.prog gid [int x] [] (fun pg v h'=>pg=[]/\h'=[]))(d:DiR)(hl:h3x d)(hf:d.fit)(pl:Nat->Int)(hp:i3i d pl):h4k d.ne (h5d d pl d.root) 0/\a0j Tryz.prog true 162 [d.lav,isl d.ns pl,.fn gid [] []] (int (-1-h5d d pl d.root)):=by
 have hro:=h4g hl.2.2
 have hnx:=fun k hk=>h5q hl hp (k:=k) hk
 have hst:=fun i hi=>h4x hl hp (i:=i) hi
 have hwe: ∀k:Int,h4k d.ne k d.nn->h5d d pl k<0/\ -1-h5d d pl k<d.ne:=by
  have: ∀(m:Nat) (k:Int),k<m->h4k d.ne k d.nn->h5d d pl k<0/\ -1-h5d d pl k<d.ne:=by
   intro m
   induction m with
   |zero=>intro k hm hr;rw[h4c (by omega)];exact⟨by omega,hr.2 (by omega)⟩
   |succ m ih=>
    intro k hm hr
    by_cases h0:k<0
    ·rw[h4c h0];exact⟨h0,hr.2 h0⟩
    ·obtain⟨i,rfl⟩: ∃i:Nat,k=i:=⟨k.toNat,by omega⟩
     have hi:i<d.nn:=by have:=hr.1 (by omega);omega
     rw[hst i hi]
     have h1:=(hnx i hi).2.2
     refine ih _ ?_ ⟨fun h=>by have:=h1.1 h;omega,h1.2⟩
     rcases Int.lt_or_le (d.kid i (pl (d.var i).toNat).toNat) 0 with h|h
     ·omega
     ·have:=h1.1 h;omega
  intro k hr
  exact this (k.toNat+1) k (by omega) hr
 have hw:=hwe d.root hro
 refine⟨⟨fun h=>by omega,fun _=>hw.2⟩,?_⟩
 have hne:=hf.ne
 have hnn:=hf.nn
 have hend:=h9k (h5d d pl d.root) (by omega) (by omega)
 obtain⟨W,hW⟩: ∃W,W=h5d d pl d.root:=⟨_,rfl⟩
 rw[<-hW] at hw hend⊢
 have hlast: ∀k:Int,k<0->h5d d pl k=W->k=W:=fun k h e=>by rw[h4c h] at e;exact e
 obtain⟨Y,hY⟩: ∃Y:Int->Int,∀k,h5d d pl k=Y k:=⟨_,fun _=>rfl⟩
 simp only[hY] at hst hlast hW
 clear hwe hY hl hp hf
 obtain⟨ns,sz,no,od,ne,en,nn,var,nk,kid,root⟩:=d
 simp only at hnx hst hW hro
 refine a4e (a0k Tryz.mixed okP f1o _ rfl fun E Sg hb hS=> ?_)
 have ett: ∀z,Sg.toNat z=z.toNat:=by subst hS;exact fun _=>rfl
 cbv
 refine a7r Tryz.mixed okP hS (σ:=Int) (fun k=>h4k ne k nn/\Y k=W) (fun k=>(k+1).toNat)
  (fun k=>⟨b5r [(1,isl ns pl),(2,.fn gid [] []),(3,.ptr 0 0),(7,int k)] 37,[.var [isl ns sz,isl no od,isl ns sz,isl no od,vsl ne en,bsl nn var nk kid,int root]],[]⟩) root ⟨hro,hW.symm⟩ ?_ ?_
 ·exact a4c rfl ⟨a0x.refl _,a0x.refl _,a0x.refl _,a0x.refl _,trivial⟩ (.cons (.refl _) (.nil _)) (by simp;omega) (.inr rfl) rfl
 ·rintro k ⟨hk1,hk2⟩ N hN
  cbv
  split
  ·have h0:0<=k:=by clear hN hend;subst hS;simp[std] at*;assumption
   obtain⟨i,rfl⟩: ∃i:Nat,k=i:=⟨k.toNat,by omega⟩
   have hi:i<nn:=Int.ofNat_lt.1 (hk1.1 (Int.natCast_nonneg i))
   obtain⟨n1,n2,n3⟩:=hnx i hi
   cbv
   refine h3v hS (a1h.frame (hnop i) [] rfl rfl trivial) ?_
   rintro pg v H' ⟨pg0,v0,h0',⟨rfl,rfl⟩,rfl,rfl,rfl⟩
   cbv
   refine a1g hS (by clear hN hend;subst hS;exact⟨Int.natCast_nonneg i,Int.ofNat_lt.2 hi⟩) ?_
   refine a1g hS (by clear hN hend;subst hS;exact⟨Int.natCast_nonneg i,Int.ofNat_lt.2 hi⟩) ?_
   simp only[nat,ett,Int.ofNat_eq_natCast,Int.toNat_natCast]
   refine a1g hS (by clear hN hend;subst hS;exact n1) ?_
   refine a1g hS (by clear hN hend;subst hS;exact n2) ?_
   refine hN (kid i (pl (var i).toNat).toNat) _ ⟨⟨fun h=>Int.lt_trans (n3.1 h) (Int.ofNat_lt.2 hi),n3.2⟩,by rw[<-hst i hi];exact hk2⟩ ?_ (a4c rfl ⟨a0x.refl _,a0x.refl _,a0x.refl _,a0x.refl _,trivial⟩ (.cons (.refl _) (.nil _)) (by simp;omega) (.inr rfl) rfl)
   rcases Int.lt_or_le (kid i (pl (var i).toNat).toNat) 0 with h|h
   ·omega
   ·have:=n3.1 h;omega
  ·have h0:k<0:=by clear hN hend;subst hS;simp[std] at*;omega
   have hkW:=hlast k h0 hk2
   subst hkW
   cbv
   refine a0v hS _ (by subst hS;exact hend) ?_
   cbv
   exact a0x.refl _
def h4l (pl:Nat->Int)(k:Nat)(z:Int):Nat->Int:=fun j=>if j=k then z else pl j
def h5h (sz:Nat->Int):Nat->(Nat->Int)->Option (Nat->Int)
 |0,_=>none
 |k+1,pl=>if pl k=sz k-1 then h5h sz k (h4l pl k 0) else some (h4l pl k (pl k+1))
def h4w (sz pl:Nat->Int):Nat->Int
 |0=>0
 |k+1=>h4w sz pl k*sz k+pl k
def i2j (sz pl:Nat->Int)(n:Nat):Prop:= ∀j,j<n->0<=pl j/\pl j<sz j
theorem h5a {sz pl pl':Nat->Int}: ∀{k:Nat},(∀j,j<k->pl j=pl' j)->h4w sz pl k=h4w sz pl' k
 |0,_=>rfl
 |k+1,h=>by rw[h4w,h4w,h5a fun j hj=>h j (by omega),h k (by omega)]
theorem h5c {sz pl:Nat->Int}: ∀{n:Nat},i2j sz pl n->0<=h4w sz pl n/\h4w sz pl n<h4d sz n
 |0,_=>by simp[h4w,h4d]
 |n+1,h=>by
  have h1:=h5c (n:=n) fun j hj=>h j (by omega)
  have h2:=h n (by omega)
  rw[h4w,h4d]
  have a:0<=h4w sz pl n*sz n:=Int.mul_nonneg h1.1 (by omega)
  have b:(h4w sz pl n+1)*sz n<=h4d sz n*sz n:=Int.mul_le_mul_of_nonneg_right (by omega) (by omega)
  rw[Int.add_mul] at b
  omega
theorem h5t {sz:Nat->Int}: ∀{k:Nat} {pl pl':Nat->Int},i2j sz pl k->h5h sz k pl=some pl'->h4w sz pl' k=h4w sz pl k+1/\i2j sz pl' k/\ ∀j,k<=j->pl' j=pl j
 |0,_,_,_,h=>by simp[h5h] at h
 |k+1,pl,pl',hp,h=>by
  rw[h5h] at h
  have hk:=hp k (by omega)
  split at h
  ·rename_i he
   have h1:=h5t (k:=k) (pl:=h4l pl k 0) (fun j hj=>by simp only[h4l];rw[if_neg (by omega)];exact hp j (by omega)) h
   have e0:pl' k=0:=by rw[h1.2.2 k (Nat.le_refl k)];simp[h4l]
   have ev:h4w sz (h4l pl k 0) k=h4w sz pl k:=h5a fun j hj=>by simp only[h4l];rw[if_neg (by omega)]
   refine⟨?_,fun j hj=> ?_,fun j hj=> ?_⟩
   ·rw[h4w,h4w,h1.1,ev,e0,Int.add_mul];omega
   ·by_cases e:j=k
    ·subst e;rw[e0];omega
    ·exact h1.2.1 j (by omega)
   ·rw[h1.2.2 j (by omega)];simp only[h4l];rw[if_neg (by omega)]
  ·rename_i he
   cases h
   have ev:h4w sz (h4l pl k (pl k+1)) k=h4w sz pl k:=h5a fun j hj=>by simp only[h4l];rw[if_neg (by omega)]
   refine⟨?_,fun j hj=> ?_,fun j hj=> ?_⟩
   ·rw[h4w,h4w,ev];simp only[h4l,if_pos];omega
   ·simp only[h4l]
    by_cases e:j=k
    ·subst e;rw[if_pos rfl];omega
    ·rw[if_neg e];exact hp j (by omega)
   ·simp only[h4l];rw[if_neg (by omega)]
theorem h5r {sz:Nat->Int}: ∀{k:Nat} {pl:Nat->Int},i2j sz pl k->h5h sz k pl=none->h4w sz pl k=h4d sz k-1
 |0,_,_,_=>by simp[h4w,h4d]
 |k+1,pl,hp,h=>by
  rw[h5h] at h
  have hk:=hp k (by omega)
  split at h
  ·rename_i he
   have h1:=h5r (k:=k) (pl:=h4l pl k 0) (fun j hj=>by simp only[h4l];rw[if_neg (by omega)];exact hp j (by omega)) h
   have ev:h4w sz (h4l pl k 0) k=h4w sz pl k:=h5a fun j hj=>by simp only[h4l];rw[if_neg (by omega)]
   rw[ev] at h1
   rw[h4w,h4d,h1,he,Int.sub_mul]
   omega
  ·cases h
def h5j (sz:Nat->Int)(n:Nat):Nat->(Nat->Int)
 |0=>fun _=>0
 |p+1=>(h5h sz n (h5j sz n p)).getD (h5j sz n p)
theorem h7i {sz:Nat->Int}: ∀n,h4w sz (fun _=>0) n=0
 |0=>rfl
 |n+1=>by rw[h4w,h7i n];simp
theorem h5s {sz:Nat->Int}{n:Nat}(hs: ∀j,j<n->1<=sz j): ∀p:Nat,(p:Int)<h4d sz n->i2j sz (h5j sz n p) n/\h4w sz (h5j sz n p) n=p
 |0,_=>⟨fun j hj=>by have:=hs j hj;simp only[h5j];omega,h7i n⟩
 |p+1,h=>by
  obtain⟨h1,h2⟩:=h5s hs p (by omega)
  cases hc:h5h sz n (h5j sz n p) with
  |none=>
   have:=h5r h1 hc
   omega
  |some q=>
   have h3:=h5t h1 hc
   rw[h5j,hc]
   exact⟨h3.2.1,by simp only[Option.getD];rw[h3.1,h2];omega⟩
end Go.Proofs.Tryz.Run
