/- The way of a place in a loose diagram. All places of a frame, in their order: the plain law. The program's walk through all places. The program's test that all diagrams of a family have the frame. Conditions: none. -/
import Derived.Test.YtpcokdalcafgdaaGreatWLq
import Derived.Test.YtpcokdalcafgdaaGreatWNa
import Derived.Test.YtpcokdalcafgdaaGreatWNc
import Derived.Test.YtpcokdalcafgdaaGreatWLh
import Derived.Test.YtpcokdalcafgdaaGreatWNb
import Derived.Test.YtpcokdalcafgdaaGreatWOh
import Derived.Test.YtpcokdalcafgdaaGreatWPm0
import Derived.Test.YtpcokdalcafgdaaGreatWQd
import Derived.Test.YtpcokdalcafgdaaGreatWQf
import Derived.Test.YtpcokdalcafgdaaGreatWQh
import Derived.Test.YtpcokdalcafgdaaGreatWQi
import Derived.Test.YtpcokdalcafgdaaGreatWSd
import Derived.Test.YtpcokdalcafgdaaGreatWSg
set_option linter.unusedSimpArgs false
set_option linter.unusedVariables false
set_option maxHeartbeats 0
namespace Go.Proofs.Tryz.Run
open Go Go.Vf Go.Proofs
open Go.Proofs.YtpcokdalcafgdaaGreat
def d8v (d:DiR)(pl:Nat->Int):Nat->Int->Int
 |0,k=>k
 |f+1,k=>if k<0 then k else d8v d pl f (d.kid k.toNat (pl (d.var k.toNat).toNat).toNat)
def wayE (d:DiR)(pl:Nat->Int)(k:Int):Int:=d8v d pl (k.toNat+1) k
def d2d (d:DiR)(pl:Nat->Int):Prop:= ∀j,j<d.ns->0<=pl j/\pl j<d.sz j
theorem a8b {d:DiR}(hl:a1s d){pl:Nat->Int}(hp:d2d d pl){k:Nat}(hk:k<d.nn):
 (0<=d.var k/\d.var k<d.ns)/\(0<=pl (d.var k).toNat/\pl (d.var k).toNat<(d.nk k:Int))/\a4g d.ne (d.kid k (pl (d.var k).toNat).toNat) k:=by
 obtain⟨⟨⟨a,b⟩,c⟩,e⟩:=hl.2.1 k hk
 have h1:=hp (d.var k).toNat (by omega)
 rw[<-c] at h1
 exact⟨⟨a,by omega⟩,h1,a3f (e _ (by omega)).1⟩
theorem e2k {d:DiR}(hl:a1s d){pl:Nat->Int}(hp:d2d d pl): ∀(f:Nat) (k:Int),k<f->k<d.nn->d8v d pl f k=wayE d pl k:=by
 have key: ∀(m:Nat) (f f':Nat) (k:Int),k<m->k<f->k<f'->k<d.nn->d8v d pl f k=d8v d pl f' k:=by
  intro m
  induction m with
  |zero=>
   intro f f' k hm hf hf' hn
   have:k<0:=by omega
   cases f<;>cases f'<;>simp[d8v,this]
  |succ m ih=>
   intro f f' k hm hf hf' hn
   by_cases h0:k<0
   ·cases f<;>cases f'<;>simp[d8v,h0]
   ·obtain⟨i,rfl⟩: ∃i:Nat,k=i:=⟨k.toNat,by omega⟩
    obtain⟨g,rfl⟩: ∃g,f=g+1:=⟨f-1,by omega⟩
    obtain⟨g',rfl⟩: ∃g,f'=g+1:=⟨f'-1,by omega⟩
    have hi:i<d.nn:=by omega
    have h1:=(a8b hl hp hi).2.2
    simp only[d8v,if_neg h0,Int.toNat_natCast]
    have hlt:d.kid i (pl (d.var i).toNat).toNat<i:=by
     rcases Int.lt_or_le (d.kid i (pl (d.var i).toNat).toNat) 0 with h|h
     ·omega
     ·exact h1.1 h
    exact ih g g' _ (by omega) (by omega) (by omega) (by omega)
 intro f k hf hn
 exact key (k.toNat+1) f (k.toNat+1) k (by omega) hf (by omega) hn
theorem a5n {d:DiR}(hl:a1s d){pl:Nat->Int}(hp:d2d d pl){i:Nat}(hi:i<d.nn):wayE d pl i=wayE d pl (d.kid i (pl (d.var i).toNat).toNat):=by
 have h1:=(a8b hl hp hi).2.2
 have hlt:d.kid i (pl (d.var i).toNat).toNat<i:=by
  rcases Int.lt_or_le (d.kid i (pl (d.var i).toNat).toNat) 0 with h|h
  ·omega
  ·exact h1.1 h
 rw[<-e2k hl hp i _ hlt (by omega)]
 unfold wayE
 rw[Int.toNat_natCast,d8v,if_neg (by omega)]
 simp only[Int.toNat_natCast]
theorem a2j {d:DiR}{pl:Nat->Int}{k:Int}(h:k<0):wayE d pl k=k:=by
 unfold wayE
 rw[d8v,if_pos h]
theorem f4d (x:Int):a0g Tryz.prog 161 [int x] [] (fun pg v h'=>pg=[]/\h'=[]):=by
 refine a1b Tryz.mixed okP f0o rfl fun E Sg hb hS F hF=> ?_
 cbv
 exact⟨[],by simp,hF (.nil _) (a0b.refl _) (by simp) (.inr rfl) ⟨rfl,rfl⟩⟩
theorem f0z (d:DiR)(hl:a1s d)(hf:d.fit)(pl:Nat->Int)(hp:d2d d pl):a4g d.ne (wayE d pl d.root) 0/\a0j Tryz.prog true 160 [d.lav,isl d.ns pl,.fn 161 [] []] (int (-1-wayE d pl d.root)):=by
 have hro:=a3f hl.2.2
 have hnx:=fun k hk=>a8b hl hp (k:=k) hk
 have hst:=fun i hi=>a5n hl hp (i:=i) hi
 have hwe: ∀k:Int,a4g d.ne k d.nn->wayE d pl k<0/\ -1-wayE d pl k<d.ne:=by
  have: ∀(m:Nat) (k:Int),k<m->a4g d.ne k d.nn->wayE d pl k<0/\ -1-wayE d pl k<d.ne:=by
   intro m
   induction m with
   |zero=>intro k hm hr;rw[a2j (by omega)];exact⟨by omega,hr.2 (by omega)⟩
   |succ m ih=>
    intro k hm hr
    by_cases h0:k<0
    ·rw[a2j h0];exact⟨h0,hr.2 h0⟩
    ·obtain⟨i,rfl⟩: ∃i:Nat,k=i:=⟨k.toNat,by omega⟩
     have hi:i<d.nn:=by have:=hr.1 (by omega);omega
     rw[hst i hi]
     have h1:=(hnx i hi).2.2
     refine ih _ ?_ ⟨fun h=>by have:=h1.1 h;omega,h1.2⟩
     rcases Int.lt_or_le (d.kid i (pl (d.var i).toNat).toNat) 0 with h|h
     ·omega
     ·have:=h1.1 h;omega
  intro k hr
  exact this (k.toNat+1) k (by omega) hr
 have hw:=hwe d.root hro
 refine⟨⟨fun h=>by omega,fun _=>hw.2⟩,?_⟩
 have hne:=hf.ne
 have hnn:=hf.nn
 have hend:=d0d (wayE d pl d.root) (by omega) (by omega)
 obtain⟨W,hW⟩: ∃W,W=wayE d pl d.root:=⟨_,rfl⟩
 rw[<-hW] at hw hend⊢
 have hlast: ∀k:Int,k<0->wayE d pl k=W->k=W:=fun k h e=>by rw[a2j h] at e;exact e
 obtain⟨Y,hY⟩: ∃Y:Int->Int,∀k,wayE d pl k=Y k:=⟨_,fun _=>rfl⟩
 simp only[hY] at hst hlast hW
 clear hwe hY hl hp hf
 obtain⟨ns,sz,no,od,ne,en,nn,var,nk,kid,root⟩:=d
 simp only at hnx hst hW hro
 refine a1y (a0d Tryz.mixed okP f0w _ rfl fun E Sg hb hS=> ?_)
 have ett: ∀z,Sg.toNat z=z.toNat:=by subst hS;exact fun _=>rfl
 cbv
 refine a0y Tryz.mixed okP hS (σ:=Int) (fun k=>a4g ne k nn/\Y k=W) (fun k=>(k+1).toNat)
  (fun k=>⟨a2l [(1,isl ns pl),(2,.fn 161 [] []),(3,.ptr 0 0),(7,int k)] 37,[.var [isl ns sz,isl no od,isl ns sz,isl no od,vsl ne en,bsl nn var nk kid,int root]],[]⟩) root ⟨hro,hW.symm⟩ ?_ ?_
 ·exact a0m rfl ⟨a0b.refl _,a0b.refl _,a0b.refl _,a0b.refl _,trivial⟩ (.cons (.refl _) (.nil _)) (by simp;omega) (.inr rfl) rfl
 ·rintro k ⟨hk1,hk2⟩ N hN
  cbv
  split
  ·have h0:0<=k:=by clear hN hend;subst hS;simp[std] at*;assumption
   obtain⟨i,rfl⟩: ∃i:Nat,k=i:=⟨k.toNat,by omega⟩
   have hi:i<nn:=Int.ofNat_lt.1 (hk1.1 (Int.natCast_nonneg i))
   obtain⟨n1,n2,n3⟩:=hnx i hi
   cbv
   refine a1a hS (a0g.frame (f4d i) [] rfl rfl trivial) ?_
   rintro pg v H' ⟨pg0,v0,h0',⟨rfl,rfl⟩,rfl,rfl,rfl⟩
   cbv
   refine a0a hS (by clear hN hend;subst hS;exact⟨Int.natCast_nonneg i,Int.ofNat_lt.2 hi⟩) ?_
   refine a0a hS (by clear hN hend;subst hS;exact⟨Int.natCast_nonneg i,Int.ofNat_lt.2 hi⟩) ?_
   simp only[nat,ett,Int.ofNat_eq_natCast,Int.toNat_natCast]
   refine a0a hS (by clear hN hend;subst hS;exact n1) ?_
   refine a0a hS (by clear hN hend;subst hS;exact n2) ?_
   refine hN (kid i (pl (var i).toNat).toNat) _ ⟨⟨fun h=>Int.lt_trans (n3.1 h) (Int.ofNat_lt.2 hi),n3.2⟩,by rw[<-hst i hi];exact hk2⟩ ?_ (a0m rfl ⟨a0b.refl _,a0b.refl _,a0b.refl _,a0b.refl _,trivial⟩ (.cons (.refl _) (.nil _)) (by simp;omega) (.inr rfl) rfl)
   rcases Int.lt_or_le (kid i (pl (var i).toNat).toNat) 0 with h|h
   ·omega
   ·have:=n3.1 h;omega
  ·have h0:k<0:=by clear hN hend;subst hS;simp[std] at*;omega
   have hkW:=hlast k h0 hk2
   subst hkW
   cbv
   refine a0e hS _ (by subst hS;exact hend) ?_
   cbv
   exact a0b.refl _
def a0r (pl:Nat->Int)(k:Nat)(z:Int):Nat->Int:=fun j=>if j=k then z else pl j
def b0a (sz:Nat->Int):Nat->(Nat->Int)->Option (Nat->Int)
 |0,_=>none
 |k+1,pl=>if pl k=sz k-1 then b0a sz k (a0r pl k 0) else some (a0r pl k (pl k+1))
def a5r (sz pl:Nat->Int):Nat->Int
 |0=>0
 |k+1=>a5r sz pl k*sz k+pl k
def d8x (sz pl:Nat->Int)(n:Nat):Prop:= ∀j,j<n->0<=pl j/\pl j<sz j
theorem a8h {sz pl pl':Nat->Int}: ∀{k:Nat},(∀j,j<k->pl j=pl' j)->a5r sz pl k=a5r sz pl' k
 |0,_=>rfl
 |k+1,h=>by rw[a5r,a5r,a8h fun j hj=>h j (by omega),h k (by omega)]
theorem a8u {sz pl:Nat->Int}: ∀{n:Nat},d8x sz pl n->0<=a5r sz pl n/\a5r sz pl n<prod sz n
 |0,_=>by simp[a5r,prod]
 |n+1,h=>by
  have h1:=a8u (n:=n) fun j hj=>h j (by omega)
  have h2:=h n (by omega)
  rw[a5r,prod]
  have a:0<=a5r sz pl n*sz n:=Int.mul_nonneg h1.1 (by omega)
  have b:(a5r sz pl n+1)*sz n<=prod sz n*sz n:=Int.mul_le_mul_of_nonneg_right (by omega) (by omega)
  rw[Int.add_mul] at b
  omega
theorem b2t {sz:Nat->Int}: ∀{k:Nat} {pl pl':Nat->Int},d8x sz pl k->b0a sz k pl=some pl'->a5r sz pl' k=a5r sz pl k+1/\d8x sz pl' k/\ ∀j,k<=j->pl' j=pl j
 |0,_,_,_,h=>by simp[b0a] at h
 |k+1,pl,pl',hp,h=>by
  rw[b0a] at h
  have hk:=hp k (by omega)
  split at h
  ·rename_i he
   have h1:=b2t (k:=k) (pl:=a0r pl k 0) (fun j hj=>by simp only[a0r];rw[if_neg (by omega)];exact hp j (by omega)) h
   have e0:pl' k=0:=by rw[h1.2.2 k (Nat.le_refl k)];simp[a0r]
   have ev:a5r sz (a0r pl k 0) k=a5r sz pl k:=a8h fun j hj=>by simp only[a0r];rw[if_neg (by omega)]
   refine⟨?_,fun j hj=> ?_,fun j hj=> ?_⟩
   ·rw[a5r,a5r,h1.1,ev,e0,Int.add_mul];omega
   ·by_cases e:j=k
    ·subst e;rw[e0];omega
    ·exact h1.2.1 j (by omega)
   ·rw[h1.2.2 j (by omega)];simp only[a0r];rw[if_neg (by omega)]
  ·rename_i he
   cases h
   have ev:a5r sz (a0r pl k (pl k+1)) k=a5r sz pl k:=a8h fun j hj=>by simp only[a0r];rw[if_neg (by omega)]
   refine⟨?_,fun j hj=> ?_,fun j hj=> ?_⟩
   ·rw[a5r,a5r,ev];simp only[a0r,if_pos];omega
   ·simp only[a0r]
    by_cases e:j=k
    ·subst e;rw[if_pos rfl];omega
    ·rw[if_neg e];exact hp j (by omega)
   ·simp only[a0r];rw[if_neg (by omega)]
theorem b2q {sz:Nat->Int}: ∀{k:Nat} {pl:Nat->Int},d8x sz pl k->b0a sz k pl=none->a5r sz pl k=prod sz k-1
 |0,_,_,_=>by simp[a5r,prod]
 |k+1,pl,hp,h=>by
  rw[b0a] at h
  have hk:=hp k (by omega)
  split at h
  ·rename_i he
   have h1:=b2q (k:=k) (pl:=a0r pl k 0) (fun j hj=>by simp only[a0r];rw[if_neg (by omega)];exact hp j (by omega)) h
   have ev:a5r sz (a0r pl k 0) k=a5r sz pl k:=a8h fun j hj=>by simp only[a0r];rw[if_neg (by omega)]
   rw[ev] at h1
   rw[a5r,prod,h1,he,Int.sub_mul]
   omega
  ·cases h
def a9d (sz:Nat->Int)(n:Nat):Nat->(Nat->Int)
 |0=>fun _=>0
 |p+1=>(b0a sz n (a9d sz n p)).getD (a9d sz n p)
theorem c2p {sz:Nat->Int}: ∀n,a5r sz (fun _=>0) n=0
 |0=>rfl
 |n+1=>by rw[a5r,c2p n];simp
theorem a8e {sz:Nat->Int}{n:Nat}(hs: ∀j,j<n->1<=sz j): ∀p:Nat,(p:Int)<prod sz n->d8x sz (a9d sz n p) n/\a5r sz (a9d sz n p) n=p
 |0,_=>⟨fun j hj=>by have:=hs j hj;simp only[a9d];omega,c2p n⟩
 |p+1,h=>by
  obtain⟨h1,h2⟩:=a8e hs p (by omega)
  cases hc:b0a sz n (a9d sz n p) with
  |none=>
   have:=b2q h1 hc
   omega
  |some q=>
   have h3:=b2t h1 hc
   rw[a9d,hc]
   exact⟨h3.2.1,by simp only[Option.getD];rw[h3.1,h2];omega⟩
theorem d7w {sz:Nat->Int}{n:Nat}(hs: ∀j,j<n->1<=sz j){p:Nat}(h:(p:Int)<prod sz n):
 (∀q,b0a sz n (a9d sz n p)=some q->a9d sz n (p+1)=q/\((p+1:Nat):Int)<prod sz n)/\(b0a sz n (a9d sz n p)=none->((p+1:Nat):Int)=prod sz n):=by
 obtain⟨h1,h2⟩:=a8e hs p h
 constructor
 ·intro q hc
  have h3:=b2t h1 hc
  have h4:=a8u h3.2.1
  refine⟨by rw[a9d,hc];rfl,?_⟩
  rw[h3.1,h2] at h4
  omega
 ·intro hc
  have:=b2q h1 hc
  omega
def e6p:Nat->Int
 |0=> -1
 |k+1=>(k:Int)
theorem c8v (k:Nat):e6p k=(k:Int)-1:=by cases k<;>simp[e6p]
theorem d2w {ns no:Nat}(sz od:Nat->Int)(hns:ns<=1000000)(hs: ∀j,j<ns->1<=sz j/\sz j<=12)(hp:prod sz ns<=2000)(A B C D:Nat->a0i)(hlow: ∀p,d3k 4 [A p,B p,C p,D p]=true)
 (hy: ∀(p:Nat) (u:Nat->Int),(p:Int)<prod sz ns->(∀j,j<ns->u j=a9d sz ns p j)->
   a5s Tryz.prog 2 [int p,.msl 5 1 none ns false] [A p,B p,C p,D p,.var [isl ns sz,isl no od],arrI ns u]
    (fun pg v h'=>pg=[3]/\v= .d (.bool true)/\h'=[A (p+1),B (p+1),C (p+1),D (p+1),.var [isl ns sz,isl no od],arrI ns u])):
 a0g Tryz.prog 159 [.agg [isl ns sz,isl no od],.yl 2] [A 0,B 0,C 0,D 0] (fun pg v h'=>pg=[3]/\ ∃q:Nat,(q:Int)=prod sz ns/\h'=[A q,B q,C q,D q]):=by
 have hs1:=fun j hj=>(hs j hj).1
 have hsq:=fun p h=>a8e (sz:=sz) (n:=ns) hs1 p h
 have hnx:=fun p h=>d7w (sz:=sz) (n:=ns) hs1 (p:=p) h
 have hpos:=a4m hs1
 obtain⟨T,hT⟩: ∃T:Nat,(T:Int)=prod sz ns:=⟨(prod sz ns).toNat,by omega⟩
 rw[<-hT] at hsq hnx hpos hy⊢
 have hT2:T<=2000:=by omega
 have hsq:=fun p (h:p<T)=>hsq p (Int.ofNat_lt.2 h)
 have hnx: ∀p,p<T->(∀q,b0a sz ns (a9d sz ns p)=some q->a9d sz ns (p+1)=q/\p+1<T)/\(b0a sz ns (a9d sz ns p)=none->p+1=T):=fun p h=>by
  obtain⟨a,b⟩:=hnx p (Int.ofNat_lt.2 h)
  exact⟨fun q hq=>⟨(a q hq).1,Int.ofNat_lt.1 (a q hq).2⟩,fun hq=>Int.ofNat.inj (b hq)⟩
 have hy:=fun p u (h:p<T) hu=>hy p u (Int.ofNat_lt.2 h) hu
 have hpos:0<T:=by omega
 clear hT hp
 refine a1b Tryz.mixed okP f2e rfl fun E Sg hb hS F hF=> ?_
 simp only[List.length_cons,List.length_nil] at hb
 have ett: ∀z,Sg.toNat z=z.toNat:=by subst hS;exact fun _=>rfl
 cbv
 refine a0a hS (by clear hy hF hsq hnx;subst hS;simp[std]) (a0a hS (by clear hy hF hsq hnx;subst hS;simp[std,big];omega) ?_)
 refine a0y Tryz.mixed okP hS (σ:=Nat×(Nat->Int)) (fun s=>s.1<T/\ ∀j,j<ns->s.2 j=a9d sz ns s.1 j) (fun s=>T-s.1)
  (fun s=>⟨a2l [(1,.yl 2),(2,.ptr 4 0),(4,.msl 5 1 none ns false),(5,int s.1)] 49,[A s.1,B s.1,C s.1,D s.1,.var [isl ns sz,isl no od],arrI ns s.2],[3]⟩) (0,fun _=>0) ⟨hpos,fun j hj=>rfl⟩ ?_ ?_
 ·refine a0m rfl ⟨a0b.refl _,a0b.refl _,(by clear hy hF hsq hnx;subst hS;exact a0b.refl _),a1m rfl,trivial⟩ (.cons (.refl _) (.cons (.refl _) (.cons (.refl _) (.cons (.refl _) (.cons (.refl _) (.cons (a0f.arrr ?_ ?_) (.nil _))))))) (by simp;omega) (.inr rfl) rfl
  ·clear hy hF hsq hnx;subst hS;rfl
  ·intro j hj
   clear hy hF hsq hnx
   subst hS
   simp only[std] at hj⊢
   rw[if_pos hj]
   exact .one (.int rfl)
 ·rintro⟨p,u⟩ ⟨hp1,hu⟩ N hN
  simp only at hp1 hu hN
  have hyp:=hy p u hp1 hu
  obtain⟨g1,g2⟩:=hsq p hp1
  obtain⟨n1,n2⟩:=hnx p hp1
  cbv
  refine e6g hS hyp ?_
  rintro pg v H' ⟨rfl,rfl,rfl⟩
  cbv
  refine a0a hS (by clear hy hF hsq hnx hyp hN;subst hS;exact a0h (by simp[std];omega) (by simp[std];omega)) ?_
  refine a0y Tryz.mixed okP hS (σ:=Nat×(Nat->Int)) (fun s=>s.1<=ns/\b0a sz ns (a9d sz ns p)=b0a sz s.1 s.2/\d8x sz s.2 ns) (fun s=>s.1)
   (fun s=>⟨a2l [(1,.yl 2),(2,.ptr 4 0),(4,.msl 5 1 none ns false),(5,int p),(6,int (e6p s.1))] 49,[A (p+1),B (p+1),C (p+1),D (p+1),.var [isl ns sz,isl no od],arrI ns s.2],[3]⟩) (ns,a9d sz ns p) ⟨by simp,rfl,g1⟩ ?_ ?_
  ·refine a0m rfl ⟨a0b.refl _,a0b.refl _,a0b.refl _,a0b.refl _,a1f ?_,trivial⟩ (.cons (.refl _) (.cons (.refl _) (.cons (.refl _) (.cons (.refl _) (.cons (.refl _) (.cons (a0f.arrI rfl fun j hj=>by rw[hu j hj]) (.nil _))))))) (by simp;omega) (.inr rfl) rfl
   rw[c8v]
   clear hy hF hsq hnx hyp hN;subst hS;rfl
  ·rintro⟨k,w⟩ ⟨hk,hc,hw⟩ M hM
   simp only at hk hc hw hM
   cases k with
   |zero=>
    have hend:=n2 hc
    cbv
    split
    ·rename_i h;exfalso;clear hy hF hsq hnx hyp hN hM;subst hS;simp[std] at h
    cbv
    split
    ·cbv
     exact⟨[3],by simp,hF (h1:=[A (p+1),B (p+1),C (p+1),D (p+1)]) (.cons (.refl _) (.cons (.refl _) (.cons (.refl _) (.cons (.refl _) (.nil _))))) (a0b.refl _) (by simp) (.inl ⟨rfl,hlow (p+1)⟩) ⟨rfl,p+1,by rw[hend],rfl⟩⟩
    ·rename_i h;exfalso;clear hy hF hsq hnx hyp hN hM;subst hS;simp[std] at h
   |succ k=>
    rw[b0a] at hc
    have hszk:=hs k (by omega)
    have hwk:=hw k (by omega)
    cbv
    split
    rotate_left
    ·rename_i h;exfalso;clear hy hF hsq hnx hyp hN hM;subst hS;simp[std] at h<;>omega
    cbv
    refine a0a hS (by clear hy hF hsq hnx hyp hN hM;subst hS;simp[std];omega) ?_
    refine a0a hS (by clear hy hF hsq hnx hyp hN hM;subst hS;simp[std];omega) ?_
    refine a0a hS (by clear hy hF hsq hnx hyp hN hM;subst hS;simp[std];omega) ?_
    simp only[nat,ett,Int.ofNat_eq_natCast,Int.toNat_natCast]
    refine a0a hS (by clear hy hF hsq hnx hyp hN hM;subst hS;exact a0h (by simp[std];omega) (by simp[std];omega)) ?_
    split
    ·have he:w k=sz k-1:=by clear hy hF hsq hnx hyp hN hM;subst hS;simp[std] at*;assumption
     rw[if_pos he] at hc
     cbv
     refine a0a hS (by clear hy hF hsq hnx hyp hN hM;subst hS;simp[std];omega) ?_
     simp only[nat,ett,Int.ofNat_eq_natCast,Int.toNat_natCast]
     refine a0a hS (by clear hy hF hsq hnx hyp hN hM;subst hS;simp[std];omega) ?_
     refine a0a hS (by clear hy hF hsq hnx hyp hN hM;subst hS;exact a0h (by simp[std];omega) (by simp[std];omega)) ?_
     refine hM (k,a0r w k 0) _ ⟨by simp;omega,hc,fun j hj=> ?_⟩ (by simp) (a0m rfl ⟨a0b.refl _,a0b.refl _,a0b.refl _,a0b.refl _,a1f ?_,trivial⟩ (.cons (.refl _) (.cons (.refl _) (.cons (.refl _) (.cons (.refl _) (.cons (.refl _) (.cons (a0f.arrr rfl fun j hj=> ?_) (.nil _))))))) (by simp;omega) (.inr rfl) rfl)
     ·simp only[a0r]
      split
      ·rename_i e;subst e;omega
      ·exact hw j hj
     ·rw[c8v]
      clear hy hF hsq hnx hyp hN hM;subst hS;simp[std]
     ·clear hy hF hsq hnx hyp hN hM;subst hS
      simp only[std,a0r]
      split
      ·exact .one (.int rfl)
      ·exact .refl _
    ·have he:w k≠sz k-1:=by clear hy hF hsq hnx hyp hN hM;subst hS;simp[std] at*;assumption
     rw[if_neg he] at hc
     obtain⟨q1,q2⟩:=n1 _ hc
     cbv
     split
     ·rename_i h;exfalso;clear hy hF hsq hnx hyp hN hM;subst hS;simp[std] at h<;>omega
     cbv
     refine a0a hS (by clear hy hF hsq hnx hyp hN hM;subst hS;simp[std];omega) ?_
     simp only[nat,ett,Int.ofNat_eq_natCast,Int.toNat_natCast]
     refine a0a hS (by clear hy hF hsq hnx hyp hN hM;subst hS;simp[std];omega) ?_
     refine a0a hS (by clear hy hF hsq hnx hyp hN hM;subst hS;exact a0h (by simp[std];omega) (by simp[std];omega)) ?_
     refine a0a hS (by clear hy hF hsq hnx hyp hN hM;subst hS;simp[std];omega) ?_
     refine a0a hS (by clear hy hF hsq hnx hyp hN hM;subst hS;simp[std];omega) ?_
     refine a0a hS (by clear hy hF hsq hnx hyp hN hM;subst hS;exact a0h (by simp[std];omega) (by simp[std];omega)) ?_
     refine hN (p+1,a0r w k (w k+1)) _ ⟨q2,fun j hj=>by rw[q1]⟩ (by simp;omega) (a0m rfl ⟨a0b.refl _,a0b.refl _,a0b.refl _,a1f ?_,trivial⟩ (.cons (.refl _) (.cons (.refl _) (.cons (.refl _) (.cons (.refl _) (.cons (.refl _) (.cons (a0f.arrI rfl fun j hj=> ?_) (.nil _))))))) (by simp;omega) (.inr rfl) rfl)
     ·clear hy hF hsq hnx hyp hN hM;subst hS;simp[std]
     ·clear hy hF hsq hnx hyp hN hM;subst hS
      simp only[std,a0r]
      split<;>rfl
theorem f8q {ns no:Nat}(sz od:Nat->Int)(d:DiR)(hd:d.ns<=1000000/\d.no<=1000000)(r:Bool)(hr:r=true↔L d.ns d.sz=L ns sz/\L d.no d.od=L no od):
 a0j Tryz.prog true 89 [.agg [isl ns sz,isl no od],d.av] (bool r):=by
 obtain⟨z,hz⟩: ∃z:Bool,z=true↔L d.ns d.sz=L ns sz:=by classical exact⟨decide _,decide_eq_true_iff⟩
 obtain⟨z2,hz2⟩: ∃z:Bool,z=true↔L d.no d.od=L no od:=by classical exact⟨decide _,decide_eq_true_iff⟩
 have h1:=a8r hd.1 d.sz sz z hz
 have h2:=a8r hd.2 d.od od z2 hz2
 rw[<-hz,<-hz2] at hr
 clear hz hz2 hd
 obtain⟨ns',sz',no',od',ne,en,nn,var,nk,kid,root⟩:=d
 refine a0s (a0d Tryz.mixed okP g3s _ rfl fun E Sg hb hS=> ?_)
 cbv
 refine a0e hS (bool z) (by subst hS;exact h1) ?_
 cases z
 ·cbv
  exact a2i hr fun h=>Bool.noConfusion h.1
 cbv
 refine a0e hS (bool z2) (by subst hS;exact h2) ?_
 cbv
 refine a0v ?_
 cases r<;>cases z2<;>simp at hr⊢
def frH (ns no:Nat)(sz od:Nat->Int):List a0i:=[.var [.fn 89 [.agg [isl ns sz,isl no od]] []]]
theorem f5k {ns no:Nat}(sz od:Nat->Int)(d:DiR)(hd:d.ns<=1000000/\d.no<=1000000)(r:Bool)(hr:r=true↔ ¬(L d.ns d.sz=L ns sz/\L d.no d.od=L no od)):
 a0g Tryz.prog 121 [d.av,.ptr 0 0] (frH ns no sz od) (ro (frH ns no sz od) (bool r)):=by
 have h1:=f8q (ns:=ns) (no:=no) sz od d hd (!r) (by
  cases r
  ·exact⟨fun _=>Classical.byContradiction fun h=>Bool.noConfusion (hr.2 h),fun _=>rfl⟩
  ·exact⟨fun h=>Bool.noConfusion h,fun h=>absurd h (hr.1 rfl)⟩)
 clear hr hd
 obtain⟨ns',sz',no',od',ne,en,nn,var,nk,kid,root⟩:=d
 refine a1p Tryz.mixed okP f0p _ rfl fun E Sg hb hS=> ?_
 simp only[frH,List.length_cons,List.length_nil] at hb
 cbv
 refine a2a hS (a0g.of_pure rfl h1) ?_
 cases r<;>cbv<;>exact a1o (a0v rfl) (.cons (.refl _) (.nil _)) (.inl ⟨rfl,rfl⟩)
theorem d5t {n:Nat}(hn:n<=1000000)(l:Nat->DiR)(H:List a0i)(gid:FuncId)(a:Nat)(p:Nat->Bool)
 (hp: ∀i,i<n->a0g Tryz.prog gid [(l i).av,.ptr a 0] H (ro H (bool (p i)))) (r:Int) (hr:a4i n p r):
 a0g Tryz.prog 162 [dsl n l,.fn gid [] [.ptr a 0]] H (ro H (int r)):=by
 refine a1p Tryz.mixed okP f0t _ rfl fun E Sg hb hS=> ?_
 have ett: ∀z,Sg.toNat z=z.toNat:=by subst hS;exact fun _=>rfl
 cbv
 refine a0y Tryz.mixed okP hS (fun i=>i<=n/\ ∀j,j<i->p j=false) (fun i=>n-i)
  (fun i=>⟨a2l [(0,dsl n l),(1,.fn gid [] [.ptr a 0]),(7,int n),(8,int i)] 19,H,[]⟩) 0 ⟨by omega,by omega⟩ ?_ ?_
 ·exact a0m rfl ⟨a0b.refl _,a0b.refl _,a1f (by subst hS;rfl),a1m rfl,trivial⟩ (.same _) (by omega) (.inr rfl) rfl
 ·intro i hi N hN
  have hin:=hp i
  clear hp
  cbv
  split
  ·cbv
   have hlt:i<n:=by clear hin hN hr;subst hS;simp[std] at*;omega
   have hin:=hin hlt
   generalize hz:p i=z at hin
   refine a0a hS (by clear hin hN hr;subst hS;simp[std];omega) ?_
   simp only[nat,ett,Int.ofNat_eq_natCast,Int.toNat_natCast]
   refine a2a hS (r:=bool z) (by subst hS;exact hin) ?_
   cases z
   ·cbv
    refine a0a hS (by clear hin hN hr;subst hS;exact a0h (by simp[std];omega) (by simp[std];omega)) ?_
    refine hN (i+1) _ ⟨by omega,fun j hj=> ?_⟩ (by omega) (a0m rfl ⟨a0b.refl _,a0b.refl _,a0b.refl _,a1f ?_,trivial⟩ (.same _) (by omega) (.inr rfl) rfl)
    ·by_cases e:j=i
     ·subst e;exact hz
     ·exact hi.2 j (by omega)
    ·clear hin hN hr;subst hS;simp[std]
   ·cbv
    exact a1o (a1f (hr.2 i hlt hz hi.2).symm) (.same _) (.inr rfl)
  ·have hni:n<=i:=by clear hin hN hr;subst hS;simp[std] at*;omega
   cbv
   exact a1o (a1m (hr.1 fun j hj=>hi.2 j (by omega)).symm) (.same _) (.inr rfl)
theorem c3s {n:Nat}(hn:n<=1000000)(l:Nat->DiR)(H:List a0i)(gid:FuncId)(a:Nat)(p:Nat->Bool)
 (hp: ∀i,i<n->a0g Tryz.prog gid [(l i).av,.ptr a 0] H (ro H (bool (p i)))) (r:Bool) (hr:r=true↔ ∃i,i<n/\p i=true):
 a0g Tryz.prog 120 [dsl n l,.fn gid [] [.ptr a 0]] H (ro H (bool r)):=by
 obtain⟨z,hz,hz1,hz2⟩: ∃z,a4i n p z/\(0<=z-> ∃i,i<n/\p i=true)/\((∃i,i<n/\p i=true)->0<=z):=a5h n p
 have hin:=d5t hn l H gid a p hp z hz
 have hzr:0<=z↔r=true:=⟨fun h=>hr.2 (hz1 h),fun h=>hz2 (hr.1 h)⟩
 clear hp hz hz1 hz2 hr
 refine a1p Tryz.mixed okP e9w _ rfl fun E Sg hb hS=> ?_
 cbv
 refine a2a hS hin ?_
 cbv
 refine a1o (a0v ?_) (.same _) (.inr rfl)
 clear hin
 subst hS
 simp[std]
 cases r
 ·simp at hzr⊢;omega
 ·simpa using hzr
theorem e7f {ns no:Nat}(sz od:Nat->Int){n:Nat}(hn:n<=1000000)(l:Nat->DiR)(hd: ∀i,i<n->(l i).ns<=1000000/\(l i).no<=1000000)(r:Bool)
 (hr:r=true↔ ∀i,i<n->L (l i).ns (l i).sz=L ns sz/\L (l i).no (l i).od=L no od):
 a0g Tryz.prog 88 [dsl n l,.fn 89 [.agg [isl ns sz,isl no od]] []] [] (ro [] (bool r)):=by
 obtain⟨p,hp⟩: ∃p:Nat->Bool,∀i,p i=true↔ ¬(L (l i).ns (l i).sz=L ns sz/\L (l i).no (l i).od=L no od):=by classical exact⟨fun i=>decide (¬_),fun i=>decide_eq_true_iff⟩
 have hin:=c3s hn l (frH ns no sz od) 121 0 p (fun i hi=>f5k sz od (l i) (hd i hi) (p i) (hp i)) (!r) (b0v hp hr)
 clear hr hp hd
 refine a1p Tryz.mixed okP g3c _ rfl fun E Sg hb hS=> ?_
 simp only[List.length_nil] at hb
 cbv
 refine a2a hS hin ?_
 cases r<;>cbv<;>exact a1o (a0v rfl) (.nil _) (.inl ⟨rfl,rfl⟩)
end Go.Proofs.Tryz.Run
