/- Thin families; the errors of families. Conditions: none. -/
import Derived.Test.YtpcokdalcafgdaaGreatWLq
import Derived.Test.YtpcokdalcafgdaaGreatWNa
import Derived.Test.YtpcokdalcafgdaaGreatWNc
import Derived.Test.YtpcokdalcafgdaaGreatWLh
import Derived.Test.YtpcokdalcafgdaaGreatWNb
import Derived.Test.YtpcokdalcafgdaaGreatWOh
import Derived.Test.YtpcokdalcafgdaaGreatWPm0
import Derived.Test.YtpcokdalcafgdaaGreatWQd
import Derived.Test.YtpcokdalcafgdaaGreatWQf
import Derived.Test.YtpcokdalcafgdaaGreatWQh
set_option linter.unusedSimpArgs false
set_option linter.unusedVariables false
set_option maxHeartbeats 0
namespace Go.Proofs.Tryz.Run
open Go Go.Vf Go.Proofs
open Go.Proofs.YtpcokdalcafgdaaGreat
def e6n (d:DiR):Prop:=f7d d.ns d.no d.sz d.od/\d.ne<=40/\d.nn<=60/\ ∀i,i<d.nn->d.nk i<=14
theorem f3h (d:DiR)(r:Bool)(hr:r=true↔e6n d):a0j Tryz.prog true 50 [d.av] (bool r):=by
 obtain⟨z,hz⟩: ∃z:Bool,z=true↔f7d d.ns d.no d.sz d.od:=by classical exact⟨decide _,decide_eq_true_iff⟩
 have h1:=f2u d.sz d.od z hz
 unfold e6n at hr
 rw[<-hz] at hr
 clear hz
 obtain⟨ns,sz,no,od,ne,en,nn,var,nk,kid,root⟩:=d
 simp only at h1 hr
 refine a0s (a0d Tryz.mixed okP g8g _ rfl fun E Sg hb hS=> ?_)
 have ett: ∀z,Sg.toNat z=z.toNat:=by subst hS;exact fun _=>rfl
 cbv
 refine a0e hS (bool z) (by subst hS;exact h1) ?_
 cases z
 ·cbv
  exact a2i hr fun h=>Bool.noConfusion h.1
 cbv
 split
 ·have:40<ne:=by subst hS;simp[std] at*;omega
  cbv
  exact a2i hr fun h=>by have:=h.2.1;omega
 have he:ne<=40:=by subst hS;simp[std] at*;omega
 cbv
 split
 ·have:60<nn:=by subst hS;simp[std] at*;omega
  cbv
  exact a2i hr fun h=>by have:=h.2.2.1;omega
 have hn:nn<=60:=by subst hS;simp[std] at*;omega
 cbv
 refine a0y Tryz.mixed okP hS (fun i=>i<=nn/\ ∀j,j<i->nk j<=14) (fun i=>nn-i)
  (fun i=>⟨a2l [(1,.ptr 0 0),(3,int i)] 37,[.var [isl ns sz,isl no od,vsl ne en,bsl nn var nk kid,int root]],[]⟩) 0 ⟨by omega,by omega⟩ ?_ ?_
 ·exact a0m rfl ⟨a0b.refl _,a1m rfl,trivial⟩ (.cons (.refl _) (.nil _)) (by simp;omega) (.inr rfl) rfl
 ·intro i hi N hN
  cbv
  split
  ·have hlt:i<nn:=by subst hS;simp[std] at*;omega
   cbv
   refine a0a hS (by subst hS;simp[std];omega) ?_
   simp only[nat,ett,Int.ofNat_eq_natCast,Int.toNat_natCast]
   split
   ·have:14<nk i:=by subst hS;simp[std] at*;omega
    cbv
    exact a2i hr fun h=>by have:=h.2.2.2 i hlt;omega
   ·have hk:nk i<=14:=by subst hS;simp[std] at*;omega
    cbv
    refine a0a hS (by subst hS;exact a0h (by simp[std];omega) (by simp[std];omega)) ?_
    refine hN (i+1) _ ⟨by omega,fun j hj=> ?_⟩ (by omega) (a0m rfl ⟨a0b.refl _,a1f (by subst hS;simp[std]),trivial⟩ (.cons (.refl _) (.nil _)) (by simp;omega) (.inr rfl) rfl)
    by_cases e:j=i
    ·subst e;exact hk
    ·exact hi.2 j (by omega)
  ·have hall: ∀j,j<nn->nk j<=14:=by
    have:nn<=i:=by subst hS;simp[std] at*;omega
    exact fun j hj=>hi.2 j (by omega)
   cbv
   exact b8q hr ⟨rfl,he,hn,hall⟩
def DiR.wf (d:DiR):Prop:=(∀i,i<d.nn-> ∀j,j<d.nk i->a4s (d.kid i j))/\a4s d.root/\ ∀i,i<d.ne->0<=(d.en i).fault
theorem e6n.fit {d:DiR}(h:e6n d)(hw:d.wf):d.fit:=⟨by have:=h.1.1;omega,by have:=h.1.2.1;omega,by have:=h.2.1;omega,by have:=h.2.2.1;omega,fun i hi=>by have:=h.2.2.2 i hi;omega,hw.1,hw.2.1⟩
def DiR.row (d:DiR):List DV:=[.sl 1 d.ns fun i=>[.int .i64 (.v (d.sz i))],.sl 1 d.no fun i=>[.int .i64 (.v (d.od i))],.sl 2 d.ne fun i=>(d.en i).row,
 .sl 2 d.nn fun i=>[.int .i64 (.v (d.var i)),.sl 1 (d.nk i) fun j=>[.int .i64 (.v (d.kid i j))]],.int .i64 (.v d.root)]
def dsl (n:Nat)(l:Nat->DiR):AV:= .d (.sl 5 n fun i=>(l i).row)
def d7d (n:Nat)(l:Nat->DiR):Prop:=n<=4/\ ∀i,i<n->e6n (l i)/\(a7c (l i)=0->prod (l i).sz (l i).ns<=60)
theorem b0w {d:DiR}(h:a7c d=0):a2n d=0/\a8g d:=by
 unfold a7c at h
 split at h
 ·rename_i a;exact absurd h a
 ·split at h
  ·rename_i a b;exact⟨Classical.not_not.1 a,b⟩
  ·cases h
theorem e4r (n:Nat)(l:Nat->DiR)(hw: ∀i,i<n->(l i).wf)(r:Bool)(hr:r=true↔d7d n l):a0j Tryz.prog true 16 [dsl n l] (bool r):=by
 obtain⟨er,her⟩: ∃er:Nat->Int,∀i,a7c (l i)=er i:=⟨_,fun _=>rfl⟩
 obtain⟨T,hT⟩: ∃T:Nat->Prop,∀i,e6n (l i)=T i:=⟨_,fun _=>rfl⟩
 obtain⟨z,hz⟩: ∃z:Nat->Bool,∀i,z i=true↔T i:=by classical exact⟨fun i=>decide (T i),fun i=>decide_eq_true_iff⟩
 obtain⟨p,hp⟩: ∃p:Nat->Int,∀i,p i=prod (l i).sz (l i).ns:=⟨_,fun _=>rfl⟩
 have h1:=fun i=>f3h (l i) (z i) (by rw[hT];exact hz i)
 have h2:=fun i hi (ht:T i)=>d5l (l i) ((hT i▸ht:e6n (l i)).fit (hw i hi)) (er i) (her i)
 obtain⟨q,hq⟩: ∃q:Nat->Int,∀i,q i=min 3000 (p i):=⟨_,fun _=>rfl⟩
 have hqp: ∀i,60<q i↔60<p i:=fun i=>by rw[hq];omega
 have h3: ∀i,T i->er i=0->a0j Tryz.prog true 52 [isl (l i).ns (l i).sz] (int (q i)):=fun i ht h=>by
  rw[hq]
  have hf:=a1k (a3z (b0w ((her i).trans h)).1).1
  exact d5w (by omega) _ hf.2.1 _ (by rw[hp])
 simp only[d7d,her,hT,<-hp] at hr
 clear hw her hT hp hq
 refine a0s (a0d Tryz.mixed okP g5z _ rfl fun E Sg hb hS=> ?_)
 have ett: ∀z,Sg.toNat z=z.toNat:=by subst hS;exact fun _=>rfl
 cbv
 split
 ·have:4<n:=by subst hS;simp[std] at*;omega
  cbv
  exact a2i hr fun h=>by have:=h.1;omega
 have hn:n<=4:=by subst hS;simp[std] at*;omega
 cbv
 refine a0y Tryz.mixed okP hS (fun i=>i<=n/\ ∀j,j<i->T j/\(er j=0->p j<=60)) (fun i=>n-i)
  (fun i=>⟨a2l [(0,dsl n l),(3,int i)] 36,[],[]⟩) 0 ⟨by omega,by omega⟩ ?_ ?_
 ·exact a0m rfl ⟨a0b.refl _,a1m rfl,trivial⟩ (.nil _) (by omega) (.inr rfl) rfl
 ·intro i hi N hN
  cbv
  split
  ·have hlt:i<n:=by subst hS;simp[std] at*;omega
   have step:T i->(er i=0->p i<=60)->i+1<=n/\ ∀j,j<i+1->T j/\(er j=0->p j<=60):=fun a b=>⟨by omega,fun j hj=>by
    by_cases e:j=i
    ·subst e;exact⟨a,b⟩
    ·exact hi.2 j (by omega)⟩
   cbv
   refine a0a hS (by subst hS;simp[std];omega) ?_
   simp only[nat,ett,Int.ofNat_eq_natCast,Int.toNat_natCast]
   refine a0e hS (bool (z i)) (by subst hS;exact h1 i) ?_
   cases hzi:z i
   ·cbv
    exact a2i hr fun h=>by rw[(hz i).2 (h.2 i hlt).1] at hzi;cases hzi
   have ht:=(hz i).1 hzi
   cbv
   refine a0a hS (by subst hS;simp[std];omega) ?_
   simp only[nat,ett,Int.ofNat_eq_natCast,Int.toNat_natCast]
   refine a0e hS (int (er i)) (by subst hS;exact h2 i hlt ht) ?_
   cbv
   split
   ·have h0:er i=0:=by subst hS;simp[std] at*;assumption
    cbv
    refine a0a hS (by subst hS;simp[std];omega) ?_
    simp only[nat,ett,Int.ofNat_eq_natCast,Int.toNat_natCast]
    refine a0e hS (int (q i)) (by subst hS;exact h3 i ht h0) ?_
    cbv
    split
    ·have:60<q i:=by subst hS;simp[std] at*;omega
     have:=(hqp i).1 this
     cbv
     exact a2i hr fun h=>by have:=(h.2 i hlt).2 h0;omega
    ·have hq6: ¬60<q i:=by subst hS;simp[std] at*;omega
     have:p i<=60:=by have:=mt (hqp i).2 hq6;omega
     cbv
     refine a0a hS (by subst hS;exact a0h (by simp[std];omega) (by simp[std];omega)) ?_
     exact hN (i+1) _ (step ht fun _=>this) (by omega) (a0m rfl ⟨a0b.refl _,a1f (by subst hS;simp[std]),trivial⟩ (.nil _) (by omega) (.inr rfl) rfl)
   ·have h0:er i≠0:=by subst hS;simp[std] at*;assumption
    cbv
    refine a0a hS (by subst hS;exact a0h (by simp[std];omega) (by simp[std];omega)) ?_
    exact hN (i+1) _ (step ht fun h=>absurd h h0) (by omega) (a0m rfl ⟨a0b.refl _,a1f (by subst hS;simp[std]),trivial⟩ (.nil _) (by omega) (.inr rfl) rfl)
  ·have hall: ∀j,j<n->T j/\(er j=0->p j<=60):=by
    have:n<=i:=by subst hS;simp[std] at*;omega
    exact fun j hj=>hi.2 j (by omega)
   cbv
   exact b8q hr ⟨hn,hall⟩
def b0l (a b:DiR):Prop:=L a.ns a.sz=L b.ns b.sz/\L a.no a.od=L b.no b.od
theorem f7h (a b:DiR)(ha:a.ns<=1000000/\a.no<=1000000)(r:Bool)(hr:r=true↔b0l a b):a0j Tryz.prog true 90 [a.av,b.av] (bool r):=by
 obtain⟨z,hz⟩: ∃z:Bool,z=true↔L a.ns a.sz=L b.ns b.sz:=by classical exact⟨decide _,decide_eq_true_iff⟩
 obtain⟨z2,hz2⟩: ∃z:Bool,z=true↔L a.no a.od=L b.no b.od:=by classical exact⟨decide _,decide_eq_true_iff⟩
 have h1:=c4k _ _ a.sz b.sz ha.1 z hz
 have h2:=c4k _ _ a.od b.od ha.2 z2 hz2
 unfold b0l at hr
 rw[<-hz,<-hz2] at hr
 clear hz hz2
 obtain⟨ns,sz,no,od,ne,en,nn,var,nk,kid,root⟩:=a
 obtain⟨ns',sz',no',od',ne',en',nn',var',nk',kid',root'⟩:=b
 refine a0s (a0d Tryz.mixed okP g6x _ rfl fun E Sg hb hS=> ?_)
 cbv
 refine a0e hS (bool z) (by subst hS;exact h1) ?_
 cases z
 ·cbv
  exact a2i hr fun h=>Bool.noConfusion h.1
 cbv
 refine a0e hS (bool z2) (by subst hS;exact h2) ?_
 cbv
 refine a0v ?_
 cases r<;>cases z2<;>simp at hr⊢
def e7i (n:Nat)(er:Nat->Int)(S:Nat->Prop)(r:Int):Prop:=
 (∃i,i<n/\(∀j,j<i->er j=0)/\er i≠0/\r=er i)\/((∀i,i<n->er i=0)/\((∀i,1<=i->i<n->S i)/\r=0\/(¬ ∀i,1<=i->i<n->S i)/\r=2))
theorem d1a (n:Nat)(hn:n<=1000000)(l:Nat->DiR)(hf: ∀i,i<n->(l i).fit)(r:Int)(hr:e7i n (fun i=>a7c (l i)) (fun i=>b0l (l 0) (l i)) r):a0j Tryz.prog true 58 [dsl n l] (int r):=by
 obtain⟨er,her⟩: ∃er:Nat->Int,∀i,a7c (l i)=er i:=⟨_,fun _=>rfl⟩
 obtain⟨S,hSm⟩: ∃S:Nat->Prop,∀i,b0l (l 0) (l i)=S i:=⟨_,fun _=>rfl⟩
 obtain⟨z,hz⟩: ∃z:Nat->Bool,∀i,z i=true↔S i:=by classical exact⟨fun i=>decide (S i),fun i=>decide_eq_true_iff⟩
 have h2:=fun i hi=>d5l (l i) (hf i hi) (er i) (her i)
 have h1:0<n-> ∀i,a0j Tryz.prog true 90 [(l 0).av,(l i).av] (bool (z i)):=fun h i=>f7h (l 0) (l i) ⟨(hf 0 h).ns,(hf 0 h).no⟩ (z i) (by rw[hSm];exact hz i)
 simp only[her,hSm] at hr
 have r1: ∀i,i<n->(∀j,j<i->er j=0)->er i≠0->er i=r:=fun i hi h0 hne=>by
  rcases hr with⟨k,a,b,c,e⟩|⟨a,_⟩
  ·have:i=k:=by
    rcases Nat.lt_trichotomy i k with h|h|h
    ·exact absurd (b i h) hne
    ·exact h
    ·exact absurd (h0 k h) c
   subst this;exact e.symm
  ·exact absurd (a i hi) hne
 have r2:(∀i,i<n->er i=0)->(∀i,1<=i->i<n->S i)->0=r:=fun h g=>by
  rcases hr with⟨k,a,b,c,e⟩|⟨_,⟨_,e⟩|⟨a,e⟩⟩
  ·exact absurd (h k a) c
  ·exact e.symm
  ·exact absurd g a
 have r3:(∀i,i<n->er i=0)->(¬ ∀i,1<=i->i<n->S i)->2=r:=fun h g=>by
  rcases hr with⟨k,a,b,c,e⟩|⟨_,⟨a,_⟩|⟨a,e⟩⟩
  ·exact absurd (h k a) c
  ·exact absurd a g
  ·exact e.symm
 clear hr hf her hSm
 refine a1y (a0d Tryz.mixed okP g8v _ rfl fun E Sg hb hS=> ?_)
 have ett: ∀z,Sg.toNat z=z.toNat:=by subst hS;exact fun _=>rfl
 cbv
 refine a0y Tryz.mixed okP hS (fun i=>i<=n/\ ∀j,j<i->er j=0) (fun i=>n-i)
  (fun i=>⟨a2l [(0,dsl n l),(3,int i)] 35,[],[]⟩) 0 ⟨by omega,by omega⟩ ?_ ?_
 ·exact a0m rfl ⟨a0b.refl _,a1m rfl,trivial⟩ (.nil _) (by omega) (.inr rfl) rfl
 ·intro i hi N hN
  cbv
  split
  ·have hlt:i<n:=by subst hS;simp[std] at*;omega
   cbv
   refine a0a hS (by subst hS;simp[std];omega) ?_
   simp only[nat,ett,Int.ofNat_eq_natCast,Int.toNat_natCast]
   refine a0e hS (int (er i)) (by subst hS;exact h2 i hlt) ?_
   cbv
   split
   ·have h0:er i≠0:=by subst hS;simp[std] at*;assumption
    cbv
    exact a1f (r1 i hlt hi.2 h0)
   ·have h0:er i=0:=by subst hS;simp[std] at*;assumption
    cbv
    refine a0a hS (by subst hS;exact a0h (by simp[std];omega) (by simp[std];omega)) ?_
    refine hN (i+1) _ ⟨by omega,fun j hj=> ?_⟩ (by omega) (a0m rfl ⟨a0b.refl _,a1f (by subst hS;simp[std]),trivial⟩ (.nil _) (by omega) (.inr rfl) rfl)
    by_cases e:j=i
    ·subst e;exact h0
    ·exact hi.2 j (by omega)
  ·have hall: ∀j,j<n->er j=0:=by
    have:n<=i:=by subst hS;simp[std] at*;omega
    exact fun j hj=>hi.2 j (by omega)
   clear hi
   cbv
   refine a0y Tryz.mixed okP hS (fun i=>1<=i/\(i<=n\/n=0/\i=1)/\ ∀j,1<=j->j<i->j<n->S j) (fun i=>n-i)
    (fun i=>⟨a2l [(0,dsl n l),(5,int i)] 35,[],[]⟩) 1 ⟨by omega,by omega,by omega⟩ ?_ ?_
   ·exact a0m rfl ⟨a0b.refl _,a1m rfl,trivial⟩ (.nil _) (by omega) (.inr rfl) rfl
   ·intro i hi N2 hN2
    cbv
    split
    ·have hlt:i<n:=by subst hS;simp[std] at*;omega
     cbv
     refine a0a hS (by subst hS;simp[std];omega) ?_
     refine a0a hS (by subst hS;simp[std];omega) ?_
     simp only[nat,ett,Int.ofNat_eq_natCast,Int.toNat_natCast]
     refine a0e hS (bool (z i)) (by subst hS;exact h1 (by omega) i) ?_
     cases hzi:z i
     ·cbv
      exact a1m (r3 hall fun h=>by rw[(hz i).2 (h i hi.1 hlt)] at hzi;cases hzi)
     ·have hs:=(hz i).1 hzi
      cbv
      refine a0a hS (by subst hS;exact a0h (by simp[std];omega) (by simp[std];omega)) ?_
      refine hN2 (i+1) _ ⟨by omega,by omega,fun j hj1 hj hjn=> ?_⟩ (by omega) (a0m rfl ⟨a0b.refl _,a1f (by subst hS;simp[std]),trivial⟩ (.nil _) (by omega) (.inr rfl) rfl)
      by_cases e:j=i
      ·subst e;exact hs
      ·exact hi.2.2 j hj1 (by omega) hjn
    ·have hall2: ∀j,1<=j->j<n->S j:=by
      have:n<=i:=by subst hS;simp[std] at*;omega
      exact fun j h1 hj=>hi.2.2 j h1 (by omega) hj
     cbv
     exact a1m (r2 hall hall2)
theorem e0y (n:Nat)(er:Nat->Int)(S:Nat->Prop): ∃r,e7i n er S r:=by
 by_cases h: ∀i,i<n->er i=0
 ·by_cases g: ∀i,1<=i->i<n->S i
  ·exact⟨0,.inr ⟨h,.inl ⟨g,rfl⟩⟩⟩
  ·exact⟨2,.inr ⟨h,.inr ⟨g,rfl⟩⟩⟩
 ·have: ∃i,i<n/\er i≠0:=by
   apply Classical.byContradiction
   intro hc
   exact h fun i hi=>Classical.byContradiction fun he=>hc ⟨i,hi,he⟩
  have key: ∀m,m<=n->(∀j,j<m->er j=0)\/ ∃i,i<n/\(∀j,j<i->er j=0)/\er i≠0:=by
   intro m
   induction m with
   |zero=>intro _;exact .inl (by omega)
   |succ m ih=>
    intro hm
    rcases ih (by omega) with h1|h1
    ·by_cases he:er m=0
     ·refine .inl fun j hj=> ?_
      by_cases e:j=m
      ·subst e;exact he
      ·exact h1 j (by omega)
     ·exact .inr ⟨m,by omega,h1,he⟩
    ·exact .inr h1
  rcases key n (Nat.le_refl _) with h1|⟨i,a,b,c⟩
  ·exact absurd h1 h
  ·exact⟨er i,.inl ⟨i,a,b,c,rfl⟩⟩
def a6p (n:Nat)(l:Nat->DiR)(r:Int):Prop:=n=0/\r=7\/0<n/\e7i n (fun i=>a7c (l i)) (fun i=>b0l (l 0) (l i)) r
theorem d2k (n:Nat)(hn:n<=1000000)(l:Nat->DiR)(hf: ∀i,i<n->(l i).fit)(r:Int)(hr:a6p n l r):a0j Tryz.prog true 21 [dsl n l] (int r):=by
 have h1:=fun h=>d1a n hn l hf r h
 refine a1y (a0d Tryz.mixed okP g8m _ rfl fun E Sg hb hS=> ?_)
 unfold a6p at hr
 cbv
 split
 ·have h0:n=0:=by subst hS;simp[std] at*;omega
  cbv
  refine a1m ?_
  rcases hr with⟨_,e⟩|⟨h,_⟩
  ·rw[e];rfl
  ·omega
 ·have h0:0<n:=by subst hS;simp[std] at*;omega
  cbv
  refine a0e hS (int r) (by subst hS;exact h1 (by rcases hr with⟨h,_⟩|⟨_,h⟩;omega;exact h)) ?_
  cbv
  exact a0b.refl _
end Go.Proofs.Tryz.Run
