/- IsLoose. IsDiagram, CheckLoose and Check of the reference. Thin families; the errors of families. Conditions: none. -/
import Derived.Test.YtbglklaocjifhaaGreatEQf
open Int renaming ofNat_eq_natCast->AA,toNat_natCast->AC,ofNat_lt->AH
open Go.Vf.a0x renaming refl->AB
open Bool renaming noConfusion->AD,true->AG,false->AI
open Go.Proofs.YtbglklaocjifhaaGreat.Tryz renaming mixed->AE
open Go.Vf renaming std->AF,nat->AJ
set_option linter.unusedSimpArgs false
set_option linter.unusedVariables false
set_option maxHeartbeats 0
namespace Go.Proofs.Tryz.Run
open Go Go.Vf Go.Proofs
open Go.Proofs.YtbglklaocjifhaaGreat
def i7n (d:DiR)(i:Nat):Prop:=((0<=d.var i/\d.var i<=(d.ns:Int)-1)/\(d.nk i:Int)=d.sz (d.var i).toNat)/\ ∀j,j<d.nk i->h5g d (d.kid i j) i/\h4t d i<h4t d (d.kid i j)
def h3x (d:DiR):Prop:=(∀i,i<d.ne->a1i (d.en i))/\(∀i,i<d.nn->i7n d i)/\h5g d d.root d.nn
structure DiR.fit (d:DiR):Prop where
 ns:d.ns<=1000000
 no:d.no<=1000000
 ne:d.ne<=1000000
 nn:d.nn<=1000000
 nk: ∀i,i<d.nn->d.nk i<=1000000
 kid: ∀i,i<d.nn-> ∀j,j<d.nk i->c5t (d.kid i j)
 root:c5t d.root
theorem h4g {d:DiR}{ref:Int}{n:Nat}(h:h5g d ref n):h4k d.ne ref n:=by
 unfold h5g at h;refine⟨fun h0=> ?_,fun h0=> ?_⟩
 ·rw[if_pos h0] at h;exact h
 ·rw[if_neg (by omega)] at h;omega
theorem h3x.kids {d:DiR}(h:h3x d):h6m d:=fun i hi j hj=>h4g ((h.2.1 i hi).2 j hj).1
theorem i3t {v:Int}{n:Nat}(h:0<=v/\v<=(n:Int)-1):0<=v/\v<(n:Int):=⟨h.1,by omega⟩
theorem i4d (od:Nat->Int)(v:Int): ∀k i,pos od v k i<=i+k
 |0,i=>by rw[pos];omega
 |k+1,i=>by
  rw[pos];split
  ·omega
  ·have:=i4d od v k (i+1);omega
theorem h9y (d:DiR)(hf:d.fit)(r:Bool)(hr:r=AG↔h3x d):a0j Tryz.prog AG 125 [d.av] (bool r):=by
 obtain⟨f1,f2,f3,f4,f5,f6,f7⟩:=hf;have hcell:=fun v r h=>i0j v r h;have href:=fun ref below hw r h=>i3k d ref below f3 hw r h;have hrank:=fun ref h r e=>i4l d ref f2 h r e;simp only[h3x,i7n] at hr;obtain⟨D,hD⟩: ∃D,D=d:=⟨_,rfl⟩;rw[<-hD] at href hrank;have hDe: ∀ref below,h5g D ref below=h5g d ref below:=fun _ _=>by rw[hD]
 have hDr: ∀ref,h4t D ref=h4t d ref:=fun _=>by rw[hD]
 obtain⟨R,hR⟩: ∃R:Int->Int->Prop,R=fun ref below=>h5g d ref below:=⟨_,rfl⟩;obtain⟨K,hK⟩: ∃K:Int->Nat,K=fun ref=>h4t d ref:=⟨_,rfl⟩;have hrR: ∀ref below,h5g d ref below=R ref below:=fun _ _=>by rw[hR]
 have hrK: ∀ref,h4t d ref=K ref:=fun _=>by rw[hK]
 have hKb: ∀ref,K ref<=d.no:=fun ref=>by
  rw[hK];simp only[h4t];split
  ·exact Nat.le_trans (i4d _ _ _ _) (by omega)
  ·exact Nat.le_refl _
 simp only[hDe,hDr,hrR,hrK] at href hrank hr;have hRlt: ∀ref below,R ref below->0<=ref->ref<below:=fun ref below h h0=>by rw[hR] at h;simp only[h5g,if_pos h0] at h;exact h
 clear hR hK hrR hrK hDe hDr;obtain⟨ns,sz,no,od,ne,en,nn,var,nk,kid,root⟩:=d;obtain⟨ef,en',hen⟩: ∃ef en',en=fun i=>VaR.mk (ef i) (en' i):=⟨fun i=>(en i).fault,fun i=>(en i).n,rfl⟩;subst hen;simp only at f1 f2 f3 f4 f5 f6 f7 hr hrank hKb;simp only[c5t] at f6 f7 href;rw[hD] at href hrank;clear hD;refine a1e (a0k AE okP i6t _ rfl fun E Sg hb hS=> ?_);have ett: ∀z,Sg.toNat z=z.toNat:=by subst hS;exact fun _=>rfl
 cbv;refine a7r AE okP hS (fun i=>i<=ne/\ ∀j,j<i->a1i ⟨ef j,en' j⟩) (fun i=>ne-i)
  (fun i=>⟨b5r [(1,.ptr 0 0),(3,int i)] 89,[.var [isl ns sz,isl no od,vsl ne (fun i=>⟨ef i,en' i⟩),bsl nn var nk kid,int root]],[]⟩) 0 ⟨by omega,by omega⟩ ?_ ?_
 ·exact a4c rfl ⟨AB _,a6c rfl,trivial⟩ (.cons (.refl _) (.nil _)) (by simp;omega) (.inr rfl) rfl
 ·intro i hi N hN;obtain⟨z,hz⟩: ∃z:Bool,z=AG↔a1i ⟨ef i,en' i⟩:=by classical exact⟨decide _,decide_eq_true_iff⟩
  have hc:=hcell ⟨ef i,en' i⟩ z hz;cbv;split
  ·have hlt:i<ne:=by subst hS;simp[AF] at*;omega
   cbv;refine a1g hS (by subst hS;simp[AF];omega) ?_;simp only[AJ,ett,AA,AC];refine a0v hS (bool z) (by subst hS;exact hc) ?_;cases z
   ·cbv;exact e8z hr fun h=>AD (hz.2 (h.1 i hlt))
   ·cbv;refine a1g hS (by subst hS;exact b6g (by simp[AF];omega) (by simp[AF];omega)) ?_;refine hN (i+1) _ ⟨by omega,fun j hj=> ?_⟩ (by omega) (a4c rfl ⟨AB _,b0a (by subst hS;simp[AF]),trivial⟩ (.cons (.refl _) (.nil _)) (by simp;omega) (.inr rfl) rfl);by_cases e:j=i
    ·subst e;exact hz.1 rfl
    ·exact hi.2 j (by omega)
  ·have hE: ∀j,j<ne->a1i ⟨ef j,en' j⟩:=by subst hS;simp[AF] at*;exact fun j hj=>hi.2 j (by omega)
   clear hi hc hz;cbv;refine a7r AE okP hS (fun i=>i<=nn/\ ∀i',i'<i->((0<=var i'/\var i'<=(ns:Int)-1)/\(nk i':Int)=sz (var i').toNat)/\ ∀j,j<nk i'->R (kid i' j) i'/\K i'<K (kid i' j)) (fun i=>nn-i)
    (fun i=>⟨b5r [(1,.ptr 0 0),(4,int i)] 89,[.var [isl ns sz,isl no od,vsl ne (fun i=>⟨ef i,en' i⟩),bsl nn var nk kid,int root]],[]⟩) 0 ⟨by omega,by omega⟩ ?_ ?_
   ·exact a4c rfl ⟨AB _,a6c rfl,trivial⟩ (.cons (.refl _) (.nil _)) (by simp;omega) (.inr rfl) rfl
   ·intro i hi N2 hN2;obtain⟨z,hz⟩: ∃z:Bool,z=AG↔0<=var i/\var i<=(ns:Int)-1:=by classical exact⟨decide _,decide_eq_true_iff⟩
    have hin:=i5t (var i) 0 ((ns:Int)-1) z hz;cbv;split
    ·have hlt:i<nn:=by subst hS;simp[AF] at*;omega
     cbv;refine a1g hS (by subst hS;simp[AF];omega) ?_;simp only[AJ,ett,AA,AC];refine a1g hS (by subst hS;exact b6g (by simp[AF];omega) (by simp[AF];omega)) ?_;refine a0v hS (bool z) (by subst hS;exact hin) ?_;cases z
     ·cbv;exact e8z hr fun h=>AD (hz.2 (h.2.1 i hlt).1.1)
     ·have hv:=hz.1 rfl;cbv;refine a1g hS (by subst hS;exact i3t hv) ?_;simp only[AJ,ett,AA,AC];split
      ·have hne:(nk i:Int)≠sz (var i).toNat:=by subst hS;simp[AF] at*;assumption
       cbv;exact e8z hr fun h=>hne (h.2.1 i hlt).1.2
      ·have heq:(nk i:Int)=sz (var i).toNat:=by subst hS;simp[AF] at*;assumption
       have hni:=f5 i hlt;cbv;refine a7r AE okP hS (fun k=>k<=nk i/\ ∀j,j<k->R (kid i j) i/\K i<K (kid i j)) (fun k=>nk i-k)
        (fun k=>⟨b5r [(1,.ptr 0 0),(4,int i),(5,.ptr 1 0),(6,int k)] 89,[.var [isl ns sz,isl no od,vsl ne (fun i=>⟨ef i,en' i⟩),bsl nn var nk kid,int root],.var [int (var i),isl (nk i) (kid i)]],[]⟩) 0 ⟨by omega,by omega⟩ ?_ ?_
       ·exact a4c rfl ⟨AB _,AB _,AB _,a6c rfl,trivial⟩ (.cons (.refl _) (.cons (.refl _) (.nil _))) (by simp;omega) (.inr rfl) rfl
       ·intro k hk N3 hN3;obtain⟨z2,hz2⟩: ∃z:Bool,z=AG↔R (kid i k) i:=by classical exact⟨decide _,decide_eq_true_iff⟩
        cbv;split
        ·have hlk:k<nk i:=by subst hS;simp[AF] at*;omega
         have hrf:=href (kid i k) i (f6 i hlt k hlk) z2 hz2;cbv;refine a1g hS (by subst hS;simp[AF];omega) ?_;simp only[AJ,ett,AA,AC];refine a0v hS (bool z2) (by subst hS;exact hrf) ?_;cases z2
         ·cbv;exact e8z hr fun h=>AD (hz2.2 ((h.2.1 i hlt).2 k hlk).1)
         ·have hRk:=hz2.1 rfl;have hk1:=hrank (kid i k) (fun h0=>Int.lt_trans (hRlt _ _ hRk h0) (AH.2 hlt)) _ rfl;have hk2:=hrank i (fun h0=>AH.2 hlt) _ rfl;cbv;refine a1g hS (by subst hS;simp[AF];omega) ?_;simp only[AJ,ett,AA,AC];refine a0v hS _ hk1 ?_;cbv;refine a1g hS (by subst hS;simp[AF]) ?_;refine a0v hS _ hk2 ?_;cbv;split
          ·have hle:K (kid i k)<=K i:=by subst hS;simp[AF] at*;omega
           cbv;exact e8z hr fun h=>by have:=((h.2.1 i hlt).2 k hlk).2;omega
          ·have hle:K i<K (kid i k):=by subst hS;simp[AF] at*;omega
           cbv;refine a1g hS (by subst hS;exact b6g (by simp[AF];omega) (by simp[AF];omega)) ?_;refine hN3 (k+1) _ ⟨by omega,fun j hj=> ?_⟩ (by omega) (a4c rfl ⟨AB _,AB _,AB _,b0a (by subst hS;simp[AF]),trivial⟩ (.cons (.refl _) (.cons (.refl _) (.nil _))) (by simp;omega) (.inr rfl) rfl);by_cases e:j=k
           ·subst e;exact⟨hRk,hle⟩
           ·exact hk.2 j (by omega)
        ·have hkn: ∀j,j<nk i->R (kid i j) i/\K i<K (kid i j):=by subst hS;simp[AF] at*;exact fun j hj=>hk.2 j (by omega)
         cbv;refine a1g hS (by subst hS;exact b6g (by simp[AF];omega) (by simp[AF];omega)) ?_;refine hN2 (i+1) _ ⟨by omega,fun j hj=> ?_⟩ (by omega) (a4c rfl ⟨AB _,b0a (by subst hS;simp[AF]),trivial⟩ (.cons (.refl _) (.nil _)) (by simp;omega) (.inl ⟨rfl,rfl⟩) rfl);by_cases e:j=i
         ·subst e;exact⟨⟨hv,heq⟩,hkn⟩
         ·exact hi.2 j (by omega)
    ·have hall: ∀i',i'<nn->((0<=var i'/\var i'<=(ns:Int)-1)/\(nk i':Int)=sz (var i').toNat)/\ ∀j,j<nk i'->R (kid i' j) i'/\K i'<K (kid i' j):=by
      have:nn<=i:=by subst hS;simp[AF] at*;omega
      exact fun j hj=>hi.2 j (by omega)
     obtain⟨z2,hz2⟩: ∃z:Bool,z=AG↔R root nn:=by classical exact⟨decide _,decide_eq_true_iff⟩
     have hrf:=href root nn f7 z2 hz2;cbv;refine a0v hS (bool z2) (by subst hS;exact hrf) ?_;cbv;refine a0s ?_;cases r
     ·cases z2
      ·rfl
      ·exact absurd (hr.2 ⟨hE,hall,hz2.1 rfl⟩) (by simp)
     ·exact hz2.2 (hr.1 rfl).2.2
def h5e (d:DiR):Prop:=(∀i,i<d.ne-> ∀k,k<i->d.en k≠d.en i)/\
 (∀i,i<d.nn-> ¬(∀j,j<d.nk i->d.kid i j=d.kid i 0)/\ ∀k,k<i-> ¬(d.var k=d.var i/\L (d.nk k) (d.kid k)=L (d.nk i) (d.kid i)))/\
 Law.srch d.N (d.nn+1) d.root ([],[])=(Law.rng d.nn,Law.rng d.ne)
theorem h8x {α:Type}{n:Nat}{g:Nat->α}:(L n g).Nodup↔ ∀i,i<n-> ∀k,k<i->g k≠g i:=by
 unfold List.Nodup;rw[List.pairwise_iff_getElem];simp only[h3u];constructor
 ·intro h i hi k hk;have:=h k i (by omega) hi hk;simpa [L] using this
 ·intro h k i hk hi hki;have:=h i hi k hki;simpa [L] using this
theorem i1r {n:Nat}(hn:1<=n){g:Nat->Int}:Law.flatL (L n g)↔ ∀j,j<n->g j=g 0:=by
 obtain⟨m,rfl⟩: ∃m,n=m+1:=⟨n-1,by omega⟩;have h0:(L (m+1) g).headD 0=g 0:=by simp[L,List.range_succ_eq_map]
 unfold Law.flatL;rw[h0];constructor
 ·intro h j hj;exact h _ (h6d.2 ⟨j,hj,rfl⟩)
 ·rintro h k hk;obtain⟨j,hj,rfl⟩:=h6d.1 hk;exact h j hj
theorem i0k {d:DiR}(hk: ∀i,i<d.nn->1<=d.nk i):Law.isDia d.E d.N d.root↔h5e d:=by
 have hEl:d.E.length=d.ne:=h3u _ _;have hNl:d.N.length=d.nn:=h3u _ _;unfold Law.isDia h5e;rw[hEl,hNl];have h1:d.E.Nodup↔ ∀i,i<d.ne-> ∀k,k<i->d.en k≠d.en i:=h8x;have h2:d.N.Nodup↔ ∀i,i<d.nn-> ∀k,k<i-> ¬(d.var k=d.var i/\L (d.nk k) (d.kid k)=L (d.nk i) (d.kid i)):=by
  rw[DiR.N,h8x];constructor
  ·intro h i hi k hki e;exact h i hi k hki (by simp only[DiR.nd];rw[e.1,e.2])
  ·intro h i hi k hki e;simp only[DiR.nd] at e;injection e with e1 e2
   exact h i hi k hki ⟨e1,e2⟩
 have h3:(∀b,b∈d.N-> ¬Law.flatL b.kids)↔ ∀i,i<d.nn-> ¬(∀j,j<d.nk i->d.kid i j=d.kid i 0):=by
  constructor
  ·intro h i hi e;exact h (d.nd i) (h6d.2 ⟨i,hi,rfl⟩) ((i1r (hk i hi)).2 e)
  ·intro h b hb;obtain⟨i,hi,rfl⟩:=h6d.1 hb;exact fun e=>h i hi ((i1r (hk i hi)).1 e)
 rw[h1,h2,h3];constructor
 ·rintro⟨a,b,c,e⟩;exact⟨a,fun i hi=>⟨b i hi,c i hi⟩,e⟩
 ·rintro⟨a,b,e⟩;exact⟨a,fun i hi=>(b i hi).1,fun i hi=>(b i hi).2,e⟩
theorem i0d {n m:Nat}{g:Nat->Int}:((∀i,i<n->g i=i)/\(n:Int)=m)↔L n g=Law.rng m:=by
 constructor
 ·rintro⟨h,e⟩;have:n=m:=by omega
  subst this;exact h4v h
 ·intro e;have el:n=m:=by simpa [h3u,Law.rng] using congrArg List.length e
  subst el;refine⟨fun i hi=> ?_,rfl⟩;have:=congrArg (fun l=>l[i]?) e;simpa [L,Law.rng,hi] using this
theorem VaR.eq_iff {f n f' n':Int}:(VaR.mk f n=VaR.mk f' n')↔f=f'/\n=n':=by
 constructor
 ·intro h;injection h with a b;exact⟨a,b⟩
 ·rintro⟨rfl,rfl⟩;rfl
theorem h8u (d:DiR)(hf:d.fit)(hko:h6m d)(hro:h4k d.ne d.root d.nn)(hk1: ∀i,i<d.nn->1<=d.nk i)(r:Bool)(hr:r=AG↔h5e d):a0j Tryz.prog AG 91 [d.av] (bool r):=by
 obtain⟨f1,f2,f3,f4,f5,f6,f7⟩:=hf;have hsrch:=i1g d f4 f3 f5 hko (d.nn+1) d.root 0 0 (fun _=>0) (fun _=>0) (by
  rcases Int.lt_or_le d.root 0 with h|h
  ·omega
  ·have:=hro.1 h;omega) hro (by simp[Law.GoodS,L])
 have hgd:=(Law.srch_good hko.loose (d.nn+1) d.root ([],[]) hro.ok' (by simp[Law.GoodS])).1;simp only[h5e] at hr;obtain⟨s,hs⟩: ∃s,s=Law.srch d.N (d.nn+1) d.root ([],[]):=⟨_,rfl⟩;rw[show (L 0 fun _=>(0:Int))=[] from rfl,<-hs] at hsrch;rw[<-hs] at hr hgd;have hlen:=hgd.len;rw[show d.N.length=d.nn from h3u _ _,show d.E.length=d.ne from h3u _ _] at hlen;clear hs hgd;obtain⟨ns,sz,no,od,ne,en,nn,var,nk,kid,root⟩:=d;obtain⟨ef,en',hen⟩: ∃ef en',en=fun i=>VaR.mk (ef i) (en' i):=⟨fun i=>(en i).fault,fun i=>(en i).n,rfl⟩;subst hen;simp only at f1 f2 f3 f4 f5 f6 f7 hr hk1 hlen;simp only[VaR.eq_iff,ne_eq] at hr;refine a1e (a0k AE okP i9t _ rfl fun E Sg hb hS=> ?_);have ett: ∀z,Sg.toNat z=z.toNat:=by subst hS;exact fun _=>rfl
 cbv;refine a7r AE okP hS (fun i=>i<=ne/\ ∀j,j<i-> ∀k,k<j-> ¬(ef k=ef j/\en' k=en' j)) (fun i=>ne-i)
  (fun i=>⟨b5r [(1,.ptr 0 0),(3,int i)] 97,[.var [isl ns sz,isl no od,vsl ne (fun i=>⟨ef i,en' i⟩),bsl nn var nk kid,int root]],[]⟩) 0 ⟨by omega,by omega⟩ ?_ ?_
 ·exact a4c rfl ⟨AB _,a6c rfl,trivial⟩ (.cons (.refl _) (.nil _)) (by simp;omega) (.inr rfl) rfl
 ·intro i hi N hN;cbv;split
  ·have hlt:i<ne:=by subst hS;simp[AF] at*;omega
   cbv;refine a7r AE okP hS (fun k=>k<=i/\ ∀j,j<k-> ¬(ef j=ef i/\en' j=en' i)) (fun k=>i-k)
    (fun k=>⟨b5r [(1,.ptr 0 0),(3,int i),(4,int k)] 97,[.var [isl ns sz,isl no od,vsl ne (fun i=>⟨ef i,en' i⟩),bsl nn var nk kid,int root]],[]⟩) 0 ⟨by omega,by omega⟩ ?_ ?_
   ·exact a4c rfl ⟨AB _,AB _,a6c rfl,trivial⟩ (.cons (.refl _) (.nil _)) (by simp;omega) (.inr rfl) rfl
   ·intro k hk N2 hN2;cbv;split
    ·have hlk:k<i:=by subst hS;simp[AF] at*;omega
     cbv;refine a1g hS (by subst hS;simp[AF];omega) ?_;refine a1g hS (by subst hS;simp[AF];omega) ?_;simp only[AJ,ett,AA,AC];split
     ·have he:ef k=ef i/\en' k=en' i:=by subst hS;simp[AF] at*;assumption
      cbv;exact e8z hr fun h=>h.1 i hlt k hlk he
     ·have he: ¬(ef k=ef i/\en' k=en' i):=by subst hS;simp[AF] at*;assumption
      cbv;refine a1g hS (by subst hS;exact b6g (by simp[AF];omega) (by simp[AF];omega)) ?_;refine hN2 (k+1) _ ⟨by omega,fun j hj=> ?_⟩ (by omega) (a4c rfl ⟨AB _,AB _,b0a (by subst hS;simp[AF]),trivial⟩ (.cons (.refl _) (.nil _)) (by simp;omega) (.inr rfl) rfl);by_cases e:j=k
      ·subst e;exact he
      ·exact hk.2 j (by omega)
    ·have hki: ∀j,j<i-> ¬(ef j=ef i/\en' j=en' i):=by
      have:i<=k:=by subst hS;simp[AF] at*;omega
      exact fun j hj=>hk.2 j (by omega)
     cbv;refine a1g hS (by subst hS;exact b6g (by simp[AF];omega) (by simp[AF];omega)) ?_;refine hN (i+1) _ ⟨by omega,fun j hj=> ?_⟩ (by omega) (a4c rfl ⟨AB _,b0a (by subst hS;simp[AF]),trivial⟩ (.cons (.refl _) (.nil _)) (by simp;omega) (.inr rfl) rfl);by_cases e:j=i
     ·subst e;exact hki
     ·exact hi.2 j (by omega)
  ·have hE: ∀j,j<ne-> ∀k,k<j-> ¬(ef k=ef j/\en' k=en' j):=by
    have:ne<=i:=by subst hS;simp[AF] at*;omega
    exact fun j hj=>hi.2 j (by omega)
   clear hi;cbv;refine a7r AE okP hS (fun i=>i<=nn/\ ∀i',i'<i-> ¬(∀j,j<nk i'->kid i' j=kid i' 0)/\ ∀k,k<i'-> ¬(var k=var i'/\L (nk k) (kid k)=L (nk i') (kid i'))) (fun i=>nn-i)
    (fun i=>⟨b5r [(1,.ptr 0 0),(5,int i)] 97,[.var [isl ns sz,isl no od,vsl ne (fun i=>⟨ef i,en' i⟩),bsl nn var nk kid,int root]],[]⟩) 0 ⟨by omega,by omega⟩ ?_ ?_
   ·exact a4c rfl ⟨AB _,a6c rfl,trivial⟩ (.cons (.refl _) (.nil _)) (by simp;omega) (.inr rfl) rfl
   ·intro i hi N2 hN2;obtain⟨z,hz⟩: ∃z:Bool,z=AG↔ ∀j,j<nk i->kid i j=kid i 0:=by classical exact⟨decide _,decide_eq_true_iff⟩
    cbv;split
    ·have hlt:i<nn:=by subst hS;simp[AF] at*;omega
     have hfl:=i5i (var i) (f5 i hlt) (kid i) z hz;cbv;refine a1g hS (by subst hS;simp[AF];omega) ?_;simp only[AJ,ett,AA,AC];refine a0v hS (bool z) (by subst hS;exact hfl) ?_;cases z
     rotate_left
     ·cbv;exact e8z hr fun h=>(h.2.1 i hlt).1 (hz.1 rfl)
     have hnf: ¬ ∀j,j<nk i->kid i j=kid i 0:=fun h=>AD (hz.2 h);cbv;refine a7r AE okP hS (fun k=>k<=i/\ ∀j,j<k-> ¬(var j=var i/\L (nk j) (kid j)=L (nk i) (kid i))) (fun k=>i-k)
      (fun k=>⟨b5r [(1,.ptr 0 0),(5,int i),(6,int k)] 97,[.var [isl ns sz,isl no od,vsl ne (fun i=>⟨ef i,en' i⟩),bsl nn var nk kid,int root]],[]⟩) 0 ⟨by omega,by omega⟩ ?_ ?_
     ·exact a4c rfl ⟨AB _,AB _,a6c rfl,trivial⟩ (.cons (.refl _) (.nil _)) (by simp;omega) (.inr rfl) rfl
     ·intro k hk N3 hN3;obtain⟨z2,hz2⟩: ∃z:Bool,z=AG↔L (nk k) (kid k)=L (nk i) (kid i):=by classical exact⟨decide _,decide_eq_true_iff⟩
      cbv;split
      ·have hlk:k<i:=by subst hS;simp[AF] at*;omega
       have hsm:=h7o (nk k) (nk i) (kid k) (kid i) (f5 k (by omega)) z2 hz2;cbv;refine a1g hS (by subst hS;simp[AF];omega) ?_;refine a1g hS (by subst hS;simp[AF];omega) ?_;simp only[AJ,ett,AA,AC];split
       ·have hv:var k=var i:=by subst hS;simp[AF] at*;assumption
        cbv;refine a1g hS (by subst hS;simp[AF];omega) ?_;refine a1g hS (by subst hS;simp[AF];omega) ?_;simp only[AJ,ett,AA,AC];refine a0v hS (bool z2) (by subst hS;exact hsm) ?_;cases z2
        rotate_left
        ·cbv;exact e8z hr fun h=>(h.2.1 i hlt).2 k hlk ⟨hv,hz2.1 rfl⟩
        have hns: ¬L (nk k) (kid k)=L (nk i) (kid i):=fun h=>AD (hz2.2 h);cbv;refine a1g hS (by subst hS;exact b6g (by simp[AF];omega) (by simp[AF];omega)) ?_;refine hN3 (k+1) _ ⟨by omega,fun j hj=> ?_⟩ (by omega) (a4c rfl ⟨AB _,AB _,b0a (by subst hS;simp[AF]),trivial⟩ (.cons (.refl _) (.nil _)) (by simp;omega) (.inr rfl) rfl);by_cases e:j=k
        ·subst e;exact fun h=>hns h.2
        ·exact hk.2 j (by omega)
       ·have hv:var k≠var i:=by subst hS;simp[AF] at*;assumption
        cbv;refine a1g hS (by subst hS;exact b6g (by simp[AF];omega) (by simp[AF];omega)) ?_;refine hN3 (k+1) _ ⟨by omega,fun j hj=> ?_⟩ (by omega) (a4c rfl ⟨AB _,AB _,b0a (by subst hS;simp[AF]),trivial⟩ (.cons (.refl _) (.nil _)) (by simp;omega) (.inr rfl) rfl);by_cases e:j=k
        ·subst e;exact fun h=>hv h.1
        ·exact hk.2 j (by omega)
      ·have hki: ∀j,j<i-> ¬(var j=var i/\L (nk j) (kid j)=L (nk i) (kid i)):=by
        have:i<=k:=by subst hS;simp[AF] at*;omega
        exact fun j hj=>hk.2 j (by omega)
       cbv;refine a1g hS (by subst hS;exact b6g (by simp[AF];omega) (by simp[AF];omega)) ?_;refine hN2 (i+1) _ ⟨by omega,fun j hj=> ?_⟩ (by omega) (a4c rfl ⟨AB _,b0a (by subst hS;simp[AF]),trivial⟩ (.cons (.refl _) (.nil _)) (by simp;omega) (.inr rfl) rfl);by_cases e:j=i
       ·subst e;exact⟨hnf,hki⟩
       ·exact hi.2 j (by omega)
    ·have hN: ∀i',i'<nn-> ¬(∀j,j<nk i'->kid i' j=kid i' 0)/\ ∀k,k<i'-> ¬(var k=var i'/\L (nk k) (kid k)=L (nk i') (kid i')):=by
      have:nn<=i:=by subst hS;simp[AF] at*;omega
      exact fun j hj=>hi.2 j (by omega)
     cbv;refine h3v hS (a1h.nil (args':=[DiR.av ⟨ns,sz,no,od,ne,fun i=>⟨ef i,en' i⟩,nn,var,nk,kid,root⟩,int root,.msl 1 1 none 0 AI,.d .nil]) 1 (fun _=>[.int .i64 (.v 0)]) (a1h.nil (args':=[DiR.av ⟨ns,sz,no,od,ne,fun i=>⟨ef i,en' i⟩,nn,var,nk,kid,root⟩,int root,.msl 1 1 none 0 AI,.msl 2 1 none 0 AI]) 1 (fun _=>[.int .i64 (.v 0)]) (a1h.frame hsrch [1,2] rfl rfl ⟨a9v.refl _,a9v.refl _,trivial⟩) ⟨.inl rfl,.inl rfl,.inl rfl,.inr ⟨rfl,rfl⟩,trivial⟩) ⟨.inl rfl,.inl rfl,.inr ⟨rfl,rfl⟩,.inl rfl,trivial⟩) ?_;rintro pg v H' ⟨pg0,v0,h0,⟨rfl,n',g',e',h',q1,rfl,rfl⟩,rfl,rfl,rfl⟩;rw[q1,h3u,h3u] at hlen;rw[q1] at hr;obtain⟨z,hz⟩: ∃z:Bool,z=AG↔(∀i,i<n'->g' i=i)/\(n':Int)=nn:=by classical exact⟨decide _,decide_eq_true_iff⟩
     obtain⟨z2,hz2⟩: ∃z:Bool,z=AG↔(∀i,i<e'->h' i=i)/\(e':Int)=ne:=by classical exact⟨decide _,decide_eq_true_iff⟩
     have hri:=h8b (n:=n') (by omega) g' nn z hz;have hri2:=h8b (n:=e') (by omega) h' ne z2 hz2;rw[i0d] at hz hz2;cbv;refine a1g hS (by subst hS;simp[AF]) ?_;refine a0v hS (bool z) (by subst hS;exact hri) ?_;cases z
     ·cbv;refine e8z hr fun h=> ?_;have h2:L n' g'=Law.rng nn:=congrArg Prod.fst h.2.2;exact AD (hz.2 h2)
     ·cbv;refine a1g hS (by subst hS;simp[AF]) ?_;refine a0v hS (bool z2) (by subst hS;exact hri2) ?_;cbv;refine a0s ?_;cases z2
      ·cases r
       ·rfl
       ·have h2:L e' h'=Law.rng ne:=congrArg Prod.snd (hr.1 rfl).2.2;exact AD (hz2.2 h2)
      ·cases r
       ·exact absurd (hr.2 ⟨hE,hN,by rw[hz.1 rfl,hz2.1 rfl]⟩) (by simp)
       ·rfl
open Classical in
noncomputable def h3z (d:DiR):Int:=
 if h4e d.ns d.no d.sz d.od≠0 then h4e d.ns d.no d.sz d.od else if 6000<d.nn then 5 else if h3x d then 0 else 4
open Classical in
noncomputable def h5o (d:DiR):Int:=if h3z d≠0 then h3z d else if h5e d then 0 else 4
theorem h5v (d:DiR)(hf:d.fit)(r:Int)(hr:h3z d=r):a0j Tryz.prog AG 90 [d.av] (int r):=by
 obtain⟨e,he⟩: ∃e,h4e d.ns d.no d.sz d.od=e:=⟨_,rfl⟩;have h1:=h4p hf.ns hf.no d.sz d.od e he;obtain⟨z,hz⟩: ∃z:Bool,z=AG↔h3x d:=by classical exact⟨decide _,decide_eq_true_iff⟩
 have h2:=h9y d hf z hz;unfold h3z at hr;rw[he] at hr;have hnn:d.nn<=1000000:=hf.nn;clear hf he;have r1:e≠0->e=r:=fun h=>by rw[<-hr,if_pos h]
 have r2:e=0->6000<d.nn->5=r:=fun h g=>by rw[<-hr,if_neg (fun k=>k h),if_pos g]
 have r3:e=0-> ¬6000<d.nn->z=AG->0=r:=fun h g k=>by rw[<-hr,if_neg (fun k=>k h),if_neg g,if_pos (hz.1 k)]
 have r4:e=0-> ¬6000<d.nn->z=AI->4=r:=fun h g k=>by rw[<-hr,if_neg (fun k=>k h),if_neg g,if_neg (fun l=>by rw[hz.2 l] at k;cases k)]
 clear hr hz;obtain⟨ns,sz,no,od,ne,en,nn,var,nk,kid,root⟩:=d;simp only at h1 h2 r2 r3 r4 hnn;refine a4e (a0k AE okP i8v _ rfl fun E Sg hb hS=> ?_);cbv;refine a0v hS _ h1 ?_;cbv;split
 ·have:e≠0:=by subst hS;simp[AF] at*;assumption
  cbv;exact b0a (r1 this)
 have h0:e=0:=by subst hS;simp[AF] at*;assumption
 cbv;split
 ·have:6000<nn:=by subst hS;simp[AF] at*;omega
  cbv;exact a6c (r2 h0 this)
 have h6: ¬6000<nn:=by subst hS;simp[AF] at*;omega
 cbv;refine a0v hS (bool z) (by subst hS;exact h2) ?_;cases z
 ·cbv;exact a6c (r4 h0 h6 rfl)
 ·cbv;exact a6c (r3 h0 h6 rfl)
theorem h4q {d:DiR}(h:h3z d=0):h4e d.ns d.no d.sz d.od=0/\d.nn<=6000/\h3x d:=by
 unfold h3z at h;split at h
 ·rename_i a;exact absurd h a
 ·split at h
  ·cases h
  ·split at h
   ·rename_i a b c;exact⟨Classical.not_not.1 a,by omega,c⟩
   ·cases h
theorem h3x.kpos {d:DiR}(h:h3x d)(hf:h4e d.ns d.no d.sz d.od=0): ∀i,i<d.nn->1<=d.nk i/\d.nk i<=12:=fun i hi=>by obtain⟨⟨⟨a,b⟩,c⟩,_⟩:=h.2.1 i hi;have:=(h4s hf).2.1 (d.var i).toNat (by omega);omega
theorem i5e (d:DiR)(hf:d.fit)(r:Int)(hr:h5o d=r):a0j Tryz.prog AG 51 [d.av] (int r):=by
 obtain⟨e,he⟩: ∃e,h3z d=e:=⟨_,rfl⟩;have h1:=h5v d hf e he;obtain⟨z,hz⟩: ∃z:Bool,z=AG↔h5e d:=by classical exact⟨decide _,decide_eq_true_iff⟩
 have h2:e=0->a0j Tryz.prog AG 91 [d.av] (bool z):=fun h=>by obtain⟨a,b,c⟩:=h4q (he.trans h);exact h8u d hf c.kids (h4g c.2.2) (fun i hi=>(c.kpos a i hi).1) z hz
 unfold h5o at hr;rw[he] at hr;clear hf he;have r1:e≠0->e=r:=fun h=>by rw[<-hr,if_pos h]
 have r3:e=0->z=AG->0=r:=fun h k=>by rw[<-hr,if_neg (fun k=>k h),if_pos (hz.1 k)]
 have r4:e=0->z=AI->4=r:=fun h k=>by rw[<-hr,if_neg (fun k=>k h),if_neg (fun l=>by rw[hz.2 l] at k;cases k)]
 clear hr hz;obtain⟨ns,sz,no,od,ne,en,nn,var,nk,kid,root⟩:=d;refine a4e (a0k AE okP i8h _ rfl fun E Sg hb hS=> ?_);cbv;refine a0v hS _ h1 ?_;cbv;split
 ·have:e≠0:=by subst hS;simp[AF] at*;assumption
  cbv;exact b0a (r1 this)
 have h0:e=0:=by subst hS;simp[AF] at*;assumption
 cbv;refine a0v hS (bool z) (by subst hS;exact h2 h0) ?_;cases z
 ·cbv;exact a6c (r4 h0 rfl)
 ·cbv;exact a6c (r3 h0 rfl)
def DiR.wf (d:DiR):Prop:=(∀i,i<d.nn-> ∀j,j<d.nk i->c5t (d.kid i j))/\c5t d.root/\ ∀i,i<d.ne->0<=(d.en i).fault
def DiR.row (d:DiR):List DV:=[.sl 1 d.ns fun i=>[.int .i64 (.v (d.sz i))],.sl 1 d.no fun i=>[.int .i64 (.v (d.od i))],.sl 2 d.ne fun i=>(d.en i).row,
 .sl 2 d.nn fun i=>[.int .i64 (.v (d.var i)),.sl 1 (d.nk i) fun j=>[.int .i64 (.v (d.kid i j))]],.int .i64 (.v d.root)]
def dsl (n:Nat)(l:Nat->DiR):AV:= .d (.sl 5 n fun i=>(l i).row)
theorem h6x {d:DiR}(h:h5o d=0):h3z d=0/\h5e d:=by
 unfold h5o at h;split at h
 ·rename_i a;exact absurd h a
 ·split at h
  ·rename_i a b;exact⟨Classical.not_not.1 a,b⟩
  ·cases h
end Go.Proofs.Tryz.Run
