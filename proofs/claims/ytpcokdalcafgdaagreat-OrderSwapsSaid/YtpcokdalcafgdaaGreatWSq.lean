/- The program's clean. The program's equal of diagrams. The program's open of a diagram: the error is the reference's. Conditions: none. -/
import Derived.Test.YtpcokdalcafgdaaGreatWLq
import Derived.Test.YtpcokdalcafgdaaGreatWNa
import Derived.Test.YtpcokdalcafgdaaGreatWNc
import Derived.Test.YtpcokdalcafgdaaGreatWLh
import Derived.Test.YtpcokdalcafgdaaGreatWNb
import Derived.Test.YtpcokdalcafgdaaGreatWOh
import Derived.Test.YtpcokdalcafgdaaGreatWPm0
import Derived.Test.YtpcokdalcafgdaaGreatWQd
import Derived.Test.YtpcokdalcafgdaaGreatWQf
import Derived.Test.YtpcokdalcafgdaaGreatWQh
import Derived.Test.YtpcokdalcafgdaaGreatWQi
import Derived.Test.YtpcokdalcafgdaaGreatWSd
import Derived.Test.YtpcokdalcafgdaaGreatWSg
import Derived.Test.YtpcokdalcafgdaaGreatWSi
import Derived.Test.YtpcokdalcafgdaaGreatWSn
set_option linter.unusedSimpArgs false
set_option linter.unusedVariables false
set_option maxHeartbeats 0
namespace Go.Proofs.Tryz.Run
open Go Go.Vf Go.Proofs
open Go.Proofs.YtpcokdalcafgdaaGreat
def e4p (d:DiR)(b:NdR):Prop:=(b.kids.length:Int)=d.sz b.var.toNat/\b.kids.length<=12
theorem e7x (d:DiR):d6s (e4p d):=⟨fun b h=>h.2,fun b c hb hc e=>by
 have h1:=hb.1
 have h2:=hc.1
 rw[e,<-h2] at h1
 exact Int.ofNat.inj h1⟩
theorem a1s.tame {d:DiR}(h:a1s d)(hf:a2e d.ns d.no d.sz d.od=0)(hfit:d.fit)(h0: ∀i,i<d.ne->0<=(d.en i).fault):d.tame (e4p d):=by
 have hk:=h.kpos hf
 refine⟨hfit,fun i hi=> ?_,h.kids,fun i hi=> ?_,hk,fun i hi l hl=> ?_,e7x d⟩
 ·have h1:=h.1 i hi
  have h2:=h0 i hi
  unfold a2c at h1
  split at h1<;>omega
 ·have h1:=(h.2.1 i hi).1.1
  have:=hfit.ns
  omega
 ·have h1:=(h.2.1 i hi).1.2
  have h2:=hk i hi
  exact⟨by simp only[hl];exact h1,by simp only[hl];exact h2.2⟩
def d8u (d:DiR)(s:Law.Mk)(t:Int):DiR:=
 ⟨d.ns,d.sz,d.no,d.od,s.oe.length,fun i=>s.oe.getD i ⟨0,0⟩,s.on.length,fun i=>(s.on.getD i ⟨0,[]⟩).var,fun i=>(s.on.getD i ⟨0,[]⟩).kids.length,fun i j=>(s.on.getD i ⟨0,[]⟩).kids.getD j 0,t⟩
def s0:Law.Mk:=⟨[],[],fun _=>none⟩
def a2o (d:DiR):Law.Mk×Int:=Law.frm d.E d.N (d.nn+1) d.root s0
theorem c9d {shp:NdR->Prop}{s:Law.Mk}{q1 q2:Nat}{f1 f2:List KC->Option Int}{e1 e2:Nat->List DV}{fk:List KC->Option Int}(h:Rep shp s q1 q2 f1 f2 e1 e2 fk):a0b (.d (.sl 2 q1 e1)) (vsl s.oe.length fun i=>s.oe.getD i ⟨0,0⟩):=
 a0b.sl' h.q1 fun i hi=>by
  have hi':i<s.oe.length:=by rw[<-h.q1];exact hi
  have h1:s.oe[i]? =some s.oe[i]:=List.getElem?_eq_getElem hi'
  rw[h.e1 i _ h1]
  simp[List.getD,h1]
theorem c1y {shp:NdR->Prop}{s:Law.Mk}{q1 q2:Nat}{f1 f2:List KC->Option Int}{e1 e2:Nat->List DV}{fk:List KC->Option Int}(h:Rep shp s q1 q2 f1 f2 e1 e2 fk):
 a0b (.d (.sl 2 q2 e2)) (bsl s.on.length (fun i=>(s.on.getD i ⟨0,[]⟩).var) (fun i=>(s.on.getD i ⟨0,[]⟩).kids.length) fun i j=>(s.on.getD i ⟨0,[]⟩).kids.getD j 0):=
 a0b.slr h.q2 fun i hi=>by
  have hi':i<s.on.length:=by rw[<-h.q2];exact hi
  have h1:s.on[i]? =some s.on[i]:=List.getElem?_eq_getElem hi'
  have h2:s.on.getD i ⟨0,[]⟩=s.on[i]:=by simp[List.getD,h1]
  obtain⟨n,u,h3,h4⟩:=h.e2 i _ h1
  rw[h4]
  simp only[h2]
  refine .cons (.int rfl) (.one (.sl (by rw[h3,a0k]) fun j hj=> ?_))
  refine .one (.int ?_)
  rw[h3]
  simp[L,hj,IX.val]
theorem e1w (d:DiR)(hd:d.tame (e4p d))(hr:a4g d.ne d.root d.nn):a0j Tryz.prog false 158 [d.lav] (d8u d (a2o d).1 (a2o d).2).av:=by
 have hrec:=d8z d (e4p d) hd (d.nn+1) d.root s0 0 0 (fun _=>none) (fun _=>none) (fun _=>[]) (fun _=>[]) 0 (fun _=>none) (by
  rcases Int.lt_or_le d.root 0 with h|h
  ·omega
  ·have:=hr.1 h;omega) hr ⟨by simp[s0],by simp[s0],by simp[s0],by simp[s0],by simp[s0]⟩ ⟨rfl,rfl,by simp[s0],by simp[s0],by simp[s0],by simp[s0],by simp[s0]⟩
 have hmk:=b5o hd.fit.ns hd.fit.no d.sz d.od
 obtain⟨res,hres⟩: ∃res,res=(d8u d (a2o d).1 (a2o d).2).av:=⟨_,rfl⟩
 rw[<-hres]
 change a0g _ _ _ _ (clK d (e4p d) (a2o d).1 (a2o d).2) at hrec
 generalize (a2o d).1=s at hrec hres
 generalize (a2o d).2=t at hrec hres
 generalize e4p d=shp at hrec
 clear hd hr
 obtain⟨ns,sz,no,od,ne,en,nn,var,nk,kd,root⟩:=d
 refine a0d Tryz.mixed okP f2l _ rfl fun E Sg hb hS=> ?_
 cbv
 refine a1a hS (a0g.frame hmk [] rfl rfl trivial) ?_
 rintro pg v H' ⟨pg0,v0,h0,⟨rfl,rfl,rfl⟩,rfl,rfl,rfl⟩
 cbv
 have hfr:=a0g.frame (args':=[int root,.ptr 6 0,.ptr 0 0,.ptr 8 0,.ptr 9 0]) hrec (H:=[.var [isl ns sz,isl no od,isl ns sz,isl no od,vsl ne en,bsl nn var nk kd,int root],.var [.d .nil,.d .nil,.d .nil,.d .nil,.d (.int .i64 (.l (Int.ofNat 0)))],.var [.any,.any],.map true [.u8,.i64] 0 (fun _=>none),.map true d1q 0 (fun _=>none),.var [isl ns sz,isl no od,isl ns sz,isl no od,.msl 10 2 none 0 false,.msl 11 2 none 0 false,int 0,.map 3,.map 4],.var [.ptr 5 0],.map false [.i64] 0 (fun _=>none),.var [.map 7],.var [.fn 183 [] [.ptr 6 0,.ptr 0 0,.ptr 8 0,.ptr 9 0]],.arr 2 0 (fun _=>[]),.arr 2 0 (fun _=>[])]) [5,3,4,10,11,6,0,7,8,9] rfl rfl
  ⟨a0f.refl _,a0f.refl _,a0f.refl _,a0f.refl _,a0f.refl _,a0f.refl _,a0f.refl _,a0f.refl _,a0f.refl _,a0f.refl _,trivial⟩
 have sm:d0j 10 2 [int root,.ptr 6 0,.ptr 0 0,.ptr 8 0,.ptr 9 0] [int root,.ptr 6 0,.ptr 0 0,.ptr 8 0,.ptr 9 0]:=⟨.inl rfl,.inl rfl,.inl rfl,.inl rfl,.inl rfl,trivial⟩
 have sm2:d0j 11 2 [int root,.ptr 6 0,.ptr 0 0,.ptr 8 0,.ptr 9 0] [int root,.ptr 6 0,.ptr 0 0,.ptr 8 0,.ptr 9 0]:=⟨.inl rfl,.inl rfl,.inl rfl,.inl rfl,.inl rfl,trivial⟩
 have h2:=a0g.nilH (h:=[.var [isl ns sz,isl no od,isl ns sz,isl no od,vsl ne en,bsl nn var nk kd,int root],.var [.d .nil,.d .nil,.d .nil,.d .nil,.d (.int .i64 (.l (Int.ofNat 0)))],.var [.any,.any],.map true [.u8,.i64] 0 (fun _=>none),.map true d1q 0 (fun _=>none),.var [isl ns sz,isl no od,isl ns sz,isl no od,.msl 10 2 none 0 false,.d .nil,int 0,.map 3,.map 4],.var [.ptr 5 0],.map false [.i64] 0 (fun _=>none),.var [.map 7],.var [.fn 183 [] [.ptr 6 0,.ptr 0 0,.ptr 8 0,.ptr 9 0]],.arr 2 0 (fun _=>[])]) (h2:=[.var [isl ns sz,isl no od,isl ns sz,isl no od,vsl ne en,bsl nn var nk kd,int root],.var [.d .nil,.d .nil,.d .nil,.d .nil,.d (.int .i64 (.l (Int.ofNat 0)))],.var [.any,.any],.map true [.u8,.i64] 0 (fun _=>none),.map true d1q 0 (fun _=>none),.var [isl ns sz,isl no od,isl ns sz,isl no od,.msl 10 2 none 0 false,.msl 11 2 none 0 false,int 0,.map 3,.map 4],.var [.ptr 5 0],.map false [.i64] 0 (fun _=>none),.var [.map 7],.var [.fn 183 [] [.ptr 6 0,.ptr 0 0,.ptr 8 0,.ptr 9 0]],.arr 2 0 (fun _=>[])]) 2 (fun _=>[]) hfr sm2
  ⟨.inl rfl,.inl rfl,.inl rfl,.inl rfl,.inl rfl,.inr ⟨_,_,rfl,rfl,.inl rfl,.inl rfl,.inl rfl,.inl rfl,.inl rfl,.inr ⟨rfl,rfl⟩,.inl rfl,.inl rfl,.inl rfl,trivial⟩,.inl rfl,.inl rfl,.inl rfl,.inl rfl,.inl rfl,trivial⟩
 have h1:=a0g.nilH (h:=[.var [isl ns sz,isl no od,isl ns sz,isl no od,vsl ne en,bsl nn var nk kd,int root],.var [.d .nil,.d .nil,.d .nil,.d .nil,.d (.int .i64 (.l (Int.ofNat 0)))],.var [.any,.any],.map true [.u8,.i64] 0 (fun _=>none),.map true d1q 0 (fun _=>none),.var [isl ns sz,isl no od,isl ns sz,isl no od,.d .nil,.d .nil,int 0,.map 3,.map 4],.var [.ptr 5 0],.map false [.i64] 0 (fun _=>none),.var [.map 7],.var [.fn 183 [] [.ptr 6 0,.ptr 0 0,.ptr 8 0,.ptr 9 0]]]) (h2:=[.var [isl ns sz,isl no od,isl ns sz,isl no od,vsl ne en,bsl nn var nk kd,int root],.var [.d .nil,.d .nil,.d .nil,.d .nil,.d (.int .i64 (.l (Int.ofNat 0)))],.var [.any,.any],.map true [.u8,.i64] 0 (fun _=>none),.map true d1q 0 (fun _=>none),.var [isl ns sz,isl no od,isl ns sz,isl no od,.msl 10 2 none 0 false,.d .nil,int 0,.map 3,.map 4],.var [.ptr 5 0],.map false [.i64] 0 (fun _=>none),.var [.map 7],.var [.fn 183 [] [.ptr 6 0,.ptr 0 0,.ptr 8 0,.ptr 9 0]]]) 2 (fun _=>[]) h2 sm
  ⟨.inl rfl,.inl rfl,.inl rfl,.inl rfl,.inl rfl,.inr ⟨_,_,rfl,rfl,.inl rfl,.inl rfl,.inl rfl,.inl rfl,.inr ⟨rfl,rfl⟩,.inl rfl,.inl rfl,.inl rfl,.inl rfl,trivial⟩,.inl rfl,.inl rfl,.inl rfl,.inl rfl,trivial⟩
 refine a1a hS h1.pgs ?_
 rintro pg v H' ⟨pg1,⟨pg0,v0,h0,⟨rfl,q1,q2,f1,f2,e1,e2,c,fk,w1,rfl,rfl⟩,rfl,rfl,rfl⟩,hpg⟩
 have hpg0:pg=[]:=hpg
 subst hpg0
 clear hpg
 cbv
 clear hrec h1 h2 hfr hmk
 refine a0a hS (by subst hS;simp[std]) (a0a hS (by subst hS;simp[std]) (a0a hS (by subst hS;simp[std]) ?_))
 subst hres
 exact a1r.agg (.cons (a0b.refl _) (.cons (a0b.refl _) (.cons (c9d w1) (.cons (c1y w1) (.cons (a0b.refl _) .nil)))))
theorem a2w {α:Type}{n m:Nat}{g h:Nat->α}:L n g=L m h↔n=m/\ ∀i,i<n->g i=h i:=by
 constructor
 ·intro e
  have el:n=m:=by simpa [a0k] using congrArg List.length e
  subst el
  refine⟨rfl,fun j hj=> ?_⟩
  have:=congrArg (fun l=>l[j]?) e
  simpa [L,hj] using this
 ·rintro⟨rfl,hh⟩;exact a3i hh
theorem e0r {n m:Nat}(hn:n<=1000000)(f g:Nat->VaR)(r:Bool)(hr:r=true↔L n f=L m g):a0j Tryz.prog true 181 [vsl n f,vsl m g] (bool r):=by
 rw[a2w] at hr
 obtain⟨ef,en,hf⟩: ∃ef en,f=fun i=>VaR.mk (ef i) (en i):=⟨fun i=>(f i).fault,fun i=>(f i).n,rfl⟩
 obtain⟨eg,eh,hg⟩: ∃ef en,g=fun i=>VaR.mk (ef i) (en i):=⟨fun i=>(g i).fault,fun i=>(g i).n,rfl⟩
 subst hf hg
 simp only[VaR.eq_iff] at hr
 refine a0s (a0d Tryz.mixed okP f1b _ rfl fun E Sg hb hS=> ?_)
 have ett: ∀z,Sg.toNat z=z.toNat:=by subst hS;exact fun _=>rfl
 cbv
 split
 ·have hne:n≠m:=by clear hr;subst hS;simp[std] at*;omega
  cbv
  exact a2i hr fun h=>hne h.1
 have hnm:n=m:=by clear hr;subst hS;simp[std] at*;omega
 subst hnm
 cbv
 refine a0y Tryz.mixed okP hS (fun i=>i<=n/\ ∀j,j<i->ef j=eg j/\en j=eh j) (fun i=>n-i)
  (fun i=>⟨a2l [(0,vsl n (fun i=>⟨ef i,en i⟩)),(1,vsl n (fun i=>⟨eg i,eh i⟩)),(12,int n),(13,int i)] 26,[],[]⟩) 0 ⟨by omega,by omega⟩ ?_ ?_
 ·exact a0m rfl ⟨a0b.refl _,a0b.refl _,a1f (by subst hS;rfl),a1m rfl,trivial⟩ (.nil _) (by omega) (.inr rfl) rfl
 ·intro i hi N hN
  cbv
  split
  ·have hlt:i<n:=by clear hr hN;subst hS;simp[std] at*;omega
   cbv
   refine a0a hS (by subst hS;simp[std];omega) ?_
   refine a0a hS (by subst hS;simp[std];omega) ?_
   simp only[nat,ett,Int.ofNat_eq_natCast,Int.toNat_natCast]
   split
   ·have hx: ¬(ef i=eg i/\en i=eh i):=by clear hr hN;subst hS;simp[std] at*;intro h;omega
    cbv
    exact a2i hr fun hh=>hx (hh.2 i hlt)
   ·have hx:ef i=eg i/\en i=eh i:=by clear hr hN;subst hS;simp[std] at*;assumption
    cbv
    refine a0a hS (by subst hS;exact a0h (by simp[std];omega) (by simp[std];omega)) ?_
    refine hN (i+1) _ ⟨by omega,fun j hj=> ?_⟩ (by omega) (a0m rfl ⟨a0b.refl _,a0b.refl _,a0b.refl _,a1f (by subst hS;simp[std]),trivial⟩ (.nil _) (by omega) (.inr rfl) rfl)
    by_cases e:j=i
    ·subst e;exact hx
    ·exact hi.2 j (by omega)
  ·have hall: ∀j,j<n->ef j=eg j/\en j=eh j:=by
    have:n<=i:=by clear hr hN;subst hS;simp[std] at*;omega
    exact fun j hj=>hi.2 j (by omega)
   cbv
   exact b8q hr ⟨rfl,hall⟩
theorem e6v (v w:Int){n m:Nat}(hn:n<=1000000)(g h:Nat->Int)(r:Bool)(hr:r=true↔v=w/\L n g=L m h):a0j Tryz.prog true 180 [.agg [int v,isl n g],.agg [int w,isl m h]] (bool r):=by
 obtain⟨z,hz⟩: ∃z:Bool,z=true↔L n g=L m h:=by classical exact⟨decide _,decide_eq_true_iff⟩
 have h1:=a8r hn g h z hz
 rw[<-hz] at hr
 refine a0s (a0d Tryz.mixed okP f1k _ rfl fun E Sg hb hS=> ?_)
 cbv
 split
 ·have hv:v=w:=by clear hr h1;subst hS;simp[std] at*;assumption
  cbv
  refine a0e hS (bool z) (by subst hS;exact h1) ?_
  cbv
  refine a0v ?_
  cases r
  ·cases z
   ·rfl
   ·exact absurd (hr.2 ⟨hv,rfl⟩) (by simp)
  ·exact (hr.1 rfl).2
 ·have hv:v≠w:=by clear hr h1;subst hS;simp[std] at*;assumption
  cbv
  exact a2i hr fun h=>hv h.1
theorem d9p {n m:Nat}(hn:n<=1000000)(va vb:Nat->Int)(na nb:Nat->Nat)(ka kb:Nat->Nat->Int)(hk: ∀i,i<n->na i<=1000000)(r:Bool)
 (hr:r=true↔n=m/\ ∀i,i<n->va i=vb i/\L (na i) (ka i)=L (nb i) (kb i)):a0g Tryz.prog 182 [bsl n va na ka,bsl m vb nb kb,.fn 180 [] []] [] (ro [] (bool r)):=by
 obtain⟨z,hz⟩: ∃z:Nat->Bool,∀i,z i=true↔va i=vb i/\L (na i) (ka i)=L (nb i) (kb i):=by classical exact⟨fun i=>decide (va i=vb i/\L (na i) (ka i)=L (nb i) (kb i)),fun i=>decide_eq_true_iff⟩
 have h1:=fun i hi=>e6v (va i) (vb i) (m:=nb i) (hk i hi) (ka i) (kb i) (z i) (hz i)
 simp only[<-hz] at hr
 clear hz hk
 refine a1p Tryz.mixed okP f2y _ rfl fun E Sg hb hS=> ?_
 simp only[List.length_nil] at hb
 have ett: ∀z,Sg.toNat z=z.toNat:=by subst hS;exact fun _=>rfl
 cbv
 split
 ·have hne:n≠m:=by clear hr h1;subst hS;simp[std] at*;omega
  cbv
  exact a1o (a2i hr fun h=>hne h.1) (.nil _) (.inr rfl)
 have hnm:n=m:=by clear hr h1;subst hS;simp[std] at*;omega
 subst hnm
 cbv
 refine a0y Tryz.mixed okP hS (fun i=>i<=n/\ ∀j,j<i->z j=true) (fun i=>n-i)
  (fun i=>⟨a2l [(0,bsl n va na ka),(1,bsl n vb nb kb),(2,.fn 180 [] []),(15,bsl n va na ka),(16,int n),(17,int i)] 32,[],[]⟩) 0 ⟨by omega,by omega⟩ ?_ ?_
 ·exact a0m rfl ⟨a0b.refl _,a0b.refl _,a0b.refl _,a0b.refl _,a1f (by subst hS;rfl),a1m rfl,trivial⟩ (.nil _) (by simp;omega) (.inr rfl) rfl
 ·intro i hi N hN
  cbv
  split
  ·have hlt:i<n:=by clear hr hN h1;subst hS;simp[std] at*;omega
   have hin:=h1 i hlt
   generalize hzi:z i=zi at hin
   cbv
   refine a0a hS (by clear h1 hin;subst hS;simp[std];omega) ?_
   refine a0a hS (by clear h1 hin;subst hS;simp[std];omega) ?_
   simp only[nat,ett,Int.ofNat_eq_natCast,Int.toNat_natCast]
   refine a2a hS (a0g.of_pure rfl hin) ?_
   cases zi
   ·cbv
    exact a1o (a2i hr fun hh=>by rw[hh.2 i hlt] at hzi;cases hzi) (.nil _) (.inl ⟨rfl,rfl⟩)
   ·cbv
    refine a0a hS (by clear h1 hin;subst hS;exact a0h (by simp[std];omega) (by simp[std];omega)) ?_
    refine hN (i+1) _ ⟨by omega,fun j hj=> ?_⟩ (by omega) (a0m rfl ⟨a0b.refl _,a0b.refl _,a0b.refl _,a0b.refl _,a0b.refl _,a1f (by clear h1 hin;subst hS;simp[std]),trivial⟩ (.nil _) (by simp;omega) (.inl ⟨rfl,rfl⟩) rfl)
    by_cases e:j=i
    ·subst e;exact hzi
    ·exact hi.2 j (by omega)
  ·have hall: ∀j,j<n->z j=true:=by
    have:n<=i:=by clear hr hN h1;subst hS;simp[std] at*;omega
    exact fun j hj=>hi.2 j (by omega)
   cbv
   exact a1o (b8q hr ⟨rfl,hall⟩) (.nil _) (.inr rfl)
def a6o (a b:DiR):Prop:=L a.ns a.sz=L b.ns b.sz/\L a.no a.od=L b.no b.od/\a.E=b.E/\a.N=b.N/\a.root=b.root
theorem a8z {a b:DiR}:a.N=b.N↔a.nn=b.nn/\ ∀i,i<a.nn->a.var i=b.var i/\L (a.nk i) (a.kid i)=L (b.nk i) (b.kid i):=by
 rw[DiR.N,DiR.N,a2w]
 constructor
 ·rintro⟨h1,h2⟩
  refine⟨h1,fun i hi=> ?_⟩
  have:=h2 i hi
  simp only[DiR.nd] at this
  injection this with a b
  exact⟨a,b⟩
 ·rintro⟨h1,h2⟩
  exact⟨h1,fun i hi=>by simp only[DiR.nd];rw[(h2 i hi).1,(h2 i hi).2]⟩
theorem e0f (a b:DiR)(ha:a.ns<=1000000/\a.no<=1000000/\a.ne<=1000000/\a.nn<=1000000)(hk: ∀i,i<a.nn->a.nk i<=1000000)(r:Bool)(hr:r=true↔a6o a b):a0j Tryz.prog true 157 [a.av,b.av] (bool r):=by
 obtain⟨z1,hz1⟩: ∃z:Bool,z=true↔L a.ns a.sz=L b.ns b.sz:=by classical exact⟨decide _,decide_eq_true_iff⟩
 obtain⟨z2,hz2⟩: ∃z:Bool,z=true↔L a.no a.od=L b.no b.od:=by classical exact⟨decide _,decide_eq_true_iff⟩
 obtain⟨z3,hz3⟩: ∃z:Bool,z=true↔a.E=b.E:=by classical exact⟨decide _,decide_eq_true_iff⟩
 obtain⟨z4,hz4⟩: ∃z:Bool,z=true↔a.N=b.N:=by classical exact⟨decide _,decide_eq_true_iff⟩
 have h1:=a8r ha.1 a.sz b.sz z1 hz1
 have h2:=a8r ha.2.1 a.od b.od z2 hz2
 have h3:=e0r ha.2.2.1 a.en b.en z3 hz3
 rw[a8z] at hz4
 have h4:=d9p (m:=b.nn) ha.2.2.2 a.var b.var a.nk b.nk a.kid b.kid hk z4 hz4
 rw[<-a8z] at hz4
 simp only[a6o,<-hz1,<-hz2,<-hz3,<-hz4] at hr
 clear hz1 hz2 hz3 hz4 ha hk
 obtain⟨ns,sz,no,od,ne,en,nn,var,nk,kid,root⟩:=a
 obtain⟨ns',sz',no',od',ne',en',nn',var',nk',kid',root'⟩:=b
 simp only at hr
 refine a0s (a0d Tryz.mixed okP f0x _ rfl fun E Sg hb hS=> ?_)
 cbv
 refine a0e hS (bool z1) (by subst hS;exact h1) ?_
 cases z1
 ·cbv
  exact a2i hr fun h=>Bool.noConfusion h.1
 cbv
 refine a0e hS (bool z2) (by subst hS;exact h2) ?_
 cases z2
 ·cbv
  exact a2i hr fun h=>Bool.noConfusion h.2.1
 cbv
 refine a0e hS (bool z3) (by subst hS;exact h3) ?_
 cases z3
 ·cbv
  exact a2i hr fun h=>Bool.noConfusion h.2.2.1
 cbv
 refine a1a hS (a0g.frame h4 [] rfl rfl trivial) ?_
 rintro pg v H' ⟨pg0,v0,h0,⟨rfl,rfl,rfl⟩,rfl,rfl,rfl⟩
 cases z4
 ·cbv
  exact a2i hr fun h=>Bool.noConfusion h.2.2.2.1
 cbv
 refine a0v ?_
 clear h1 h2 h3 h4
 subst hS
 simp only[std]
 cases r
 ·exact decide_eq_false fun h=>Bool.noConfusion (hr.2 ⟨rfl,rfl,rfl,rfl,h⟩)
 ·exact decide_eq_true (hr.1 rfl).2.2.2.2
theorem a9g {α:Type}(l:List α)(x:α):(L l.length fun i=>l.getD i x)=l:=by
 unfold L
 refine List.ext_getElem (by simp) fun i h1 h2=> ?_
 simp[List.getD,List.getElem?_eq_getElem h2]
theorem f1t (d:DiR)(s:Law.Mk)(t:Int):(d8u d s t).E=s.oe:=a9g _ _
theorem f1x (d:DiR)(s:Law.Mk)(t:Int):(d8u d s t).N=s.on:=by
 have:(d8u d s t).nd=fun i=>s.on.getD i ⟨0,[]⟩:=by
  funext i
  simp only[DiR.nd,d8u]
  rw[a9g]
 rw[DiR.N,this]
 exact a9g _ _
theorem d1e {d:DiR}(h:a1s d)(hf:a2e d.ns d.no d.sz d.od=0):a6o (d8u d (a2o d).1 (a2o d).2) d↔a8g d:=by
 have hro:=a3f h.2.2
 have hNl:d.N.length=d.nn:=a0k _ _
 rw[<-d7q fun i hi=>(h.kpos hf i hi).1,<-Law.clean_iff h.kids.loose hro.ok']
 unfold a6o Law.isClean
 rw[f1t,f1x,hNl]
 constructor
 ·rintro⟨_,_,a,b,c⟩;exact⟨a,b,c⟩
 ·rintro⟨a,b,c⟩;exact⟨rfl,rfl,a,b,c⟩
theorem c4o {d:DiR}(hd:d.tame (e4p d))(hr:a4g d.ne d.root d.nn):(a2o d).1.oe.length<=d.ne/\(a2o d).1.on.length<=d.nn/\ ∀b,b∈(a2o d).1.on->b.kids.length<=12:=by
 have hg:=(Law.frm_good (E:=d.E) (N:=d.N) (nn:=d.nn) (a0k _ _) (shp:=e4p d) hd.kids.loose (fun j b hb=>by
  rw[DiR.N,a6x] at hb
  split at hb
  ·rename_i hj
   cases hb
   refine⟨by simp only[DiR.nd,a0k];exact (hd.nk j hj).1,fun l hl=>hd.shape j hj l (by simpa only[DiR.nd,a0k] using hl)⟩
  ·cases hb) (d.nn+1) d.root s0 (by
   rcases Int.lt_or_le d.root 0 with h|h
   ·omega
   ·have:=hr.1 h;omega) hr.ok ⟨by simp[s0],by simp[s0],by simp[s0],by simp[s0],by simp[s0]⟩).1
 have h1:=hg.oeLen
 rw[show d.E.length=d.ne from a0k _ _] at h1
 exact⟨h1,hg.onLen,fun b hb=>(hg.sh b hb).2⟩
theorem e8g (d:DiR)(hf:d.fit)(h0: ∀i,i<d.ne->0<=(d.en i).fault)(hno:d.no<=12)(r:Int)(hr:a7c d=r):
 ∃v,(v=d.lav\/a2e d.ns d.no d.sz d.od≠0/\v=e0o)/\a0j Tryz.prog false 118 [d.av] (.tuple [v,int r]):=by
 obtain⟨e,he⟩: ∃e,a2n d=e:=⟨_,rfl⟩
 obtain⟨v,hv,ho⟩:=c3t d hf h0 hno e he
 refine⟨v,hv,?_⟩
 unfold a7c at hr
 rw[he] at hr
 by_cases hz:e=0
 ·subst hz
  rw[if_neg (fun h=>h rfl)] at hr
  obtain⟨a1,a2,a3⟩:=a3z he
  have hv:v=d.lav:=hv.resolve_right fun h=>h.1 a1
  subst hv
  clear hv
  have htame:=a3.tame a1 hf h0
  have hcl:=e1w d htame (a3f a3.2.2)
  have hgd:=c4o htame (a3f a3.2.2)
  have hiff:=d1e a3 a1
  obtain⟨z,hz⟩: ∃z:Bool,z=true↔a6o (d8u d (a2o d).1 (a2o d).2) d:=by classical exact⟨decide _,decide_eq_true_iff⟩
  have hne:=hf.ne
  have hnn:=hf.nn
  have heq:=e0f (d8u d (a2o d).1 (a2o d).2) d ⟨hf.ns,hf.no,Nat.le_trans hgd.1 hne,Nat.le_trans hgd.2.1 hnn⟩ (fun i hi=>by
   have hi:i<(a2o d).1.on.length:=hi
   have hm:(a2o d).1.on.getD i ⟨0,[]⟩∈(a2o d).1.on:=by
    simp[List.getD,List.getElem?_eq_getElem hi]
   have:=hgd.2.2 _ hm
   show ((a2o d).1.on.getD i ⟨0,[]⟩).kids.length<=1000000
   omega) z hz
  rw[hiff] at hz
  have r0:z=true->0=r:=fun h=>by rw[<-hr,if_pos (hz.1 h)]
  have r4:z=false->4=r:=fun h=>by rw[<-hr,if_neg (fun k=>by rw[hz.2 k] at h;cases h)]
  generalize d8u d (a2o d).1 (a2o d).2=o at hcl heq
  clear hr hz hiff hgd htame a1 a2 a3 he hf h0 hne hnn
  obtain⟨ns,sz,no,od,ne,en,nn,var,nk,kid,root⟩:=d
  obtain⟨ns',sz',no',od',ne',en',nn',var',nk',kid',root'⟩:=o
  obtain⟨res,hres⟩: ∃res,res=DiR.lav ⟨ns,sz,no,od,ne,en,nn,var,nk,kid,root⟩:=⟨_,rfl⟩
  refine a0d Tryz.mixed okP e0l _ rfl fun E Sg hb hS=> ?_
  rw[<-hres]
  cbv
  refine a0e hS _ (by subst hS;exact ho) ?_
  cbv
  split
  rotate_left
  ·rename_i h;exfalso;clear ho hcl heq;subst hS;simp[std] at h
  cbv
  refine a0e hS _ (by subst hS;exact hcl) ?_
  cbv
  repeat' (with_reducible apply a0a hS)
  all_goals try (clear ho hcl heq;subst hS;simp[std];done)
  refine a0e hS (bool z) (by subst hS;exact heq) ?_
  cases z
  ·cbv
   subst hres
   exact a1r.tuple (.cons (a0b.refl _) (.cons (a1m (r4 rfl)) .nil))
  ·cbv
   subst hres
   exact a1r.tuple (.cons (a0b.refl _) (.cons (a1f (r0 rfl)) .nil))
 ·rw[if_pos hz] at hr
  subst hr
  clear he hf h0
  obtain⟨ns,sz,no,od,ne,en,nn,var,nk,kid,root⟩:=d
  obtain⟨res,hres⟩: ∃res,res=v:=⟨_,rfl⟩
  rw[<-hres]
  rcases hv with rfl|⟨_,rfl⟩
  ·refine a0d Tryz.mixed okP e0l _ rfl fun E Sg hb hS=> ?_
   cbv
   refine a0e hS _ (by subst hS;exact ho) ?_
   cbv
   split
   ·rename_i h;exfalso;clear ho;subst hS;simp[std] at h;exact hz h
   cbv
   subst hres
   exact a1r.tuple (.cons (a0b.refl _) (.cons (a0b.refl _) .nil))
  ·refine a0d Tryz.mixed okP e0l _ rfl fun E Sg hb hS=> ?_
   cbv
   refine a0e hS _ (by subst hS;exact ho) ?_
   cbv
   split
   ·rename_i h;exfalso;clear ho;subst hS;simp[std] at h;exact hz h
   cbv
   subst hres
   exact a1r.tuple (.cons (a0b.refl _) (.cons (a0b.refl _) .nil))
end Go.Proofs.Tryz.Run
