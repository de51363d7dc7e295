/- The program's clean. The program's equal of diagrams. Conditions: none. -/
import Derived.Test.YtbglklaocjifhaaGreatWLr
import Derived.Test.YtbglklaocjifhaaGreatWNb
import Derived.Test.YtbglklaocjifhaaGreatWNe
import Derived.Test.YtbglklaocjifhaaGreatWPm0
import Derived.Test.YtbglklaocjifhaaGreatWQd
import Derived.Test.YtbglklaocjifhaaGreatWQf
import Derived.Test.YtbglklaocjifhaaGreatWQi
import Derived.Test.YtbglklaocjifhaaGreatWSd
import Derived.Test.YtbglklaocjifhaaGreatWSg
import Derived.Test.YtbglklaocjifhaaGreatWSi
import Derived.Test.YtbglklaocjifhaaGreatWSn
set_option linter.unusedSimpArgs false
set_option linter.unusedVariables false
set_option maxHeartbeats 0
namespace Go.Proofs.Tryz.Run
open Go Go.Vf Go.Proofs
open Go.Proofs.YtbglklaocjifhaaGreat
def i3w (d:DiR)(b:NdR):Prop:=(b.kids.length:Int)=d.sz b.var.toNat/\b.kids.length<=12
theorem i5j (d:DiR):i5a (i3w d):=⟨fun b h=>h.2,fun b c hb hc e=>by
 have h1:=hb.1
 have h2:=hc.1
 rw[e,<-h2] at h1
 exact Int.ofNat.inj h1⟩
theorem h3x.tame {d:DiR}(h:h3x d)(hf:h4e d.ns d.no d.sz d.od=0)(hfit:d.fit)(h0: ∀i,i<d.ne->0<=(d.en i).fault):d.tame (i3w d):=by
 have hk:=h.kpos hf
 refine⟨hfit,fun i hi=> ?_,h.kids,fun i hi=> ?_,hk,fun i hi l hl=> ?_,i5j d⟩
 ·have h1:=h.1 i hi
  have h2:=h0 i hi
  unfold a1i at h1
  split at h1<;>omega
 ·have h1:=(h.2.1 i hi).1.1
  have:=hfit.ns
  omega
 ·have h1:=(h.2.1 i hi).1.2
  have h2:=hk i hi
  exact⟨by simp only[hl];exact h1,by simp only[hl];exact h2.2⟩
def i2k (d:DiR)(s:Law.Mk)(t:Int):DiR:=
 ⟨d.ns,d.sz,d.no,d.od,s.oe.length,fun i=>s.oe.getD i ⟨0,0⟩,s.on.length,fun i=>(s.on.getD i ⟨0,[]⟩).var,fun i=>(s.on.getD i ⟨0,[]⟩).kids.length,fun i j=>(s.on.getD i ⟨0,[]⟩).kids.getD j 0,t⟩
def s0:Law.Mk:=⟨[],[],fun _=>none⟩
def h3y (d:DiR):Law.Mk×Int:=Law.frm d.E d.N (d.nn+1) d.root s0
theorem i3b {shp:NdR->Prop}{s:Law.Mk}{q1 q2:Nat}{f1 f2:List KC->Option Int}{e1 e2:Nat->List DV}{fk:List KC->Option Int}(h:Rep shp s q1 q2 f1 f2 e1 e2 fk):a0x (.d (.sl 2 q1 e1)) (vsl s.oe.length fun i=>s.oe.getD i ⟨0,0⟩):=
 a0x.sl' h.q1 fun i hi=>by
  have hi':i<s.oe.length:=by rw[<-h.q1];exact hi
  have h1:s.oe[i]? =some s.oe[i]:=List.getElem?_eq_getElem hi'
  rw[h.e1 i _ h1]
  simp[List.getD,h1]
theorem i2e {shp:NdR->Prop}{s:Law.Mk}{q1 q2:Nat}{f1 f2:List KC->Option Int}{e1 e2:Nat->List DV}{fk:List KC->Option Int}(h:Rep shp s q1 q2 f1 f2 e1 e2 fk):
 a0x (.d (.sl 2 q2 e2)) (bsl s.on.length (fun i=>(s.on.getD i ⟨0,[]⟩).var) (fun i=>(s.on.getD i ⟨0,[]⟩).kids.length) fun i j=>(s.on.getD i ⟨0,[]⟩).kids.getD j 0):=
 a0x.slr h.q2 fun i hi=>by
  have hi':i<s.on.length:=by rw[<-h.q2];exact hi
  have h1:s.on[i]? =some s.on[i]:=List.getElem?_eq_getElem hi'
  have h2:s.on.getD i ⟨0,[]⟩=s.on[i]:=by simp[List.getD,h1]
  obtain⟨n,u,h3,h4⟩:=h.e2 i _ h1
  rw[h4]
  simp only[h2]
  refine .cons (.int rfl) (.one (.sl (by rw[h3,h3u]) fun j hj=> ?_))
  refine .one (.int ?_)
  rw[h3]
  simp[L,hj,IX.val]
theorem i3c (d:DiR)(hd:d.tame (i3w d))(hr:h4k d.ne d.root d.nn):a0j Tryz.prog false 198 [d.lav] (i2k d (h3y d).1 (h3y d).2).av:=by
 have hrec:=i2v d (i3w d) hd (d.nn+1) d.root s0 0 0 (fun _=>none) (fun _=>none) (fun _=>[]) (fun _=>[]) 0 (fun _=>none) (by
  rcases Int.lt_or_le d.root 0 with h|h
  ·omega
  ·have:=hr.1 h;omega) hr ⟨by simp[s0],by simp[s0],by simp[s0],by simp[s0],by simp[s0]⟩ ⟨rfl,rfl,by simp[s0],by simp[s0],by simp[s0],by simp[s0],by simp[s0]⟩
 have hmk:=h8o hd.fit.ns hd.fit.no d.sz d.od
 obtain⟨res,hres⟩: ∃res,res=(i2k d (h3y d).1 (h3y d).2).av:=⟨_,rfl⟩
 rw[<-hres]
 change a1h _ _ _ _ (clK d (i3w d) (h3y d).1 (h3y d).2) at hrec
 generalize (h3y d).1=s at hrec hres
 generalize (h3y d).2=t at hrec hres
 generalize i3w d=shp at hrec
 clear hd hr
 obtain⟨ns,sz,no,od,ne,en,nn,var,nk,kd,root⟩:=d
 refine a0k Tryz.mixed okP e7r _ rfl fun E Sg hb hS=> ?_
 cbv
 refine h3v hS (a1h.frame hmk [] rfl rfl trivial) ?_
 rintro pg v H' ⟨pg0,v0,h0,⟨rfl,rfl,rfl⟩,rfl,rfl,rfl⟩
 cbv
 have hfr:=a1h.frame (args':=[int root,.ptr 6 0,.ptr 0 0,.ptr 8 0,.ptr 9 0]) hrec (H:=[.var [isl ns sz,isl no od,isl ns sz,isl no od,vsl ne en,bsl nn var nk kd,int root],.var [.d .nil,.d .nil,.d .nil,.d .nil,.d (.int .i64 (.l (Int.ofNat 0)))],.var [.any,.any],.map true [.u8,.i64] 0 (fun _=>none),.map true i4j 0 (fun _=>none),.var [isl ns sz,isl no od,isl ns sz,isl no od,.msl 10 2 none 0 false,.msl 11 2 none 0 false,int 0,.map 3,.map 4],.var [.ptr 5 0],.map false [.i64] 0 (fun _=>none),.var [.map 7],.var [.fn 237 [] [.ptr 6 0,.ptr 0 0,.ptr 8 0,.ptr 9 0]],.arr 2 0 (fun _=>[]),.arr 2 0 (fun _=>[])]) [5,3,4,10,11,6,0,7,8,9] rfl rfl
  ⟨a9v.refl _,a9v.refl _,a9v.refl _,a9v.refl _,a9v.refl _,a9v.refl _,a9v.refl _,a9v.refl _,a9v.refl _,a9v.refl _,trivial⟩
 have sm:d6k 10 2 [int root,.ptr 6 0,.ptr 0 0,.ptr 8 0,.ptr 9 0] [int root,.ptr 6 0,.ptr 0 0,.ptr 8 0,.ptr 9 0]:=⟨.inl rfl,.inl rfl,.inl rfl,.inl rfl,.inl rfl,trivial⟩
 have sm2:d6k 11 2 [int root,.ptr 6 0,.ptr 0 0,.ptr 8 0,.ptr 9 0] [int root,.ptr 6 0,.ptr 0 0,.ptr 8 0,.ptr 9 0]:=⟨.inl rfl,.inl rfl,.inl rfl,.inl rfl,.inl rfl,trivial⟩
 have h2:=a1h.nilH (h:=[.var [isl ns sz,isl no od,isl ns sz,isl no od,vsl ne en,bsl nn var nk kd,int root],.var [.d .nil,.d .nil,.d .nil,.d .nil,.d (.int .i64 (.l (Int.ofNat 0)))],.var [.any,.any],.map true [.u8,.i64] 0 (fun _=>none),.map true i4j 0 (fun _=>none),.var [isl ns sz,isl no od,isl ns sz,isl no od,.msl 10 2 none 0 false,.d .nil,int 0,.map 3,.map 4],.var [.ptr 5 0],.map false [.i64] 0 (fun _=>none),.var [.map 7],.var [.fn 237 [] [.ptr 6 0,.ptr 0 0,.ptr 8 0,.ptr 9 0]],.arr 2 0 (fun _=>[])]) (h2:=[.var [isl ns sz,isl no od,isl ns sz,isl no od,vsl ne en,bsl nn var nk kd,int root],.var [.d .nil,.d .nil,.d .nil,.d .nil,.d (.int .i64 (.l (Int.ofNat 0)))],.var [.any,.any],.map true [.u8,.i64] 0 (fun _=>none),.map true i4j 0 (fun _=>none),.var [isl ns sz,isl no od,isl ns sz,isl no od,.msl 10 2 none 0 false,.msl 11 2 none 0 false,int 0,.map 3,.map 4],.var [.ptr 5 0],.map false [.i64] 0 (fun _=>none),.var [.map 7],.var [.fn 237 [] [.ptr 6 0,.ptr 0 0,.ptr 8 0,.ptr 9 0]],.arr 2 0 (fun _=>[])]) 2 (fun _=>[]) hfr sm2
  ⟨.inl rfl,.inl rfl,.inl rfl,.inl rfl,.inl rfl,.inr ⟨_,_,rfl,rfl,.inl rfl,.inl rfl,.inl rfl,.inl rfl,.inl rfl,.inr ⟨rfl,rfl⟩,.inl rfl,.inl rfl,.inl rfl,trivial⟩,.inl rfl,.inl rfl,.inl rfl,.inl rfl,.inl rfl,trivial⟩
 have h1:=a1h.nilH (h:=[.var [isl ns sz,isl no od,isl ns sz,isl no od,vsl ne en,bsl nn var nk kd,int root],.var [.d .nil,.d .nil,.d .nil,.d .nil,.d (.int .i64 (.l (Int.ofNat 0)))],.var [.any,.any],.map true [.u8,.i64] 0 (fun _=>none),.map true i4j 0 (fun _=>none),.var [isl ns sz,isl no od,isl ns sz,isl no od,.d .nil,.d .nil,int 0,.map 3,.map 4],.var [.ptr 5 0],.map false [.i64] 0 (fun _=>none),.var [.map 7],.var [.fn 237 [] [.ptr 6 0,.ptr 0 0,.ptr 8 0,.ptr 9 0]]]) (h2:=[.var [isl ns sz,isl no od,isl ns sz,isl no od,vsl ne en,bsl nn var nk kd,int root],.var [.d .nil,.d .nil,.d .nil,.d .nil,.d (.int .i64 (.l (Int.ofNat 0)))],.var [.any,.any],.map true [.u8,.i64] 0 (fun _=>none),.map true i4j 0 (fun _=>none),.var [isl ns sz,isl no od,isl ns sz,isl no od,.msl 10 2 none 0 false,.d .nil,int 0,.map 3,.map 4],.var [.ptr 5 0],.map false [.i64] 0 (fun _=>none),.var [.map 7],.var [.fn 237 [] [.ptr 6 0,.ptr 0 0,.ptr 8 0,.ptr 9 0]]]) 2 (fun _=>[]) h2 sm
  ⟨.inl rfl,.inl rfl,.inl rfl,.inl rfl,.inl rfl,.inr ⟨_,_,rfl,rfl,.inl rfl,.inl rfl,.inl rfl,.inl rfl,.inr ⟨rfl,rfl⟩,.inl rfl,.inl rfl,.inl rfl,.inl rfl,trivial⟩,.inl rfl,.inl rfl,.inl rfl,.inl rfl,trivial⟩
 refine h3v hS h1.pgs ?_
 rintro pg v H' ⟨pg1,⟨pg0,v0,h0,⟨rfl,q1,q2,f1,f2,e1,e2,c,fk,w1,rfl,rfl⟩,rfl,rfl,rfl⟩,hpg⟩
 have hpg0:pg=[]:=hpg
 subst hpg0
 clear hpg
 cbv
 clear hrec h1 h2 hfr hmk
 refine a1g hS (by subst hS;simp[std]) (a1g hS (by subst hS;simp[std]) (a1g hS (by subst hS;simp[std]) ?_))
 subst hres
 exact a3x.agg (.cons (a0x.refl _) (.cons (a0x.refl _) (.cons (i3b w1) (.cons (i2e w1) (.cons (a0x.refl _) .nil)))))
theorem h7a {α:Type}{n m:Nat}{g h:Nat->α}:L n g=L m h↔n=m/\ ∀i,i<n->g i=h i:=by
 constructor
 ·intro e
  have el:n=m:=by simpa [h3u] using congrArg List.length e
  subst el
  refine⟨rfl,fun j hj=> ?_⟩
  have:=congrArg (fun l=>l[j]?) e
  simpa [L,hj] using this
 ·rintro⟨rfl,hh⟩;exact h4v hh
theorem i3e {n m:Nat}(hn:n<=1000000)(f g:Nat->VaR)(r:Bool)(hr:r=true↔L n f=L m g):a0j Tryz.prog true 234 [vsl n f,vsl m g] (bool r):=by
 rw[h7a] at hr
 obtain⟨ef,en,hf⟩: ∃ef en,f=fun i=>VaR.mk (ef i) (en i):=⟨fun i=>(f i).fault,fun i=>(f i).n,rfl⟩
 obtain⟨eg,eh,hg⟩: ∃ef en,g=fun i=>VaR.mk (ef i) (en i):=⟨fun i=>(g i).fault,fun i=>(g i).n,rfl⟩
 subst hf hg
 simp only[VaR.eq_iff] at hr
 refine a1e (a0k Tryz.mixed okP f0q _ rfl fun E Sg hb hS=> ?_)
 have ett: ∀z,Sg.toNat z=z.toNat:=by subst hS;exact fun _=>rfl
 cbv
 split
 ·have hne:n≠m:=by clear hr;subst hS;simp[std] at*;omega
  cbv
  exact e8z hr fun h=>hne h.1
 have hnm:n=m:=by clear hr;subst hS;simp[std] at*;omega
 subst hnm
 cbv
 refine a7r Tryz.mixed okP hS (fun i=>i<=n/\ ∀j,j<i->ef j=eg j/\en j=eh j) (fun i=>n-i)
  (fun i=>⟨b5r [(0,vsl n (fun i=>⟨ef i,en i⟩)),(1,vsl n (fun i=>⟨eg i,eh i⟩)),(12,int n),(13,int i)] 26,[],[]⟩) 0 ⟨by omega,by omega⟩ ?_ ?_
 ·exact a4c rfl ⟨a0x.refl _,a0x.refl _,b0a (by subst hS;rfl),a6c rfl,trivial⟩ (.nil _) (by omega) (.inr rfl) rfl
 ·intro i hi N hN
  cbv
  split
  ·have hlt:i<n:=by clear hr hN;subst hS;simp[std] at*;omega
   cbv
   refine a1g hS (by subst hS;simp[std];omega) ?_
   refine a1g hS (by subst hS;simp[std];omega) ?_
   simp only[nat,ett,Int.ofNat_eq_natCast,Int.toNat_natCast]
   split
   ·have hx: ¬(ef i=eg i/\en i=eh i):=by clear hr hN;subst hS;simp[std] at*;intro h;omega
    cbv
    exact e8z hr fun hh=>hx (hh.2 i hlt)
   ·have hx:ef i=eg i/\en i=eh i:=by clear hr hN;subst hS;simp[std] at*;assumption
    cbv
    refine a1g hS (by subst hS;exact b6g (by simp[std];omega) (by simp[std];omega)) ?_
    refine hN (i+1) _ ⟨by omega,fun j hj=> ?_⟩ (by omega) (a4c rfl ⟨a0x.refl _,a0x.refl _,a0x.refl _,b0a (by subst hS;simp[std]),trivial⟩ (.nil _) (by omega) (.inr rfl) rfl)
    by_cases e:j=i
    ·subst e;exact hx
    ·exact hi.2 j (by omega)
  ·have hall: ∀j,j<n->ef j=eg j/\en j=eh j:=by
    have:n<=i:=by clear hr hN;subst hS;simp[std] at*;omega
    exact fun j hj=>hi.2 j (by omega)
   cbv
   exact h8e hr ⟨rfl,hall⟩
theorem i4q (v w:Int){n m:Nat}(hn:n<=1000000)(g h:Nat->Int)(r:Bool)(hr:r=true↔v=w/\L n g=L m h):a0j Tryz.prog true 233 [.agg [int v,isl n g],.agg [int w,isl m h]] (bool r):=by
 obtain⟨z,hz⟩: ∃z:Bool,z=true↔L n g=L m h:=by classical exact⟨decide _,decide_eq_true_iff⟩
 have h1:=h4z hn g h z hz
 rw[<-hz] at hr
 refine a1e (a0k Tryz.mixed okP f0e _ rfl fun E Sg hb hS=> ?_)
 cbv
 split
 ·have hv:v=w:=by clear hr h1;subst hS;simp[std] at*;assumption
  cbv
  refine a0v hS (bool z) (by subst hS;exact h1) ?_
  cbv
  refine a0s ?_
  cases r
  ·cases z
   ·rfl
   ·exact absurd (hr.2 ⟨hv,rfl⟩) (by simp)
  ·exact (hr.1 rfl).2
 ·have hv:v≠w:=by clear hr h1;subst hS;simp[std] at*;assumption
  cbv
  exact e8z hr fun h=>hv h.1
theorem i2z {n m:Nat}(hn:n<=1000000)(va vb:Nat->Int)(na nb:Nat->Nat)(ka kb:Nat->Nat->Int)(hk: ∀i,i<n->na i<=1000000)(r:Bool)
 (hr:r=true↔n=m/\ ∀i,i<n->va i=vb i/\L (na i) (ka i)=L (nb i) (kb i)):a1h Tryz.prog 235 [bsl n va na ka,bsl m vb nb kb,.fn 233 [] []] [] (ro [] (bool r)):=by
 obtain⟨z,hz⟩: ∃z:Nat->Bool,∀i,z i=true↔va i=vb i/\L (na i) (ka i)=L (nb i) (kb i):=by classical exact⟨fun i=>decide (va i=vb i/\L (na i) (ka i)=L (nb i) (kb i)),fun i=>decide_eq_true_iff⟩
 have h1:=fun i hi=>i4q (va i) (vb i) (m:=nb i) (hk i hi) (ka i) (kb i) (z i) (hz i)
 simp only[<-hz] at hr
 clear hz hk
 refine a2y Tryz.mixed okP e9a _ rfl fun E Sg hb hS=> ?_
 simp only[List.length_nil] at hb
 have ett: ∀z,Sg.toNat z=z.toNat:=by subst hS;exact fun _=>rfl
 cbv
 split
 ·have hne:n≠m:=by clear hr h1;subst hS;simp[std] at*;omega
  cbv
  exact a2s (e8z hr fun h=>hne h.1) (.nil _) (.inr rfl)
 have hnm:n=m:=by clear hr h1;subst hS;simp[std] at*;omega
 subst hnm
 cbv
 refine a7r Tryz.mixed okP hS (fun i=>i<=n/\ ∀j,j<i->z j=true) (fun i=>n-i)
  (fun i=>⟨b5r [(0,bsl n va na ka),(1,bsl n vb nb kb),(2,.fn 233 [] []),(15,bsl n va na ka),(16,int n),(17,int i)] 32,[],[]⟩) 0 ⟨by omega,by omega⟩ ?_ ?_
 ·exact a4c rfl ⟨a0x.refl _,a0x.refl _,a0x.refl _,a0x.refl _,b0a (by subst hS;rfl),a6c rfl,trivial⟩ (.nil _) (by simp;omega) (.inr rfl) rfl
 ·intro i hi N hN
  cbv
  split
  ·have hlt:i<n:=by clear hr hN h1;subst hS;simp[std] at*;omega
   have hin:=h1 i hlt
   generalize hzi:z i=zi at hin
   cbv
   refine a1g hS (by clear h1 hin;subst hS;simp[std];omega) ?_
   refine a1g hS (by clear h1 hin;subst hS;simp[std];omega) ?_
   simp only[nat,ett,Int.ofNat_eq_natCast,Int.toNat_natCast]
   refine a3v hS (a1h.of_pure rfl hin) ?_
   cases zi
   ·cbv
    exact a2s (e8z hr fun hh=>by rw[hh.2 i hlt] at hzi;cases hzi) (.nil _) (.inl ⟨rfl,rfl⟩)
   ·cbv
    refine a1g hS (by clear h1 hin;subst hS;exact b6g (by simp[std];omega) (by simp[std];omega)) ?_
    refine hN (i+1) _ ⟨by omega,fun j hj=> ?_⟩ (by omega) (a4c rfl ⟨a0x.refl _,a0x.refl _,a0x.refl _,a0x.refl _,a0x.refl _,b0a (by clear h1 hin;subst hS;simp[std]),trivial⟩ (.nil _) (by simp;omega) (.inl ⟨rfl,rfl⟩) rfl)
    by_cases e:j=i
    ·subst e;exact hzi
    ·exact hi.2 j (by omega)
  ·have hall: ∀j,j<n->z j=true:=by
    have:n<=i:=by clear hr hN h1;subst hS;simp[std] at*;omega
    exact fun j hj=>hi.2 j (by omega)
   cbv
   exact a2s (h8e hr ⟨rfl,hall⟩) (.nil _) (.inr rfl)
def h7l (a b:DiR):Prop:=L a.ns a.sz=L b.ns b.sz/\L a.no a.od=L b.no b.od/\a.E=b.E/\a.N=b.N/\a.root=b.root
theorem h9n {a b:DiR}:a.N=b.N↔a.nn=b.nn/\ ∀i,i<a.nn->a.var i=b.var i/\L (a.nk i) (a.kid i)=L (b.nk i) (b.kid i):=by
 rw[DiR.N,DiR.N,h7a]
 constructor
 ·rintro⟨h1,h2⟩
  refine⟨h1,fun i hi=> ?_⟩
  have:=h2 i hi
  simp only[DiR.nd] at this
  injection this with a b
  exact⟨a,b⟩
 ·rintro⟨h1,h2⟩
  exact⟨h1,fun i hi=>by simp only[DiR.nd];rw[(h2 i hi).1,(h2 i hi).2]⟩
theorem i2u (a b:DiR)(ha:a.ns<=1000000/\a.no<=1000000/\a.ne<=1000000/\a.nn<=1000000)(hk: ∀i,i<a.nn->a.nk i<=1000000)(r:Bool)(hr:r=true↔h7l a b):a0j Tryz.prog true 197 [a.av,b.av] (bool r):=by
 obtain⟨z1,hz1⟩: ∃z:Bool,z=true↔L a.ns a.sz=L b.ns b.sz:=by classical exact⟨decide _,decide_eq_true_iff⟩
 obtain⟨z2,hz2⟩: ∃z:Bool,z=true↔L a.no a.od=L b.no b.od:=by classical exact⟨decide _,decide_eq_true_iff⟩
 obtain⟨z3,hz3⟩: ∃z:Bool,z=true↔a.E=b.E:=by classical exact⟨decide _,decide_eq_true_iff⟩
 obtain⟨z4,hz4⟩: ∃z:Bool,z=true↔a.N=b.N:=by classical exact⟨decide _,decide_eq_true_iff⟩
 have h1:=h4z ha.1 a.sz b.sz z1 hz1
 have h2:=h4z ha.2.1 a.od b.od z2 hz2
 have h3:=i3e ha.2.2.1 a.en b.en z3 hz3
 rw[h9n] at hz4
 have h4:=i2z (m:=b.nn) ha.2.2.2 a.var b.var a.nk b.nk a.kid b.kid hk z4 hz4
 rw[<-h9n] at hz4
 simp only[h7l,<-hz1,<-hz2,<-hz3,<-hz4] at hr
 clear hz1 hz2 hz3 hz4 ha hk
 obtain⟨ns,sz,no,od,ne,en,nn,var,nk,kid,root⟩:=a
 obtain⟨ns',sz',no',od',ne',en',nn',var',nk',kid',root'⟩:=b
 simp only at hr
 refine a1e (a0k Tryz.mixed okP f2i _ rfl fun E Sg hb hS=> ?_)
 cbv
 refine a0v hS (bool z1) (by subst hS;exact h1) ?_
 cases z1
 ·cbv
  exact e8z hr fun h=>Bool.noConfusion h.1
 cbv
 refine a0v hS (bool z2) (by subst hS;exact h2) ?_
 cases z2
 ·cbv
  exact e8z hr fun h=>Bool.noConfusion h.2.1
 cbv
 refine a0v hS (bool z3) (by subst hS;exact h3) ?_
 cases z3
 ·cbv
  exact e8z hr fun h=>Bool.noConfusion h.2.2.1
 cbv
 refine h3v hS (a1h.frame h4 [] rfl rfl trivial) ?_
 rintro pg v H' ⟨pg0,v0,h0,⟨rfl,rfl,rfl⟩,rfl,rfl,rfl⟩
 cases z4
 ·cbv
  exact e8z hr fun h=>Bool.noConfusion h.2.2.2.1
 cbv
 refine a0s ?_
 clear h1 h2 h3 h4
 subst hS
 simp only[std]
 cases r
 ·exact decide_eq_false fun h=>Bool.noConfusion (hr.2 ⟨rfl,rfl,rfl,rfl,h⟩)
 ·exact decide_eq_true (hr.1 rfl).2.2.2.2
end Go.Proofs.Tryz.Run
