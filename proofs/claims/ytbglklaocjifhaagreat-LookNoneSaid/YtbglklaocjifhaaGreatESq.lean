/- The program's clean. The program's equal of diagrams. The program's open of a diagram: the error is the reference's. Conditions: none. -/
import Derived.Test.YtbglklaocjifhaaGreatESn
open Go.Vf.a0x renaming refl->AA
open Go.Proofs.YtbglklaocjifhaaGreat.Tryz renaming mixed->AB
open List renaming getElem?_eq_getElem->AC,getD->AL
open Bool renaming noConfusion->AD,true->AF,false->AI
open Go.Vf.a9v renaming refl->AE
open Option renaming none->AG
open Go.Proofs.Tryz renaming prog->AH
open Int renaming ofNat->AJ,ofNat_eq_natCast->AM,toNat_natCast->AN,lt_or_le->AO
open Go.Vf renaming std->AK
set_option linter.unusedSimpArgs false
set_option linter.unusedVariables false
set_option maxHeartbeats 0
namespace Go.Proofs.Tryz.Run
open Go Go.Vf Go.Proofs
open Go.Proofs.YtbglklaocjifhaaGreat
def i3w (d:DiR)(b:NdR):Prop:=(b.kids.length:Int)=d.sz b.var.toNat/\b.kids.length<=12
theorem i5j (d:DiR):i5a (i3w d):=⟨fun b h=>h.2,fun b c hb hc e=>by
 have h1:=hb.1;have h2:=hc.1;rw[e,<-h2] at h1;exact Int.ofNat.inj h1⟩
theorem h3x.tame {d:DiR}(h:h3x d)(hf:h4e d.ns d.no d.sz d.od=0)(hfit:d.fit)(h0: ∀i,i<d.ne->0<=(d.en i).fault):d.tame (i3w d):=by
 have hk:=h.kpos hf;refine⟨hfit,fun i hi=> ?_,h.kids,fun i hi=> ?_,hk,fun i hi l hl=> ?_,i5j d⟩
 ·have h1:=h.1 i hi;have h2:=h0 i hi;unfold a1i at h1;split at h1<;>omega
 ·have h1:=(h.2.1 i hi).1.1;have:=hfit.ns;omega
 ·have h1:=(h.2.1 i hi).1.2;have h2:=hk i hi;exact⟨by simp only[hl];exact h1,by simp only[hl];exact h2.2⟩
def i2k (d:DiR)(s:Law.Mk)(t:Int):DiR:=
 ⟨d.ns,d.sz,d.no,d.od,s.oe.length,fun i=>s.oe.getD i ⟨0,0⟩,s.on.length,fun i=>(s.on.getD i ⟨0,[]⟩).var,fun i=>(s.on.getD i ⟨0,[]⟩).kids.length,fun i j=>(s.on.getD i ⟨0,[]⟩).kids.getD j 0,t⟩
def s0:Law.Mk:=⟨[],[],fun _=>AG⟩
def h3y (d:DiR):Law.Mk×Int:=Law.frm d.E d.N (d.nn+1) d.root s0
theorem i3b {shp:NdR->Prop}{s:Law.Mk}{q1 q2:Nat}{f1 f2:List KC->Option Int}{e1 e2:Nat->List DV}{fk:List KC->Option Int}(h:Rep shp s q1 q2 f1 f2 e1 e2 fk):a0x (.d (.sl 2 q1 e1)) (vsl s.oe.length fun i=>s.oe.getD i ⟨0,0⟩):=
 a0x.sl' h.q1 fun i hi=>by
  have hi':i<s.oe.length:=by rw[<-h.q1];exact hi
  have h1:s.oe[i]? =some s.oe[i]:=AC hi';rw[h.e1 i _ h1];simp[AL,h1]
theorem i2e {shp:NdR->Prop}{s:Law.Mk}{q1 q2:Nat}{f1 f2:List KC->Option Int}{e1 e2:Nat->List DV}{fk:List KC->Option Int}(h:Rep shp s q1 q2 f1 f2 e1 e2 fk):
 a0x (.d (.sl 2 q2 e2)) (bsl s.on.length (fun i=>(s.on.getD i ⟨0,[]⟩).var) (fun i=>(s.on.getD i ⟨0,[]⟩).kids.length) fun i j=>(s.on.getD i ⟨0,[]⟩).kids.getD j 0):=
 a0x.slr h.q2 fun i hi=>by
  have hi':i<s.on.length:=by rw[<-h.q2];exact hi
  have h1:s.on[i]? =some s.on[i]:=AC hi';have h2:s.on.getD i ⟨0,[]⟩=s.on[i]:=by simp[AL,h1]
  obtain⟨n,u,h3,h4⟩:=h.e2 i _ h1;rw[h4];simp only[h2];refine .cons (.int rfl) (.one (.sl (by rw[h3,h3u]) fun j hj=> ?_));refine .one (.int ?_);rw[h3];simp[L,hj,IX.val]
theorem i3c (d:DiR)(hd:d.tame (i3w d))(hr:h4k d.ne d.root d.nn):a0j AH AI 198 [d.lav] (i2k d (h3y d).1 (h3y d).2).av:=by
 have hrec:=i2v d (i3w d) hd (d.nn+1) d.root s0 0 0 (fun _=>AG) (fun _=>AG) (fun _=>[]) (fun _=>[]) 0 (fun _=>AG) (by
  rcases AO d.root 0 with h|h
  ·omega
  ·have:=hr.1 h;omega) hr ⟨by simp[s0],by simp[s0],by simp[s0],by simp[s0],by simp[s0]⟩ ⟨rfl,rfl,by simp[s0],by simp[s0],by simp[s0],by simp[s0],by simp[s0]⟩
 have hmk:=h8o hd.fit.ns hd.fit.no d.sz d.od;obtain⟨res,hres⟩: ∃res,res=(i2k d (h3y d).1 (h3y d).2).av:=⟨_,rfl⟩;rw[<-hres];change a1h _ _ _ _ (clK d (i3w d) (h3y d).1 (h3y d).2) at hrec;generalize (h3y d).1=s at hrec hres;generalize (h3y d).2=t at hrec hres;generalize i3w d=shp at hrec;clear hd hr;obtain⟨ns,sz,no,od,ne,en,nn,var,nk,kd,root⟩:=d;refine a0k AB okP e7r _ rfl fun E Sg hb hS=> ?_;cbv;refine h3v hS (a1h.frame hmk [] rfl rfl trivial) ?_;rintro pg v H' ⟨pg0,v0,h0,⟨rfl,rfl,rfl⟩,rfl,rfl,rfl⟩;cbv;have hfr:=a1h.frame (args':=[int root,.ptr 6 0,.ptr 0 0,.ptr 8 0,.ptr 9 0]) hrec (H:=[.var [isl ns sz,isl no od,isl ns sz,isl no od,vsl ne en,bsl nn var nk kd,int root],.var [.d .nil,.d .nil,.d .nil,.d .nil,.d (.int .i64 (.l (AJ 0)))],.var [.any,.any],.map AF [.u8,.i64] 0 (fun _=>AG),.map AF i4j 0 (fun _=>AG),.var [isl ns sz,isl no od,isl ns sz,isl no od,.msl 10 2 AG 0 AI,.msl 11 2 AG 0 AI,int 0,.map 3,.map 4],.var [.ptr 5 0],.map AI [.i64] 0 (fun _=>AG),.var [.map 7],.var [.fn 237 [] [.ptr 6 0,.ptr 0 0,.ptr 8 0,.ptr 9 0]],.arr 2 0 (fun _=>[]),.arr 2 0 (fun _=>[])]) [5,3,4,10,11,6,0,7,8,9] rfl rfl
  ⟨AE _,AE _,AE _,AE _,AE _,AE _,AE _,AE _,AE _,AE _,trivial⟩
 have sm:d6k 10 2 [int root,.ptr 6 0,.ptr 0 0,.ptr 8 0,.ptr 9 0] [int root,.ptr 6 0,.ptr 0 0,.ptr 8 0,.ptr 9 0]:=⟨.inl rfl,.inl rfl,.inl rfl,.inl rfl,.inl rfl,trivial⟩;have sm2:d6k 11 2 [int root,.ptr 6 0,.ptr 0 0,.ptr 8 0,.ptr 9 0] [int root,.ptr 6 0,.ptr 0 0,.ptr 8 0,.ptr 9 0]:=⟨.inl rfl,.inl rfl,.inl rfl,.inl rfl,.inl rfl,trivial⟩;have h2:=a1h.nilH (h:=[.var [isl ns sz,isl no od,isl ns sz,isl no od,vsl ne en,bsl nn var nk kd,int root],.var [.d .nil,.d .nil,.d .nil,.d .nil,.d (.int .i64 (.l (AJ 0)))],.var [.any,.any],.map AF [.u8,.i64] 0 (fun _=>AG),.map AF i4j 0 (fun _=>AG),.var [isl ns sz,isl no od,isl ns sz,isl no od,.msl 10 2 AG 0 AI,.d .nil,int 0,.map 3,.map 4],.var [.ptr 5 0],.map AI [.i64] 0 (fun _=>AG),.var [.map 7],.var [.fn 237 [] [.ptr 6 0,.ptr 0 0,.ptr 8 0,.ptr 9 0]],.arr 2 0 (fun _=>[])]) (h2:=[.var [isl ns sz,isl no od,isl ns sz,isl no od,vsl ne en,bsl nn var nk kd,int root],.var [.d .nil,.d .nil,.d .nil,.d .nil,.d (.int .i64 (.l (AJ 0)))],.var [.any,.any],.map AF [.u8,.i64] 0 (fun _=>AG),.map AF i4j 0 (fun _=>AG),.var [isl ns sz,isl no od,isl ns sz,isl no od,.msl 10 2 AG 0 AI,.msl 11 2 AG 0 AI,int 0,.map 3,.map 4],.var [.ptr 5 0],.map AI [.i64] 0 (fun _=>AG),.var [.map 7],.var [.fn 237 [] [.ptr 6 0,.ptr 0 0,.ptr 8 0,.ptr 9 0]],.arr 2 0 (fun _=>[])]) 2 (fun _=>[]) hfr sm2
  ⟨.inl rfl,.inl rfl,.inl rfl,.inl rfl,.inl rfl,.inr ⟨_,_,rfl,rfl,.inl rfl,.inl rfl,.inl rfl,.inl rfl,.inl rfl,.inr ⟨rfl,rfl⟩,.inl rfl,.inl rfl,.inl rfl,trivial⟩,.inl rfl,.inl rfl,.inl rfl,.inl rfl,.inl rfl,trivial⟩
 have h1:=a1h.nilH (h:=[.var [isl ns sz,isl no od,isl ns sz,isl no od,vsl ne en,bsl nn var nk kd,int root],.var [.d .nil,.d .nil,.d .nil,.d .nil,.d (.int .i64 (.l (AJ 0)))],.var [.any,.any],.map AF [.u8,.i64] 0 (fun _=>AG),.map AF i4j 0 (fun _=>AG),.var [isl ns sz,isl no od,isl ns sz,isl no od,.d .nil,.d .nil,int 0,.map 3,.map 4],.var [.ptr 5 0],.map AI [.i64] 0 (fun _=>AG),.var [.map 7],.var [.fn 237 [] [.ptr 6 0,.ptr 0 0,.ptr 8 0,.ptr 9 0]]]) (h2:=[.var [isl ns sz,isl no od,isl ns sz,isl no od,vsl ne en,bsl nn var nk kd,int root],.var [.d .nil,.d .nil,.d .nil,.d .nil,.d (.int .i64 (.l (AJ 0)))],.var [.any,.any],.map AF [.u8,.i64] 0 (fun _=>AG),.map AF i4j 0 (fun _=>AG),.var [isl ns sz,isl no od,isl ns sz,isl no od,.msl 10 2 AG 0 AI,.d .nil,int 0,.map 3,.map 4],.var [.ptr 5 0],.map AI [.i64] 0 (fun _=>AG),.var [.map 7],.var [.fn 237 [] [.ptr 6 0,.ptr 0 0,.ptr 8 0,.ptr 9 0]]]) 2 (fun _=>[]) h2 sm
  ⟨.inl rfl,.inl rfl,.inl rfl,.inl rfl,.inl rfl,.inr ⟨_,_,rfl,rfl,.inl rfl,.inl rfl,.inl rfl,.inl rfl,.inr ⟨rfl,rfl⟩,.inl rfl,.inl rfl,.inl rfl,.inl rfl,trivial⟩,.inl rfl,.inl rfl,.inl rfl,.inl rfl,trivial⟩
 refine h3v hS h1.pgs ?_;rintro pg v H' ⟨pg1,⟨pg0,v0,h0,⟨rfl,q1,q2,f1,f2,e1,e2,c,fk,w1,rfl,rfl⟩,rfl,rfl,rfl⟩,hpg⟩;have hpg0:pg=[]:=hpg;subst hpg0;clear hpg;cbv;clear hrec h1 h2 hfr hmk;refine a1g hS (by subst hS;simp[AK]) (a1g hS (by subst hS;simp[AK]) (a1g hS (by subst hS;simp[AK]) ?_));subst hres;exact a3x.agg (.cons (AA _) (.cons (AA _) (.cons (i3b w1) (.cons (i2e w1) (.cons (AA _) .nil)))))
theorem h7a {α:Type}{n m:Nat}{g h:Nat->α}:L n g=L m h↔n=m/\ ∀i,i<n->g i=h i:=by
 constructor
 ·intro e;have el:n=m:=by simpa [h3u] using congrArg List.length e
  subst el;refine⟨rfl,fun j hj=> ?_⟩;have:=congrArg (fun l=>l[j]?) e;simpa [L,hj] using this
 ·rintro⟨rfl,hh⟩;exact h4v hh
theorem i3e {n m:Nat}(hn:n<=1000000)(f g:Nat->VaR)(r:Bool)(hr:r=AF↔L n f=L m g):a0j AH AF 234 [vsl n f,vsl m g] (bool r):=by
 rw[h7a] at hr;obtain⟨ef,en,hf⟩: ∃ef en,f=fun i=>VaR.mk (ef i) (en i):=⟨fun i=>(f i).fault,fun i=>(f i).n,rfl⟩;obtain⟨eg,eh,hg⟩: ∃ef en,g=fun i=>VaR.mk (ef i) (en i):=⟨fun i=>(g i).fault,fun i=>(g i).n,rfl⟩;subst hf hg;simp only[VaR.eq_iff] at hr;refine a1e (a0k AB okP f0q _ rfl fun E Sg hb hS=> ?_);have ett: ∀z,Sg.toNat z=z.toNat:=by subst hS;exact fun _=>rfl
 cbv;split
 ·have hne:n≠m:=by clear hr;subst hS;simp[AK] at*;omega
  cbv;exact e8z hr fun h=>hne h.1
 have hnm:n=m:=by clear hr;subst hS;simp[AK] at*;omega
 subst hnm;cbv;refine a7r AB okP hS (fun i=>i<=n/\ ∀j,j<i->ef j=eg j/\en j=eh j) (fun i=>n-i)
  (fun i=>⟨b5r [(0,vsl n (fun i=>⟨ef i,en i⟩)),(1,vsl n (fun i=>⟨eg i,eh i⟩)),(12,int n),(13,int i)] 26,[],[]⟩) 0 ⟨by omega,by omega⟩ ?_ ?_
 ·exact a4c rfl ⟨AA _,AA _,b0a (by subst hS;rfl),a6c rfl,trivial⟩ (.nil _) (by omega) (.inr rfl) rfl
 ·intro i hi N hN;cbv;split
  ·have hlt:i<n:=by clear hr hN;subst hS;simp[AK] at*;omega
   cbv;refine a1g hS (by subst hS;simp[AK];omega) ?_;refine a1g hS (by subst hS;simp[AK];omega) ?_;simp only[nat,ett,AM,AN];split
   ·have hx: ¬(ef i=eg i/\en i=eh i):=by clear hr hN;subst hS;simp[AK] at*;intro h;omega
    cbv;exact e8z hr fun hh=>hx (hh.2 i hlt)
   ·have hx:ef i=eg i/\en i=eh i:=by clear hr hN;subst hS;simp[AK] at*;assumption
    cbv;refine a1g hS (by subst hS;exact b6g (by simp[AK];omega) (by simp[AK];omega)) ?_;refine hN (i+1) _ ⟨by omega,fun j hj=> ?_⟩ (by omega) (a4c rfl ⟨AA _,AA _,AA _,b0a (by subst hS;simp[AK]),trivial⟩ (.nil _) (by omega) (.inr rfl) rfl);by_cases e:j=i
    ·subst e;exact hx
    ·exact hi.2 j (by omega)
  ·have hall: ∀j,j<n->ef j=eg j/\en j=eh j:=by
    have:n<=i:=by clear hr hN;subst hS;simp[AK] at*;omega
    exact fun j hj=>hi.2 j (by omega)
   cbv;exact h8e hr ⟨rfl,hall⟩
theorem i4q (v w:Int){n m:Nat}(hn:n<=1000000)(g h:Nat->Int)(r:Bool)(hr:r=AF↔v=w/\L n g=L m h):a0j AH AF 233 [.agg [int v,isl n g],.agg [int w,isl m h]] (bool r):=by
 obtain⟨z,hz⟩: ∃z:Bool,z=AF↔L n g=L m h:=by classical exact⟨decide _,decide_eq_true_iff⟩
 have h1:=h4z hn g h z hz;rw[<-hz] at hr;refine a1e (a0k AB okP f0e _ rfl fun E Sg hb hS=> ?_);cbv;split
 ·have hv:v=w:=by clear hr h1;subst hS;simp[AK] at*;assumption
  cbv;refine a0v hS (bool z) (by subst hS;exact h1) ?_;cbv;refine a0s ?_;cases r
  ·cases z
   ·rfl
   ·exact absurd (hr.2 ⟨hv,rfl⟩) (by simp)
  ·exact (hr.1 rfl).2
 ·have hv:v≠w:=by clear hr h1;subst hS;simp[AK] at*;assumption
  cbv;exact e8z hr fun h=>hv h.1
theorem i2z {n m:Nat}(hn:n<=1000000)(va vb:Nat->Int)(na nb:Nat->Nat)(ka kb:Nat->Nat->Int)(hk: ∀i,i<n->na i<=1000000)(r:Bool)
 (hr:r=AF↔n=m/\ ∀i,i<n->va i=vb i/\L (na i) (ka i)=L (nb i) (kb i)):a1h AH 235 [bsl n va na ka,bsl m vb nb kb,.fn 233 [] []] [] (ro [] (bool r)):=by
 obtain⟨z,hz⟩: ∃z:Nat->Bool,∀i,z i=AF↔va i=vb i/\L (na i) (ka i)=L (nb i) (kb i):=by classical exact⟨fun i=>decide (va i=vb i/\L (na i) (ka i)=L (nb i) (kb i)),fun i=>decide_eq_true_iff⟩
 have h1:=fun i hi=>i4q (va i) (vb i) (m:=nb i) (hk i hi) (ka i) (kb i) (z i) (hz i);simp only[<-hz] at hr;clear hz hk;refine a2y AB okP e9a _ rfl fun E Sg hb hS=> ?_;simp only[List.length_nil] at hb;have ett: ∀z,Sg.toNat z=z.toNat:=by subst hS;exact fun _=>rfl
 cbv;split
 ·have hne:n≠m:=by clear hr h1;subst hS;simp[AK] at*;omega
  cbv;exact a2s (e8z hr fun h=>hne h.1) (.nil _) (.inr rfl)
 have hnm:n=m:=by clear hr h1;subst hS;simp[AK] at*;omega
 subst hnm;cbv;refine a7r AB okP hS (fun i=>i<=n/\ ∀j,j<i->z j=AF) (fun i=>n-i)
  (fun i=>⟨b5r [(0,bsl n va na ka),(1,bsl n vb nb kb),(2,.fn 233 [] []),(15,bsl n va na ka),(16,int n),(17,int i)] 32,[],[]⟩) 0 ⟨by omega,by omega⟩ ?_ ?_
 ·exact a4c rfl ⟨AA _,AA _,AA _,AA _,b0a (by subst hS;rfl),a6c rfl,trivial⟩ (.nil _) (by simp;omega) (.inr rfl) rfl
 ·intro i hi N hN;cbv;split
  ·have hlt:i<n:=by clear hr hN h1;subst hS;simp[AK] at*;omega
   have hin:=h1 i hlt;generalize hzi:z i=zi at hin;cbv;refine a1g hS (by clear h1 hin;subst hS;simp[AK];omega) ?_;refine a1g hS (by clear h1 hin;subst hS;simp[AK];omega) ?_;simp only[nat,ett,AM,AN];refine a3v hS (a1h.of_pure rfl hin) ?_;cases zi
   ·cbv;exact a2s (e8z hr fun hh=>by rw[hh.2 i hlt] at hzi;cases hzi) (.nil _) (.inl ⟨rfl,rfl⟩)
   ·cbv;refine a1g hS (by clear h1 hin;subst hS;exact b6g (by simp[AK];omega) (by simp[AK];omega)) ?_;refine hN (i+1) _ ⟨by omega,fun j hj=> ?_⟩ (by omega) (a4c rfl ⟨AA _,AA _,AA _,AA _,AA _,b0a (by clear h1 hin;subst hS;simp[AK]),trivial⟩ (.nil _) (by simp;omega) (.inl ⟨rfl,rfl⟩) rfl);by_cases e:j=i
    ·subst e;exact hzi
    ·exact hi.2 j (by omega)
  ·have hall: ∀j,j<n->z j=AF:=by
    have:n<=i:=by clear hr hN h1;subst hS;simp[AK] at*;omega
    exact fun j hj=>hi.2 j (by omega)
   cbv;exact a2s (h8e hr ⟨rfl,hall⟩) (.nil _) (.inr rfl)
def h7l (a b:DiR):Prop:=L a.ns a.sz=L b.ns b.sz/\L a.no a.od=L b.no b.od/\a.E=b.E/\a.N=b.N/\a.root=b.root
theorem h9n {a b:DiR}:a.N=b.N↔a.nn=b.nn/\ ∀i,i<a.nn->a.var i=b.var i/\L (a.nk i) (a.kid i)=L (b.nk i) (b.kid i):=by
 rw[DiR.N,DiR.N,h7a];constructor
 ·rintro⟨h1,h2⟩;refine⟨h1,fun i hi=> ?_⟩;have:=h2 i hi;simp only[DiR.nd] at this;injection this with a b
  exact⟨a,b⟩
 ·rintro⟨h1,h2⟩;exact⟨h1,fun i hi=>by simp only[DiR.nd];rw[(h2 i hi).1,(h2 i hi).2]⟩
theorem i2u (a b:DiR)(ha:a.ns<=1000000/\a.no<=1000000/\a.ne<=1000000/\a.nn<=1000000)(hk: ∀i,i<a.nn->a.nk i<=1000000)(r:Bool)(hr:r=AF↔h7l a b):a0j AH AF 197 [a.av,b.av] (bool r):=by
 obtain⟨z1,hz1⟩: ∃z:Bool,z=AF↔L a.ns a.sz=L b.ns b.sz:=by classical exact⟨decide _,decide_eq_true_iff⟩
 obtain⟨z2,hz2⟩: ∃z:Bool,z=AF↔L a.no a.od=L b.no b.od:=by classical exact⟨decide _,decide_eq_true_iff⟩
 obtain⟨z3,hz3⟩: ∃z:Bool,z=AF↔a.E=b.E:=by classical exact⟨decide _,decide_eq_true_iff⟩
 obtain⟨z4,hz4⟩: ∃z:Bool,z=AF↔a.N=b.N:=by classical exact⟨decide _,decide_eq_true_iff⟩
 have h1:=h4z ha.1 a.sz b.sz z1 hz1;have h2:=h4z ha.2.1 a.od b.od z2 hz2;have h3:=i3e ha.2.2.1 a.en b.en z3 hz3;rw[h9n] at hz4;have h4:=i2z (m:=b.nn) ha.2.2.2 a.var b.var a.nk b.nk a.kid b.kid hk z4 hz4;rw[<-h9n] at hz4;simp only[h7l,<-hz1,<-hz2,<-hz3,<-hz4] at hr;clear hz1 hz2 hz3 hz4 ha hk;obtain⟨ns,sz,no,od,ne,en,nn,var,nk,kid,root⟩:=a;obtain⟨ns',sz',no',od',ne',en',nn',var',nk',kid',root'⟩:=b;simp only at hr;refine a1e (a0k AB okP f2i _ rfl fun E Sg hb hS=> ?_);cbv;refine a0v hS (bool z1) (by subst hS;exact h1) ?_;cases z1
 ·cbv;exact e8z hr fun h=>AD h.1
 cbv;refine a0v hS (bool z2) (by subst hS;exact h2) ?_;cases z2
 ·cbv;exact e8z hr fun h=>AD h.2.1
 cbv;refine a0v hS (bool z3) (by subst hS;exact h3) ?_;cases z3
 ·cbv;exact e8z hr fun h=>AD h.2.2.1
 cbv;refine h3v hS (a1h.frame h4 [] rfl rfl trivial) ?_;rintro pg v H' ⟨pg0,v0,h0,⟨rfl,rfl,rfl⟩,rfl,rfl,rfl⟩;cases z4
 ·cbv;exact e8z hr fun h=>AD h.2.2.2.1
 cbv;refine a0s ?_;clear h1 h2 h3 h4;subst hS;simp only[AK];cases r
 ·exact decide_eq_false fun h=>AD (hr.2 ⟨rfl,rfl,rfl,rfl,h⟩)
 ·exact decide_eq_true (hr.1 rfl).2.2.2.2
theorem i0t {α:Type}(l:List α)(x:α):(L l.length fun i=>l.getD i x)=l:=by unfold L;refine List.ext_getElem (by simp) fun i h1 h2=> ?_;simp[AL,AC h2]
theorem i6b (d:DiR)(s:Law.Mk)(t:Int):(i2k d s t).E=s.oe:=i0t _ _
theorem i5p (d:DiR)(s:Law.Mk)(t:Int):(i2k d s t).N=s.on:=by
 have:(i2k d s t).nd=fun i=>s.on.getD i ⟨0,[]⟩:=by funext i;simp only[DiR.nd,i2k];rw[i0t]
 rw[DiR.N,this];exact i0t _ _
theorem h9s {d:DiR}(h:h3x d)(hf:h4e d.ns d.no d.sz d.od=0):h7l (i2k d (h3y d).1 (h3y d).2) d↔h5e d:=by
 have hro:=h4g h.2.2;have hNl:d.N.length=d.nn:=h3u _ _;rw[<-i0k fun i hi=>(h.kpos hf i hi).1,<-Law.clean_iff h.kids.loose hro.ok'];unfold h7l Law.isClean;rw[i6b,i5p,hNl];constructor
 ·rintro⟨_,_,a,b,c⟩;exact⟨a,b,c⟩
 ·rintro⟨a,b,c⟩;exact⟨rfl,rfl,a,b,c⟩
theorem h8r {d:DiR}(hd:d.tame (i3w d))(hr:h4k d.ne d.root d.nn):(h3y d).1.oe.length<=d.ne/\(h3y d).1.on.length<=d.nn/\ ∀b,b∈(h3y d).1.on->b.kids.length<=12:=by
 have hg:=(Law.frm_good (E:=d.E) (N:=d.N) (nn:=d.nn) (h3u _ _) (shp:=i3w d) hd.kids.loose (fun j b hb=>by
  rw[DiR.N,h9t] at hb;split at hb
  ·rename_i hj;cases hb;refine⟨by simp only[DiR.nd,h3u];exact (hd.nk j hj).1,fun l hl=>hd.shape j hj l (by simpa only[DiR.nd,h3u] using hl)⟩
  ·cases hb) (d.nn+1) d.root s0 (by
   rcases AO d.root 0 with h|h
   ·omega
   ·have:=hr.1 h;omega) hr.ok ⟨by simp[s0],by simp[s0],by simp[s0],by simp[s0],by simp[s0]⟩).1
 have h1:=hg.oeLen;rw[show d.E.length=d.ne from h3u _ _] at h1;exact⟨h1,hg.onLen,fun b hb=>(hg.sh b hb).2⟩
theorem i1u (d:DiR)(hf:d.fit)(h0: ∀i,i<d.ne->0<=(d.en i).fault)(hno:d.no<=12)(r:Int)(hr:h5o d=r):
 ∃v,(v=d.lav\/h4e d.ns d.no d.sz d.od≠0/\v=i2o)/\a0j AH AI 160 [d.av] (.tuple [v,int r]):=by
 obtain⟨e,he⟩: ∃e,h3z d=e:=⟨_,rfl⟩;obtain⟨v,hv,ho⟩:=h7g d hf h0 hno e he;refine⟨v,hv,?_⟩;unfold h5o at hr;rw[he] at hr;by_cases hz:e=0
 ·subst hz;rw[if_neg (fun h=>h rfl)] at hr;obtain⟨a1,a2,a3⟩:=h4q he;have hv:v=d.lav:=hv.resolve_right fun h=>h.1 a1;subst hv;clear hv;have htame:=a3.tame a1 hf h0;have hcl:=i3c d htame (h4g a3.2.2);have hgd:=h8r htame (h4g a3.2.2);have hiff:=h9s a3 a1;obtain⟨z,hz⟩: ∃z:Bool,z=AF↔h7l (i2k d (h3y d).1 (h3y d).2) d:=by classical exact⟨decide _,decide_eq_true_iff⟩
  have hne:=hf.ne;have hnn:=hf.nn;have heq:=i2u (i2k d (h3y d).1 (h3y d).2) d ⟨hf.ns,hf.no,Nat.le_trans hgd.1 hne,Nat.le_trans hgd.2.1 hnn⟩ (fun i hi=>by
   have hi:i<(h3y d).1.on.length:=hi;have hm:(h3y d).1.on.getD i ⟨0,[]⟩∈(h3y d).1.on:=by simp[AL,AC hi]
   have:=hgd.2.2 _ hm;show ((h3y d).1.on.getD i ⟨0,[]⟩).kids.length<=1000000;omega) z hz
  rw[hiff] at hz;have r0:z=AF->0=r:=fun h=>by rw[<-hr,if_pos (hz.1 h)]
  have r4:z=AI->4=r:=fun h=>by rw[<-hr,if_neg (fun k=>by rw[hz.2 k] at h;cases h)]
  generalize i2k d (h3y d).1 (h3y d).2=o at hcl heq;clear hr hz hiff hgd htame a1 a2 a3 he hf h0 hne hnn;obtain⟨ns,sz,no,od,ne,en,nn,var,nk,kid,root⟩:=d;obtain⟨ns',sz',no',od',ne',en',nn',var',nk',kid',root'⟩:=o;obtain⟨res,hres⟩: ∃res,res=DiR.lav ⟨ns,sz,no,od,ne,en,nn,var,nk,kid,root⟩:=⟨_,rfl⟩;refine a0k AB okP f0k _ rfl fun E Sg hb hS=> ?_;rw[<-hres];cbv;refine a0v hS _ (by subst hS;exact ho) ?_;cbv;split
  rotate_left
  ·rename_i h;exfalso;clear ho hcl heq;subst hS;simp[AK] at h
  cbv;refine a0v hS _ (by subst hS;exact hcl) ?_;cbv
  repeat' (with_reducible apply a1g hS)
  all_goals try (clear ho hcl heq;subst hS;simp[AK];done)
  refine a0v hS (bool z) (by subst hS;exact heq) ?_;cases z
  ·cbv;subst hres;exact a3x.tuple (.cons (AA _) (.cons (a6c (r4 rfl)) .nil))
  ·cbv;subst hres;exact a3x.tuple (.cons (AA _) (.cons (b0a (r0 rfl)) .nil))
 ·rw[if_pos hz] at hr;subst hr;clear he hf h0;obtain⟨ns,sz,no,od,ne,en,nn,var,nk,kid,root⟩:=d;obtain⟨res,hres⟩: ∃res,res=v:=⟨_,rfl⟩;rw[<-hres];rcases hv with rfl|⟨_,rfl⟩
  ·refine a0k AB okP f0k _ rfl fun E Sg hb hS=> ?_;cbv;refine a0v hS _ (by subst hS;exact ho) ?_;cbv;split
   ·rename_i h;exfalso;clear ho;subst hS;simp[AK] at h;exact hz h
   cbv;subst hres;exact a3x.tuple (.cons (AA _) (.cons (AA _) .nil))
  ·refine a0k AB okP f0k _ rfl fun E Sg hb hS=> ?_;cbv;refine a0v hS _ (by subst hS;exact ho) ?_;cbv;split
   ·rename_i h;exfalso;clear ho;subst hS;simp[AK] at h;exact hz h
   cbv;subst hres;exact a3x.tuple (.cons (AA _) (.cons (AA _) .nil))
end Go.Proofs.Tryz.Run
