/- Cases as data; whether they are thin; copies. Diagrams that are one; number of a place, cell, place, list of cells, by the reference. Conditions: none. -/
import Derived.Test.YtbglklaocjifhaaGreatESx
import Derived.Test.YtbglklaocjifhaaGreatEHe
open Go.Vf.a0x renaming refl->AA
open Go.Proofs.YtbglklaocjifhaaGreat.Tryz renaming mixed->AB
open Go.Proofs.Tryz renaming prog->AC
open Int renaming toNat_natCast->AD,ofNat_eq_natCast->AE,natCast_nonneg->AI,ofNat_lt->AJ,ofNat_le->AK,mul_le_mul_of_nonneg_right->AL,mul_nonneg->AM,lt_or_le->AP,add_comm->AQ,le_refl->AR,ofNat->AS
open Nat renaming le_refl->AF
open Bool renaming true->AG,false->AH,noConfusion->AN,eq_iff_iff->AO
set_option linter.unusedSimpArgs false
set_option linter.unusedVariables false
set_option maxHeartbeats 0
set_option maxRecDepth 100000
namespace Go.Proofs.Tryz.Run
open Go Go.Vf Go.Proofs
open Go.Proofs.YtbglklaocjifhaaGreat
def arB (q:Nat)(av:Nat->Int)(an:Nat->Nat)(ak:Nat->Nat->Int):a0f:= .arr 2 q fun j=>[.int .i64 (.v (av j)),.sl 1 (an j) fun k=>[.int .i64 (.v (ak j k))]]
def h6i (ns no:Nat)(sz od:Nat->Int):Prop:=h4e ns no sz od≠0\/h4d sz ns<=36
def h6e (d:DiR):Prop:=(d.ns<=8/\d.no<=8/\d.ne<=62/\d.nn<=70)/\(∀i,i<d.nn->d.nk i<=12)/\h6i d.ns d.no d.sz d.od
theorem h6e.fit {d:DiR}(h:h6e d)(hw:d.wf):d.fit:=⟨by have:=h.1;omega,by have:=h.1;omega,by have:=h.1;omega,by have:=h.1;omega,fun i hi=>by have:=h.2.1 i hi;omega,hw.1,hw.2.1⟩
theorem h5x {ns no:Nat}(hs:ns<=8)(ho:no<=8)(sz od:Nat->Int): ∃er q:Int,a0j AC AG 39 [isl ns sz,isl no od] (int er)/\(er=0->a0j AC AG 72 [isl ns sz] (int q))/\(h6i ns no sz od↔er≠0\/q<=36):=by
 refine⟨h4e ns no sz od,min 3000 (h4d sz ns),h4p (by omega) (by omega) sz od _ rfl,fun h=> ?_,?_⟩
 ·obtain⟨_,k2,_⟩:=h4s h;exact i4b (by omega) sz k2 _ rfl
 ·unfold h6i;exact or_congr Iff.rfl (by omega)
theorem h8s (d:DiR)(r:Bool)(hr:r=AG↔h6e d):a0j AC AG 50 [d.av] (bool r):=by
 obtain⟨FT,hFT⟩: ∃FT,h6i d.ns d.no d.sz d.od=FT:=⟨_,rfl⟩;have hq:d.ns<=8->d.no<=8-> ∃er q:Int,a0j AC AG 39 [isl d.ns d.sz,isl d.no d.od] (int er)/\(er=0->a0j AC AG 72 [isl d.ns d.sz] (int q))/\(FT↔er≠0\/q<=36):=fun h1 h2=>hFT▸h5x h1 h2 d.sz d.od;unfold h6e at hr;rw[hFT] at hr;clear hFT;obtain⟨ns,sz,no,od,ne,en,nn,var,nk,kid,root⟩:=d;simp only at hr hq;refine a1e (a0k AB okP i9m _ rfl fun E Sg hb hS=> ?_);have e:=b2k hS;cbv;split
 ·rename_i h;have h:8<ns:=d3r hS h;cbv;exact e8z hr fun h'=>by have:=h'.1;omega
 rename_i h;have h1:ns<=8:=d3c hS h;cbv;split
 ·rename_i h;have h:8<no:=d3r hS h;cbv;exact e8z hr fun h'=>by have:=h'.1;omega
 rename_i h;have h2:no<=8:=d3c hS h;cbv;split
 ·rename_i h;have h:62<ne:=d3r hS h;cbv;exact e8z hr fun h'=>by have:=h'.1;omega
 rename_i h;have h3:ne<=62:=d3c hS h;cbv;split
 ·rename_i h;have h:70<nn:=d3r hS h;cbv;exact e8z hr fun h'=>by have:=h'.1;omega
 rename_i h;have h4:nn<=70:=d3c hS h;obtain⟨er,q,q1,q2,q3⟩:=hq h1 h2;clear hq;cbv;refine a7r AB okP hS (fun i=>i<=nn/\ ∀j,j<i->nk j<=12) (fun i=>nn-i)
  (fun i=>⟨b5r [(1,.ptr 0 0),(3,int i)] 53,[.var [isl ns sz,isl no od,vsl ne en,bsl nn var nk kid,int root]],[]⟩) 0 ⟨by omega,by omega⟩ ?_ ?_
 ·exact a4c rfl ⟨AA _,a6c rfl,trivial⟩ (.cons (.refl _) (.nil _)) (by simp;omega) (.inr rfl) rfl
 ·intro i hi N hN;cbv;split
  ·rename_i h;have hlt:i<nn:=d3r hS h;cbv;simp only[nat,e.toNat,AE,AD];refine a1g hS (a5p hS hlt) ?_;split
   ·rename_i h;have h:12<nk i:=d3r hS h;cbv;exact e8z hr fun h'=>by have:=h'.2.1 i hlt;omega
   ·rename_i h;have hk:nk i<=12:=d3c hS h;cbv;refine a1g hS (e1n hS (by omega)) ?_;refine hN (i+1) _ ⟨by omega,fun j hj=> ?_⟩ (by omega) (a4c rfl ⟨AA _,b2s hS,trivial⟩ (.cons (.refl _) (.nil _)) (by simp;omega) (.inr rfl) rfl);by_cases e:j=i
    ·subst e;exact hk
    ·exact hi.2 j (by omega)
  ·rename_i h;have hin:nn<=i:=d3c hS h;have hall: ∀j,j<nn->nk j<=12:=fun j hj=>hi.2 j (by omega);cbv;refine a0v hS _ q1 ?_;cbv;by_cases h0:er=0
   ·subst h0;simp only[e.ieq,e.bnot];cbv;refine a0v hS _ (q2 rfl) ?_;cbv;refine a0s ?_;simp only[e.ile];rw[AO,hr,decide_eq_true_iff];refine⟨fun h=>⟨⟨h1,h2,h3,h4⟩,hall,q3.2 (.inr h)⟩,fun h=> ?_⟩;rcases q3.1 h.2.2 with h|h
    ·exact absurd rfl h
    ·exact h
   ·have hb0:(er==AS 0)=AH:=beq_false_of_ne h0;simp only[e.ieq,e.bnot,hb0];cbv;exact h8e hr ⟨⟨h1,h2,h3,h4⟩,hall,q3.2 (.inl h0)⟩
structure CaR where
 ns:Nat
 sz:Nat->Int
 no:Nat
 od:Nat->Int
 nl:Nat
 lk:Nat->DiR
 inn:DiR
 goal:DiR
def DiR.cs (d:DiR):List AV:=[isl d.ns d.sz,isl d.no d.od,vsl d.ne d.en,bsl d.nn d.var d.nk d.kid,int d.root]
def CaR.av (c:CaR):AV:= .agg ([isl c.ns c.sz,isl c.no c.od,dsl c.nl c.lk]++c.inn.cs++c.goal.cs)
def h6v (c:CaR):Prop:=(c.ns<=8/\c.no<=8/\c.nl<=6)/\h6e c.inn/\h6e c.goal/\(∀i,i<c.nl->h6e (c.lk i))/\h6i c.ns c.no c.sz c.od
theorem i3u (c:CaR)(r:Bool)(hr:r=AG↔h6v c):a0j AC AG 18 [c.av] (bool r):=by
 obtain⟨FT,hFT⟩: ∃FT,h6i c.ns c.no c.sz c.od=FT:=⟨_,rfl⟩;have hq:c.ns<=8->c.no<=8-> ∃er q:Int,a0j AC AG 39 [isl c.ns c.sz,isl c.no c.od] (int er)/\(er=0->a0j AC AG 72 [isl c.ns c.sz] (int q))/\(FT↔er≠0\/q<=36):=fun h1 h2=>hFT▸h5x h1 h2 c.sz c.od;obtain⟨zi,hzi⟩: ∃z:Bool,z=AG↔h6e c.inn:=by classical exact⟨decide _,decide_eq_true_iff⟩
 obtain⟨zg,hzg⟩: ∃z:Bool,z=AG↔h6e c.goal:=by classical exact⟨decide _,decide_eq_true_iff⟩
 obtain⟨zl,hzl⟩: ∃z:Nat->Bool,∀i,z i=AG↔h6e (c.lk i):=by classical exact⟨fun i=>decide _,fun i=>decide_eq_true_iff⟩
 have g1:a0j AC AG 50 [.agg c.inn.cs] (bool zi):=h8s c.inn zi hzi;have g2:a0j AC AG 50 [.agg c.goal.cs] (bool zg):=h8s c.goal zg hzg;have g3: ∀i,a0j AC AG 50 [(c.lk i).av] (bool (zl i)):=fun i=>h8s (c.lk i) (zl i) (hzl i);unfold h6v at hr;rw[hFT,<-hzi,<-hzg] at hr;simp only[<-hzl] at hr;clear hFT hzi hzg hzl;obtain⟨ns,sz,no,od,nl,lk,⟨ins,isz,ino,iod,ine,ien,inn,ivar,ink,ikid,iroot⟩,⟨gns,gsz,gno,god,gne,gen,gnn,gvar,gnk,gkid,groot⟩⟩:=c;simp only[CaR.av,DiR.cs,List.cons_append,List.nil_append] at*
 refine a1e (a0k AB okP i8n _ rfl fun E Sg hb hS=> ?_);have e:=b2k hS;cbv;split
 ·rename_i h;have h:8<ns:=d3r hS h;cbv;exact e8z hr fun h'=>by have:=h'.1;omega
 rename_i h;have h1:ns<=8:=d3c hS h;cbv;split
 ·rename_i h;have h:8<no:=d3r hS h;cbv;exact e8z hr fun h'=>by have:=h'.1;omega
 rename_i h;have h2:no<=8:=d3c hS h;obtain⟨er,q,q1,q2,q3⟩:=hq h1 h2;clear hq;cbv;split
 ·rename_i h;have h:6<nl:=d3r hS h;cbv;exact e8z hr fun h'=>by have:=h'.1;omega
 rename_i h;have h3:nl<=6:=d3c hS h;cbv;refine a0v hS _ g1 ?_;cases zi
 ·cbv;exact e8z hr fun h'=>AN h'.2.1
 cbv;refine a0v hS _ g2 ?_;cases zg
 ·cbv;exact e8z hr fun h'=>AN h'.2.2.1
 cbv;refine a7r AB okP hS (fun i=>i<=nl/\ ∀j,j<i->zl j=AG) (fun i=>nl-i)
  (fun i=>⟨b5r [(1,.ptr 0 0),(3,int i)] 58,[.var [isl ns sz,isl no od,dsl nl lk,isl ins isz,isl ino iod,vsl ine ien,bsl inn ivar ink ikid,int iroot,isl gns gsz,isl gno god,vsl gne gen,bsl gnn gvar gnk gkid,int groot]],[]⟩) 0 ⟨by omega,by omega⟩ ?_ ?_
 ·exact a4c rfl ⟨AA _,a6c rfl,trivial⟩ (.cons (.refl _) (.nil _)) (by simp;omega) (.inr rfl) rfl
 ·intro i hi N hN;cbv;split
  ·rename_i h;have hlt:i<nl:=d3r hS h;cbv;simp only[nat,e.toNat,AE,AD];refine a1g hS (a5p hS hlt) ?_;refine a0v hS (bool (zl i)) (g3 i) ?_;cases hz:zl i
   ·cbv;exact e8z hr fun h'=>by have:=h'.2.2.2.1 i hlt;rw[hz] at this;cases this
   ·cbv;refine a1g hS (e1n hS (by omega)) ?_;refine hN (i+1) _ ⟨by omega,fun j hj=> ?_⟩ (by omega) (a4c rfl ⟨AA _,b2s hS,trivial⟩ (.cons (.refl _) (.nil _)) (by simp;omega) (.inr rfl) rfl);by_cases e:j=i
    ·subst e;exact hz
    ·exact hi.2 j (by omega)
  ·rename_i h;have hin:nl<=i:=d3c hS h;have hall: ∀j,j<nl->zl j=AG:=fun j hj=>hi.2 j (by omega);cbv;refine a0v hS _ q1 ?_;cbv;by_cases h0:er=0
   ·subst h0;simp only[e.ieq,e.bnot];cbv;refine a0v hS _ (q2 rfl) ?_;cbv;refine a0s ?_;simp only[e.ile];rw[AO,hr,decide_eq_true_iff];refine⟨fun h=>⟨⟨h1,h2,h3⟩,rfl,rfl,hall,q3.2 (.inr h)⟩,fun h=> ?_⟩;rcases q3.1 h.2.2.2.2 with h|h
    ·exact absurd rfl h
    ·exact h
   ·have hb0:(er==AS 0)=AH:=beq_false_of_ne h0;simp only[e.ieq,e.bnot,hb0];cbv;exact h8e hr ⟨⟨h1,h2,h3⟩,rfl,rfl,hall,q3.2 (.inl h0)⟩
theorem i4n {n:Nat}(hn:n<=1000000)(g:Nat->Int)(res:AV)(hres:res=isl n g):a0j AC AH 74 [isl n g] res:=by
 refine a0k AB okP g4b _ rfl fun E Sg hb hS=> ?_;cases n with
 |zero=>cbv;subst hres;exact a0x.nil0
 |succ n=>cbv;refine a1g hS (e8l hS (show _<=1073741824 by omega)) (a1g hS (e8l hS (AF _)) ?_);subst hres;exact AA _
theorem h7c {n:Nat}(hn:n<=1000000)(g:Nat->Int):a0j AC AH 74 [isl n g] (isl n g):=i4n hn g _ rfl
theorem h8i (d:DiR)(hd:d.fit):a0j AC AH 70 [d.av] d.av:=by
 have q1:=h7c hd.ns d.sz;have q2:=h7c hd.no d.od;have q4:=fun i hi=>h7c (hd.nk i hi) (d.kid i);have h1:=hd.ne;have h2:=hd.nn;clear hd;obtain⟨ns,sz,no,od,ne,en,nn,var,nk,kid,root⟩:=d;simp only at q1 q2 q4 h1 h2;refine a0k AB okP h1m _ rfl fun E Sg hb hS=> ?_;have e:=b2k hS;cbv;refine a0v hS _ q1 ?_;cbv;refine a0v hS _ q2 ?_;cbv;refine a1g hS (e8l hS (show ne<=1073741824 by omega)) ?_;refine e4p AB okP hS (fun i=>i<=nn) (fun i=>nn-i)
  (fun i=>⟨b5r [(1,.ptr 0 0),(2,.ptr 1 0),(3,.ptr 2 0),(4,int i)] 44,[.var [isl ns sz,isl no od,vsl ne en,bsl nn var nk kid,int root],.var [.d .nil,.d .nil,.d .nil,.d .nil,int 0],.var [isl ns sz,isl no od,vsl ne en,.msl 3 2 none i AH,int root],arB i var nk kid],[3]⟩)
  0 (by omega) ?_ ?_
 ·exact (b4w.gh 2 3 2 (fun _=>[]) rfl rfl).trans (b4w.le (a4c rfl ⟨AA _,AA _,AA _,a6c rfl,trivial⟩
   (.cons (.refl _) (.cons (.var (.cons (AA _) (.cons (AA _) (.cons (AA _) (.cons (AA _) (.cons (a6c rfl) .nil)))))) (.cons (.refl _) (.cons (a9v.arrr rfl fun j hj=>by omega) (.nil _))))) (by simp;omega) (.inr rfl) rfl))
 ·intro i hi N hN;cbv;split
  ·rename_i h;have hlt:i<nn:=d3r hS h;cbv;simp only[nat,e.toNat,AE,AD];refine a1g hS (a5p hS hlt) (a1g hS (a5p hS hlt) ?_);refine a0v hS _ (q4 i hlt) ?_;cbv;refine a1g hS (c3d hS) (a1g hS trivial (a1g hS (f1i hS (by omega)) (a1g hS (e1n hS (by omega)) ?_)));refine hN (i+1) _ hlt (by omega) (b4w.le (a4c rfl ⟨AA _,AA _,AA _,b2s hS,trivial⟩
    (.cons (.refl _) (.cons (.refl _) (.cons (.var (.cons (AA _) (.cons (AA _) (.cons (AA _) (.cons (d8n hS) (.cons (AA _) .nil)))))) (.cons (d7h hS (fun j hj=> .refl _) (.refl _)) (.nil _))))) (by simp;omega) (.inr rfl) rfl))
  ·rename_i h;have hin:i=nn:=by have:=d3c hS h;omega
   cbv;refine a1g hS (e8l hS (AF _)) ?_;subst hin;exact AA _
theorem h9z (n:Nat)(hn:n<=1000000)(l:Nat->DiR)(hl: ∀i,i<n->(l i).fit):a0j AC AH 75 [dsl n l] (dsl n l):=by
 have q:=fun i hi=>h8i (l i) (hl i hi);refine a0k AB okP h3k _ rfl fun E Sg hb hS=> ?_;have e:=b2k hS;cbv;refine e4p AB okP hS (fun i=>i<=n) (fun i=>n-i)
  (fun i=>⟨b5r [(0,dsl n l),(3,.msl 0 5 none i AH),(4,int i)] 20,[.arr 5 i fun j=>(l j).row],[0]⟩) 0 (by omega) ?_ ?_
 ·exact (b4w.gt 3 5 (fun _=>[]) rfl).trans (b4w.le (a4c rfl ⟨AA _,AA _,a6c rfl,trivial⟩
   (.cons (a9v.arrr rfl fun j hj=>by omega) (.nil _)) (by simp;omega) (.inr rfl) rfl))
 ·intro i hi N hN;cbv;split
  ·rename_i h;have hlt:i<n:=d3r hS h;cbv;simp only[nat,e.toNat,AE,AD];refine a1g hS (a5p hS hlt) ?_;refine a0v hS _ (q i hlt) ?_;cbv;refine a1g hS trivial (a1g hS (f1i hS (by omega)) (a1g hS (e1n hS (by omega)) ?_));exact hN (i+1) _ hlt (by omega) (b4w.le (a4c rfl ⟨AA _,d8n hS,b2s hS,trivial⟩
    (.cons (d7h hS (fun j hj=> .refl _) (.refl _)) (.nil _)) (by simp;omega) (.inr rfl) rfl))
  ·rename_i h;have hin:i=n:=by have:=d3c hS h;omega
   cbv;refine a1g hS (e8l hS (AF _)) ?_;subst hin;exact AA _
theorem a1i.bd {v:VaR}(h:a1i v)(h0:0<=v.fault):(0<=v.fault/\v.fault<=255)/\c5t v.n:=by unfold a1i at h;unfold c5t;split at h<;>omega
structure i6l (d:DiR):Prop where
 fr:h4e d.ns d.no d.sz d.od=0
 nn:d.nn<=6000
 loose:h3x d
 dia:h5e d
theorem i0u {d:DiR}(h:h5o d=0):i6l d:=by obtain⟨h1,h2⟩:=h6x h;obtain⟨h3,h4,h5⟩:=h4q h1;exact⟨h3,h4,h5,h2⟩
def j5f (sz g:Nat->Int):Nat->Int
 |0=>0
 |i+1=>j5f sz g i*sz i+g i
theorem h7t {sz:Nat->Int}{n:Nat}(hs: ∀i,i<n->1<=sz i): ∀m,m<=n->h4d sz m<=h4d sz n:=fun m hm=>by
 induction n with
 |zero=>rw[show m=0 by omega];exact AR _
 |succ n ih=>
  by_cases e:m=n+1
  ·rw[e];exact AR _
  ·have h1:=ih (fun i hi=>hs i (by omega)) (by omega);have h2:=h4r (g:=sz) (n:=n) fun i hi=>hs i (by omega);have h3:=hs n (by omega);rw[h4d];refine Int.le_trans h1 ?_;have:=Int.mul_le_mul_of_nonneg_left h3 (show 0<=h4d sz n by omega);omega
theorem j5b {sz g:Nat->Int}{n:Nat}(hg: ∀i,i<n->0<=g i/\g i<sz i): ∀m,m<=n->0<=j5f sz g m/\j5f sz g m<h4d sz m
 |0,_=>by simp[j5f,h4d]
 |m+1,h=>by have ih:=j5b hg m (by omega);have hm:=hg m (by omega);rw[j5f,h4d];have h1:0<=j5f sz g m*sz m:=AM ih.1 (by omega);have h2:(j5f sz g m+1)*sz m<=h4d sz m*sz m:=AL (by omega) (by omega);rw[Int.add_mul,Int.one_mul] at h2;omega
theorem j4x {ns:Nat}(hns:ns<=1000000)(sz g:Nat->Int)(hs: ∀i,i<ns->1<=sz i/\sz i<=12)(hp:h4d sz ns<=2000)(hg: ∀i,i<ns->0<=g i/\g i<sz i)(r:Int)(hr:j5f sz g ns=r):a0j AC AG 45 [isl ns sz,isl ns g] (int r):=by
 have hb:=j5b hg;have hpm:=h7t (sz:=sz) (n:=ns) fun i hi=>(hs i hi).1;obtain⟨N0,hN0,hN1,hN2⟩: ∃N:Nat->Int,N 0=0/\(∀i,N (i+1)=N i*sz i+g i)/\ ∀i,j5f sz g i=N i:=⟨j5f sz g,rfl,fun _=>rfl,fun _=>rfl⟩;simp only[hN2] at hb hr;have hbb: ∀i,i<=ns->0<=N0 i/\N0 i<2000:=fun i hi=>⟨(hb i hi).1,by have:=(hb i hi).2;have:=hpm i hi;omega⟩;clear hb hpm hN2;refine a4e (a0k AB okP h0c _ rfl fun E Sg hbs hS=> ?_);have e:=b2k hS;cbv;refine a7r AB okP hS (fun i=>i<=ns) (fun i=>ns-i)
  (fun i=>⟨b5r [(0,isl ns sz),(1,isl ns g),(5,int (N0 i)),(6,int i)] 25,[],[]⟩) 0 (by omega) ?_ ?_
 ·exact a4c rfl ⟨AA _,AA _,a6c hN0.symm,a6c rfl,trivial⟩ (.nil _) (by omega) (.inr rfl) rfl
 ·intro i hi N hN;have h1:=hbb i hi;cbv;split
  ·rename_i h;have hlt:i<ns:=d3r hS h;have h2:=hbb (i+1) hlt;have h3:=hs i hlt;have h4:=hg i hlt;have h5:=hN1 i;have h6:0<=N0 i*sz i:=AM h1.1 (by omega);have h7:N0 i*sz i<=2000*sz i:=AL (by omega) (by omega);cbv;simp only[nat,e.toNat,e.imul,AE,AD];refine a1g hS (a5p hS hlt) (a1g hS (a5p hS hlt) (a1g hS (e7p hS (by omega)) (a1g hS (a4p hS (by omega)) (a1g hS (e1n hS (by omega)) ?_))));exact hN (i+1) _ hlt (by omega) (a4c rfl ⟨AA _,AA _,b0a (by simp only[e.iadd];exact h5.symm),b2s hS,trivial⟩ (.nil _) (by omega) (.inr rfl) rfl)
  ·rename_i h;have hin:i=ns:=by have:=d3c hS h;omega
   subst hin;cbv;exact b0a hr
theorem i7u {x:Int}{i:Nat}(h:x<i):(x+1).toNat<((i:Int)+1).toNat:=by omega
theorem i5h {d:DiR}(hl:h3x d){pl:Nat->Int}(hp:i3i d pl): ∀k:Int,h4k d.ne k d.nn->h5d d pl k<0/\ -1-h5d d pl k<d.ne:=by
 have: ∀(m:Nat) (k:Int),k<m->h4k d.ne k d.nn->h5d d pl k<0/\ -1-h5d d pl k<d.ne:=by
  intro m
  induction m with
  |zero=>intro k hm hr;rw[h4c (by omega)];exact⟨by omega,hr.2 (by omega)⟩
  |succ m ih=>
   intro k hm hr;by_cases h0:k<0
   ·rw[h4c h0];exact⟨h0,hr.2 h0⟩
   ·obtain⟨i,rfl⟩: ∃i:Nat,k=i:=⟨k.toNat,by omega⟩;have hi:i<d.nn:=by have:=hr.1 (by omega);omega
    rw[h4x hl hp hi];have h1:=(h5q hl hp hi).2.2;refine ih _ ?_ ⟨fun h=>by have:=h1.1 h;omega,h1.2⟩;rcases AP (d.kid i (pl (d.var i).toNat).toNat) 0 with h|h
    ·omega
    ·have:=h1.1 h;omega
 intro k hr;exact this (k.toNat+1) k (by omega) hr
theorem i6q (d:DiR)(hl:h3x d)(hf:d.fit)(pl:Nat->Int)(hp:i3i d pl)(cf cn:Int)(hc:d.en (-1-h5d d pl d.root).toNat=⟨cf,cn⟩):a0j AC AH 94 [d.av,isl d.ns pl] (.agg [u8 cf,int cn]):=by
 have hro:=h4g hl.2.2;have hnx:=fun k hk=>h5q hl hp (k:=k) hk;have hst:=fun i hi=>h4x hl hp (i:=i) hi;have hw:=i5h hl hp d.root hro;have hne:=hf.ne;obtain⟨W,hW⟩: ∃W,W=h5d d pl d.root:=⟨_,rfl⟩;rw[<-hW] at hw hc;have hw3: -1-W<=1000000:=by have:=AK.2 hne;omega
 have hlast: ∀k:Int,k<0->h5d d pl k=W->k=W:=fun k h e=>by rw[h4c h] at e;exact e
 obtain⟨Y,hY⟩: ∃Y:Int->Int,∀k,h5d d pl k=Y k:=⟨_,fun _=>rfl⟩;simp only[hY] at hst hlast hW;clear hY hl hp hf;obtain⟨ns,sz,no,od,ne,en,nn,var,nk,kid,root⟩:=d;simp only at hnx hst hW hro hc hw hne;refine a0k AB okP i9e _ rfl fun E Sg hb hS=> ?_;have e:=b2k hS;cbv;refine a7r AB okP hS (σ:=Int) (fun k=>h4k ne k nn/\Y k=W) (fun k=>(k+1).toNat)
  (fun k=>⟨b5r [(1,isl ns pl),(2,.ptr 0 0),(4,.ptr 1 0),(5,int k)] 33,[.var [isl ns sz,isl no od,vsl ne en,bsl nn var nk kid,int root],.var [u8 0,int 0]],[]⟩) root ⟨hro,hW.symm⟩ ?_ ?_
 ·exact a4c rfl ⟨AA _,AA _,AA _,AA _,trivial⟩ (.cons (.refl _) (.cons (.var (.cons (a6c rfl) (.cons (a6c rfl) .nil))) (.nil _))) (by simp;omega) (.inr rfl) rfl
 ·rintro k ⟨hk1,hk2⟩ N hN;cbv;split
  ·rename_i h;have h0:0<=k:=e3n hS h;cbv;obtain⟨i,rfl⟩: ∃i:Nat,k=i:=⟨k.toNat,(Int.toNat_of_nonneg h0).symm⟩;have hi:i<nn:=AJ.1 (hk1.1 (AI i));obtain⟨n1,n2,n3⟩:=hnx i hi;simp only[nat,e.toNat,AE,AD];refine a1g hS (a5p hS hi) (a1g hS (a5p hS hi) (a1g hS (i2b hS n1) (a1g hS (i2b hS n2) ?_)));refine hN (kid i (pl (var i).toNat).toNat) _ ⟨⟨fun h=>Int.lt_trans (n3.1 h) (AJ.2 hi),n3.2⟩,by rw[<-hst i hi];exact hk2⟩ ?_ (a4c rfl ⟨AA _,AA _,AA _,AA _,trivial⟩ (.cons (.refl _) (.cons (.refl _) (.nil _))) (by simp;omega) (.inr rfl) rfl);refine i7u ?_;rcases AP (kid i (pl (var i).toNat).toNat) 0 with h|h
   ·exact Int.lt_of_lt_of_le h (AI i)
   ·exact n3.1 h
  ·rename_i h;have h0:k<0:=e3g hS h;cbv;have hkW:=hlast k h0 hk2;subst hkW;have hneg:(Int.negSucc 0-k).toNat=(-1-k).toNat:=rfl;simp only[nat,e.toNat,e.isub,hneg,hc];refine a1g hS (e7p hS (show-9223372036854775808<= -1-k/\ -1-k<=9223372036854775807 by omega)) (a1g hS (i2b hS (show 0<= -1-k/\ -1-k<(ne:Int) from⟨by omega,hw.2⟩)) ?_);exact AA _
theorem i3z {a b c:Int}(ha:0<=a)(hb:0<b)(hc:0<=c/\c<b):(a*b+c).tmod b=c/\(a*b+c).tdiv b=a:=by
 have h0:0<=a*b+c:=by have:=AM ha (Int.le_of_lt hb);omega
 rw[Int.tmod_eq_emod_of_nonneg h0,Int.tdiv_eq_ediv_of_nonneg h0];constructor
 ·rw[AQ,Int.add_mul_emod_self_right];exact Int.emod_eq_of_lt hc.1 hc.2
 ·rw[AQ,Int.add_mul_ediv_right _ _ (by omega),Int.ediv_eq_zero_of_lt hc.1 hc.2];omega
theorem i2g {ns:Nat}(hns:ns<=1000000)(sz g:Nat->Int)(hs: ∀i,i<ns->1<=sz i/\sz i<=12)(hp:h4d sz ns<=2000)(hg:i2j sz g ns)(n:Int)(hn:h4w sz g ns=n):a0j AC AH 34 [isl ns sz,int n] (isl ns g):=by
 obtain⟨V,hV⟩: ∃V:Nat->Int,∀i,h4w sz g i=V i:=⟨_,fun _=>rfl⟩;have hV1: ∀i,V (i+1)=V i*sz i+g i:=fun i=>by rw[<-hV,<-hV];rfl
 have hV0: ∀i,i<=ns->0<=V i/\V i<=2000:=fun i hi=>by have h1:=h5c (sz:=sz) (pl:=g) (n:=i) fun j hj=>hg j (by omega);have h2:=h7t (sz:=sz) (n:=ns) (fun i hi=>(hs i hi).1) i hi;rw[<-hV];omega
 rw[hV] at hn;obtain⟨K,hK⟩: ∃K:Nat->Int,∀p,K p=(ns:Int)-1-p:=⟨_,fun _=>rfl⟩;obtain⟨J,hJ⟩: ∃J:Nat->Nat,∀p,J p=ns-1-p:=⟨_,fun _=>rfl⟩;have hK1: ∀p,p<ns->K p=J p:=fun p hp=>by rw[hK,hJ];omega
 have hKp: ∀p,p<=ns->0<=K p->p<ns:=fun p hp h=>by rw[hK] at h;omega
 have hKn: ∀p,p<=ns->K p<0->p=ns:=fun p hp h=>by rw[hK] at h;omega
 have hK2: ∀p,K (p+1)=K p-1:=fun p=>by rw[hK,hK];omega
 have hK0:K 0=(ns:Int)-1:=by rw[hK];omega
 obtain⟨B,hB⟩: ∃B:Nat->Nat->Int,∀p i,B p i=if ns-p<=i then g i else 0:=⟨_,fun _ _=>rfl⟩;obtain⟨M,hM⟩: ∃M:Nat->Int,∀p,M p=V (ns-p):=⟨_,fun _=>rfl⟩;have hM0:M 0=n:=by rw[hM,Nat.sub_zero,hn]
 have hM1: ∀p,p<ns->(M p).tmod (sz (J p))=g (J p)/\(M p).tdiv (sz (J p))=M (p+1)/\0<sz (J p)/\0<=M (p+1)/\M (p+1)<=2000:=fun p hp=>by
  have h1:ns-p=J p+1:=by rw[hJ];omega
  have h2:ns-(p+1)=J p:=by rw[hJ];omega
  have hjn:J p<ns:=by rw[hJ];omega
  have h3:=hV0 (J p) (by omega);have h4:=hs (J p) hjn;obtain⟨h5,h6⟩:=i3z h3.1 (show 0<sz (J p) by omega) (hg (J p) hjn);rw[hM,hM,h1,h2,hV1];exact⟨h5,h6,by omega,h3⟩
 refine a0k AB okP i8y _ rfl fun E Sg hb hS=> ?_;have e:=b2k hS;cbv;simp only[e.ofNat,e.toNat,AD];refine a1g hS (i0n hS (AI _)) (a1g hS (i0n hS (AK.2 (show ns<=1073741824 by omega))) (a1g hS (a9o hS (show-9223372036854775808<=(ns:Int)-1/\(ns:Int)-1<=9223372036854775807 by omega)) ?_));refine a7r AB okP hS (fun p=>p<=ns) (fun p=>ns-p)
  (fun p=>⟨b5r [(0,isl ns sz),(1,int (M p)),(5,.msl 0 1 none ns AH),(6,int (K p))] 33,[arrI ns (B p)],[]⟩) 0 (by omega) ?_ ?_
 ·refine a4c rfl ⟨AA _,b0a hM0.symm,AA _,b0a (by simp only[e.isub,hK0];rfl),trivial⟩ (.cons (h8m hS fun j hj=>by rw[hB,if_neg (by omega)];exact .one (.int rfl)) (.nil _)) (by simp;omega) (.inr rfl) rfl
 ·intro p hp N hN;cbv;split
  ·rename_i h;have hlt:p<ns:=hKp p hp (e3n hS h);have hj:=hK1 p hlt;have hjn:J p<ns:=by rw[hJ];omega
   obtain⟨m1,m2,m3,m4,m5⟩:=hM1 p hlt;cbv;simp only[nat,e.toNat,e.irem,e.iquo,hj,AD,m1,m2];refine a1g hS (a5p hS hjn) (a1g hS (i6p hS (by omega)) (a1g hS (a5p hS hjn) (a1g hS (i2h hS hjn) (a1g hS (a5p hS hjn) (a1g hS (i6p hS (by omega)) (a1g hS (e7p hS (by omega)) (a1g hS (a9o hS (show-9223372036854775808<=(J p:Int)-1/\(J p:Int)-1<=9223372036854775807 by omega)) ?_)))))));refine hN (p+1) _ hlt (by omega) (a4c rfl ⟨AA _,AA _,AA _,b0a (by simp only[e.isub,hK2,hj];rfl),trivial⟩ (.cons (h8j hS ?_ ?_) (.nil _)) (by simp;omega) (.inr rfl) rfl)
   ·intro j hj2 hne;rw[hJ] at hne;rw[hB,hB];by_cases h:ns-p<=j
    ·rw[if_pos h,if_pos (by omega)];exact .refl _
    ·rw[if_neg h,if_neg (by omega)];exact .refl _
   ·intro _;rw[hB,if_pos (by rw[hJ];omega)];exact .refl _
  ·rename_i h;have hpn:p=ns:=hKn p hp (e3g hS h);cbv;refine a1g hS (e8l hS (AF _)) ?_;exact a0x.isl rfl fun i hi=>by rw[hB,if_pos (by omega)]
theorem i6a (d:DiR)(hd:i6l d)(hf:d.fit){T:Nat}(hT:(T:Int)=h4d d.sz d.ns):a0j AC AH 54 [d.av] (vsl T d.cell):=by
 obtain⟨h1,h2,h3,h4,_⟩:=h4s hd.fr;have hle:h3z d=0:=by unfold h3z;rw[hd.fr];simp[hd.loose,show¬6000<d.nn by have:=hd.nn;omega]
 have h84:=h5v d hf 0 hle;have hT2:T<=2000:=AK.1 (by rw[<-hT] at h3;exact h3);have h52:=i4b (n:=d.ns) (by omega) d.sz h2 (T:Int) (by rw[hT];omega);have hpl: ∀p,p<T->i2j d.sz (h5j d.sz d.ns p) d.ns/\h4w d.sz (h5j d.sz d.ns p) d.ns=p:=fun p hp=>h5s (fun j hj=>(h2 j hj).1) p (by rw[<-hT];exact AJ.2 hp);have h111:=fun p hp=>i2g (ns:=d.ns) (by omega) d.sz (h5j d.sz d.ns p) h2 h3 (hpl p hp).1 (p:Int) (hpl p hp).2;have h110:=fun p (hp:p<T)=>i6q d hd.loose hf (h5j d.sz d.ns p) (hpl p hp).1 (d.cell p).fault (d.cell p).n rfl;clear hpl h1 h2 h3 h4 hle hd hf hT;obtain⟨Q,hQ⟩: ∃Q:Nat->Nat->Int,∀p,h5j d.sz d.ns p=Q p:=⟨_,fun _=>rfl⟩;simp only[hQ] at h111 h110;clear hQ;obtain⟨cell,hcell⟩: ∃cell,d.cell=cell:=⟨_,rfl⟩;rw[hcell] at h110⊢;clear hcell;obtain⟨ns,sz,no,od,ne,en,nn,var,nk,kid,root⟩:=d;simp only at h84 h52 h111 h110;refine a0k AB okP i9p _ rfl fun E Sg hb hS=> ?_;have e:=b2k hS;cbv;refine a0v hS _ h84 ?_;cbv;simp only[e.ieq,e.bnot];cbv;refine e4p AB okP hS (fun p=>p<=T) (fun p=>T-p)
  (fun p=>⟨b5r [(1,.ptr 0 0),(3,.msl 1 2 none p AH),(4,int p)] 25,[.var [isl ns sz,isl no od,vsl ne en,bsl nn var nk kid,int root],.arr 2 p fun i=>(cell i).row],[1]⟩) 0 (by omega) ?_ ?_
 ·exact (b4w.gt 3 2 (fun _=>[]) rfl).trans (b4w.le (a4c rfl ⟨AA _,AA _,a6c rfl,trivial⟩ (.cons (.refl _) (.cons (a9v.arrr rfl fun j hj=>by omega) (.nil _))) (by simp;omega) (.inr rfl) rfl))
 ·intro p hp N hN;cbv;refine a0v hS _ h52 ?_;cbv;split
  ·rename_i h;have hlt:p<T:=AJ.1 (b3h hS h);cbv;refine a0v hS _ (h111 p hlt) ?_;cbv;refine a1g hS (c3d hS) ?_;refine a0v hS _ (h110 p hlt) ?_;cbv;refine a1g hS trivial (a1g hS (f1i hS (by omega)) (a1g hS (e1n hS (by omega)) ?_));exact hN (p+1) _ hlt (by omega) (b4w.le (a4c rfl ⟨AA _,d8n hS,b2s hS,trivial⟩ (.cons (.refl _) (.cons (d7h hS (fun j hj=> .refl _) (.refl _)) (.nil _))) (by simp;omega) (.inr rfl) rfl))
  ·rename_i h;have hin:p=T:=by have:=AK.1 (b3r hS h);omega
   subst hin;cbv;refine a1g hS (e8l hS (AF _)) ?_;exact AA _
end Go.Proofs.Tryz.Run
