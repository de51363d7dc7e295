/- LookWays. Conditions: none. -/
import Derived.Test.YtbglklaocjifhaaGreatFSx
import Derived.Test.YtbglklaocjifhaaGreatFHm
open Go.Vf.a0x renaming refl->AA,any->Ak
open Go.Proofs.Tryz renaming prog->AB
open Int renaming ofNat_eq_natCast->AC,toNat_natCast->AE,ofNat_lt->AJ,ofNat_le->AK,ofNat->AM,natCast_nonneg->AT,mul_le_mul_of_nonneg_right->AW,mul_nonneg->AZ,lt_or_le->Ag,add_comm->Ah,le_refl->Ai
open Go.Proofs.YtbglklaocjifhaaGreat.Tryz renaming mixed->AD
open Bool renaming false->AF,true->AH,eq_iff_iff->AS,noConfusion->AU
open Go.Vf.a9v renaming arrr->AG
open Nat renaming le_refl->AI,zero_add->AR,not_lt_zero->AX,sub_zero->Ab
open List renaming cons_append->AN,nil_append->AO,getD_eq_getElem?_getD->AY
open Go.Vf.b4w renaming le->AP,gh->Ad,gt->Aj
open Option renaming none->AQ
open Go.Proofs.Tryz.Run renaming bsl->Aa,DiR->Ac,dsl->Ae,VaR->Af
set_option linter.unusedSimpArgs false
set_option linter.unusedVariables false
set_option maxHeartbeats 0
set_option maxRecDepth 100000
namespace Go.Proofs.Tryz.Run
open Go Go.Vf Go.Proofs
open Go.Proofs.YtbglklaocjifhaaGreat
def arB (q:Nat)(av:Nat->Int)(an:Nat->Nat)(ak:Nat->Nat->Int):a0f:= .arr 2 q fun j=>[.int .i64 (.v (av j)),.sl 1 (an j) fun k=>[.int .i64 (.v (ak j k))]]
def h6i (ns no:Nat)(sz od:Nat->Int):Prop:=h4e ns no sz od≠0\/prod sz ns<=36
def h6e (d:Ac):Prop:=(d.ns<=8/\d.no<=8/\d.ne<=62/\d.nn<=70)/\(∀i,i<d.nn->d.nk i<=12)/\h6i d.ns d.no d.sz d.od
theorem h6e.fit {d:Ac}(h:h6e d)(hw:d.wf):d.fit:=⟨by have:=h.1;omega,by have:=h.1;omega,by have:=h.1;omega,by have:=h.1;omega,fun i hi=>by have:=h.2.1 i hi;omega,hw.1,hw.2.1⟩
theorem h5x {ns no:Nat}(hs:ns<=8)(ho:no<=8)(sz od:Nat->Int): ∃er q:Int,a0j AB AH 39 [isl ns sz,isl no od] (int er)/\(er=0->a0j AB AH 72 [isl ns sz] (int q))/\(h6i ns no sz od↔er≠0\/q<=36):=by
 refine⟨h4e ns no sz od,min 3000 (prod sz ns),h4p (by omega) (by omega) sz od _ rfl,fun h=> ?_,?_⟩
 ·obtain⟨_,k2,_⟩:=h4s h;exact i4b (by omega) sz k2 _ rfl
 ·unfold h6i;exact or_congr Iff.rfl (by omega)
theorem h8s (d:Ac)(r:Bool)(hr:r=AH↔h6e d):a0j AB AH 50 [d.av] (bool r):=by
 obtain⟨FT,hFT⟩: ∃FT,h6i d.ns d.no d.sz d.od=FT:=⟨_,rfl⟩;have hq:d.ns<=8->d.no<=8-> ∃er q:Int,a0j AB AH 39 [isl d.ns d.sz,isl d.no d.od] (int er)/\(er=0->a0j AB AH 72 [isl d.ns d.sz] (int q))/\(FT↔er≠0\/q<=36):=fun h1 h2=>hFT▸h5x h1 h2 d.sz d.od;unfold h6e at hr;rw[hFT] at hr;clear hFT;obtain⟨ns,sz,no,od,ne,en,nn,var,nk,kid,root⟩:=d;simp only at hr hq;refine a1e (a0k AD okP i9m _ rfl fun E Sg hb hS=> ?_);have e:=b2k hS;cbv;split
 ·rename_i h;have h:8<ns:=d3r hS h;cbv;exact e8z hr fun h'=>by have:=h'.1;omega
 rename_i h;have h1:ns<=8:=d3c hS h;cbv;split
 ·rename_i h;have h:8<no:=d3r hS h;cbv;exact e8z hr fun h'=>by have:=h'.1;omega
 rename_i h;have h2:no<=8:=d3c hS h;cbv;split
 ·rename_i h;have h:62<ne:=d3r hS h;cbv;exact e8z hr fun h'=>by have:=h'.1;omega
 rename_i h;have h3:ne<=62:=d3c hS h;cbv;split
 ·rename_i h;have h:70<nn:=d3r hS h;cbv;exact e8z hr fun h'=>by have:=h'.1;omega
 rename_i h;have h4:nn<=70:=d3c hS h;obtain⟨er,q,q1,q2,q3⟩:=hq h1 h2;clear hq;cbv;refine a7r AD okP hS (fun i=>i<=nn/\ ∀j,j<i->nk j<=12) (fun i=>nn-i)
  (fun i=>⟨b5r [(1,.ptr 0 0),(3,int i)] 53,[.var [isl ns sz,isl no od,vsl ne en,Aa nn var nk kid,int root]],[]⟩) 0 ⟨by omega,by omega⟩ ?_ ?_
 ·exact a4c rfl ⟨AA _,a6c rfl,trivial⟩ (.cons (.refl _) (.nil _)) (by simp;omega) (.inr rfl) rfl
 ·intro i hi N hN;cbv;split
  ·rename_i h;have hlt:i<nn:=d3r hS h;cbv;simp only[nat,e.toNat,AC,AE];refine a1g hS (a5p hS hlt) ?_;split
   ·rename_i h;have h:12<nk i:=d3r hS h;cbv;exact e8z hr fun h'=>by have:=h'.2.1 i hlt;omega
   ·rename_i h;have hk:nk i<=12:=d3c hS h;cbv;refine a1g hS (e1n hS (by omega)) ?_;refine hN (i+1) _ ⟨by omega,fun j hj=> ?_⟩ (by omega) (a4c rfl ⟨AA _,b2s hS,trivial⟩ (.cons (.refl _) (.nil _)) (by simp;omega) (.inr rfl) rfl);by_cases e:j=i
    ·subst e;exact hk
    ·exact hi.2 j (by omega)
  ·rename_i h;have hin:nn<=i:=d3c hS h;have hall: ∀j,j<nn->nk j<=12:=fun j hj=>hi.2 j (by omega);cbv;refine a0v hS _ q1 ?_;cbv;by_cases h0:er=0
   ·subst h0;simp only[e.ieq,e.bnot];cbv;refine a0v hS _ (q2 rfl) ?_;cbv;refine a0s ?_;simp only[e.ile];rw[AS,hr,decide_eq_true_iff];refine⟨fun h=>⟨⟨h1,h2,h3,h4⟩,hall,q3.2 (.inr h)⟩,fun h=> ?_⟩;rcases q3.1 h.2.2 with h|h
    ·exact absurd rfl h
    ·exact h
   ·have hb0:(er==AM 0)=AF:=beq_false_of_ne h0;simp only[e.ieq,e.bnot,hb0];cbv;exact h8e hr ⟨⟨h1,h2,h3,h4⟩,hall,q3.2 (.inl h0)⟩
structure CaR where
 ns:Nat
 sz:Nat->Int
 no:Nat
 od:Nat->Int
 nl:Nat
 lk:Nat->Ac
 inn:Ac
 goal:Ac
def DiR.cs (d:Ac):List AV:=[isl d.ns d.sz,isl d.no d.od,vsl d.ne d.en,Aa d.nn d.var d.nk d.kid,int d.root]
def CaR.av (c:CaR):AV:= .agg ([isl c.ns c.sz,isl c.no c.od,Ae c.nl c.lk]++c.inn.cs++c.goal.cs)
def h6v (c:CaR):Prop:=(c.ns<=8/\c.no<=8/\c.nl<=6)/\h6e c.inn/\h6e c.goal/\(∀i,i<c.nl->h6e (c.lk i))/\h6i c.ns c.no c.sz c.od
theorem i3u (c:CaR)(r:Bool)(hr:r=AH↔h6v c):a0j AB AH 18 [c.av] (bool r):=by
 obtain⟨FT,hFT⟩: ∃FT,h6i c.ns c.no c.sz c.od=FT:=⟨_,rfl⟩;have hq:c.ns<=8->c.no<=8-> ∃er q:Int,a0j AB AH 39 [isl c.ns c.sz,isl c.no c.od] (int er)/\(er=0->a0j AB AH 72 [isl c.ns c.sz] (int q))/\(FT↔er≠0\/q<=36):=fun h1 h2=>hFT▸h5x h1 h2 c.sz c.od;obtain⟨zi,hzi⟩: ∃z:Bool,z=AH↔h6e c.inn:=by classical exact⟨decide _,decide_eq_true_iff⟩
 obtain⟨zg,hzg⟩: ∃z:Bool,z=AH↔h6e c.goal:=by classical exact⟨decide _,decide_eq_true_iff⟩
 obtain⟨zl,hzl⟩: ∃z:Nat->Bool,∀i,z i=AH↔h6e (c.lk i):=by classical exact⟨fun i=>decide _,fun i=>decide_eq_true_iff⟩
 have g1:a0j AB AH 50 [.agg c.inn.cs] (bool zi):=h8s c.inn zi hzi;have g2:a0j AB AH 50 [.agg c.goal.cs] (bool zg):=h8s c.goal zg hzg;have g3: ∀i,a0j AB AH 50 [(c.lk i).av] (bool (zl i)):=fun i=>h8s (c.lk i) (zl i) (hzl i);unfold h6v at hr;rw[hFT,<-hzi,<-hzg] at hr;simp only[<-hzl] at hr;clear hFT hzi hzg hzl;obtain⟨ns,sz,no,od,nl,lk,⟨ins,isz,ino,iod,ine,ien,inn,ivar,ink,ikid,iroot⟩,⟨gns,gsz,gno,god,gne,gen,gnn,gvar,gnk,gkid,groot⟩⟩:=c;simp only[CaR.av,DiR.cs,AN,AO] at*
 refine a1e (a0k AD okP i8n _ rfl fun E Sg hb hS=> ?_);have e:=b2k hS;cbv;split
 ·rename_i h;have h:8<ns:=d3r hS h;cbv;exact e8z hr fun h'=>by have:=h'.1;omega
 rename_i h;have h1:ns<=8:=d3c hS h;cbv;split
 ·rename_i h;have h:8<no:=d3r hS h;cbv;exact e8z hr fun h'=>by have:=h'.1;omega
 rename_i h;have h2:no<=8:=d3c hS h;obtain⟨er,q,q1,q2,q3⟩:=hq h1 h2;clear hq;cbv;split
 ·rename_i h;have h:6<nl:=d3r hS h;cbv;exact e8z hr fun h'=>by have:=h'.1;omega
 rename_i h;have h3:nl<=6:=d3c hS h;cbv;refine a0v hS _ g1 ?_;cases zi
 ·cbv;exact e8z hr fun h'=>AU h'.2.1
 cbv;refine a0v hS _ g2 ?_;cases zg
 ·cbv;exact e8z hr fun h'=>AU h'.2.2.1
 cbv;refine a7r AD okP hS (fun i=>i<=nl/\ ∀j,j<i->zl j=AH) (fun i=>nl-i)
  (fun i=>⟨b5r [(1,.ptr 0 0),(3,int i)] 58,[.var [isl ns sz,isl no od,Ae nl lk,isl ins isz,isl ino iod,vsl ine ien,Aa inn ivar ink ikid,int iroot,isl gns gsz,isl gno god,vsl gne gen,Aa gnn gvar gnk gkid,int groot]],[]⟩) 0 ⟨by omega,by omega⟩ ?_ ?_
 ·exact a4c rfl ⟨AA _,a6c rfl,trivial⟩ (.cons (.refl _) (.nil _)) (by simp;omega) (.inr rfl) rfl
 ·intro i hi N hN;cbv;split
  ·rename_i h;have hlt:i<nl:=d3r hS h;cbv;simp only[nat,e.toNat,AC,AE];refine a1g hS (a5p hS hlt) ?_;refine a0v hS (bool (zl i)) (g3 i) ?_;cases hz:zl i
   ·cbv;exact e8z hr fun h'=>by have:=h'.2.2.2.1 i hlt;rw[hz] at this;cases this
   ·cbv;refine a1g hS (e1n hS (by omega)) ?_;refine hN (i+1) _ ⟨by omega,fun j hj=> ?_⟩ (by omega) (a4c rfl ⟨AA _,b2s hS,trivial⟩ (.cons (.refl _) (.nil _)) (by simp;omega) (.inr rfl) rfl);by_cases e:j=i
    ·subst e;exact hz
    ·exact hi.2 j (by omega)
  ·rename_i h;have hin:nl<=i:=d3c hS h;have hall: ∀j,j<nl->zl j=AH:=fun j hj=>hi.2 j (by omega);cbv;refine a0v hS _ q1 ?_;cbv;by_cases h0:er=0
   ·subst h0;simp only[e.ieq,e.bnot];cbv;refine a0v hS _ (q2 rfl) ?_;cbv;refine a0s ?_;simp only[e.ile];rw[AS,hr,decide_eq_true_iff];refine⟨fun h=>⟨⟨h1,h2,h3⟩,rfl,rfl,hall,q3.2 (.inr h)⟩,fun h=> ?_⟩;rcases q3.1 h.2.2.2.2 with h|h
    ·exact absurd rfl h
    ·exact h
   ·have hb0:(er==AM 0)=AF:=beq_false_of_ne h0;simp only[e.ieq,e.bnot,hb0];cbv;exact h8e hr ⟨⟨h1,h2,h3⟩,rfl,rfl,hall,q3.2 (.inl h0)⟩
theorem i4n {n:Nat}(hn:n<=1000000)(g:Nat->Int)(res:AV)(hres:res=isl n g):a0j AB AF 74 [isl n g] res:=by
 refine a0k AD okP g4b _ rfl fun E Sg hb hS=> ?_;cases n with
 |zero=>cbv;subst hres;exact a0x.nil0
 |succ n=>cbv;refine a1g hS (e8l hS (show _<=1073741824 by omega)) (a1g hS (e8l hS (AI _)) ?_);subst hres;exact AA _
theorem h7c {n:Nat}(hn:n<=1000000)(g:Nat->Int):a0j AB AF 74 [isl n g] (isl n g):=i4n hn g _ rfl
theorem h8i (d:Ac)(hd:d.fit):a0j AB AF 70 [d.av] d.av:=by
 have q1:=h7c hd.ns d.sz;have q2:=h7c hd.no d.od;have q4:=fun i hi=>h7c (hd.nk i hi) (d.kid i);have h1:=hd.ne;have h2:=hd.nn;clear hd;obtain⟨ns,sz,no,od,ne,en,nn,var,nk,kid,root⟩:=d;simp only at q1 q2 q4 h1 h2;refine a0k AD okP h1m _ rfl fun E Sg hb hS=> ?_;have e:=b2k hS;cbv;refine a0v hS _ q1 ?_;cbv;refine a0v hS _ q2 ?_;cbv;refine a1g hS (e8l hS (show ne<=1073741824 by omega)) ?_;refine e4p AD okP hS (fun i=>i<=nn) (fun i=>nn-i)
  (fun i=>⟨b5r [(1,.ptr 0 0),(2,.ptr 1 0),(3,.ptr 2 0),(4,int i)] 44,[.var [isl ns sz,isl no od,vsl ne en,Aa nn var nk kid,int root],.var [.d .nil,.d .nil,.d .nil,.d .nil,int 0],.var [isl ns sz,isl no od,vsl ne en,.msl 3 2 AQ i AF,int root],arB i var nk kid],[3]⟩)
  0 (by omega) ?_ ?_
 ·exact (Ad 2 3 2 (fun _=>[]) rfl rfl).trans (AP (a4c rfl ⟨AA _,AA _,AA _,a6c rfl,trivial⟩
   (.cons (.refl _) (.cons (.var (.cons (AA _) (.cons (AA _) (.cons (AA _) (.cons (AA _) (.cons (a6c rfl) .nil)))))) (.cons (.refl _) (.cons (AG rfl fun j hj=>by omega) (.nil _))))) (by simp;omega) (.inr rfl) rfl))
 ·intro i hi N hN;cbv;split
  ·rename_i h;have hlt:i<nn:=d3r hS h;cbv;simp only[nat,e.toNat,AC,AE];refine a1g hS (a5p hS hlt) (a1g hS (a5p hS hlt) ?_);refine a0v hS _ (q4 i hlt) ?_;cbv;refine a1g hS (c3d hS) (a1g hS trivial (a1g hS (f1i hS (by omega)) (a1g hS (e1n hS (by omega)) ?_)));refine hN (i+1) _ hlt (by omega) (AP (a4c rfl ⟨AA _,AA _,AA _,b2s hS,trivial⟩
    (.cons (.refl _) (.cons (.refl _) (.cons (.var (.cons (AA _) (.cons (AA _) (.cons (AA _) (.cons (d8n hS) (.cons (AA _) .nil)))))) (.cons (d7h hS (fun j hj=> .refl _) (.refl _)) (.nil _))))) (by simp;omega) (.inr rfl) rfl))
  ·rename_i h;have hin:i=nn:=by have:=d3c hS h;omega
   cbv;refine a1g hS (e8l hS (AI _)) ?_;subst hin;exact AA _
theorem h9z (n:Nat)(hn:n<=1000000)(l:Nat->Ac)(hl: ∀i,i<n->(l i).fit):a0j AB AF 75 [Ae n l] (Ae n l):=by
 have q:=fun i hi=>h8i (l i) (hl i hi);refine a0k AD okP h3k _ rfl fun E Sg hb hS=> ?_;have e:=b2k hS;cbv;refine e4p AD okP hS (fun i=>i<=n) (fun i=>n-i)
  (fun i=>⟨b5r [(0,Ae n l),(3,.msl 0 5 AQ i AF),(4,int i)] 20,[.arr 5 i fun j=>(l j).row],[0]⟩) 0 (by omega) ?_ ?_
 ·exact (Aj 3 5 (fun _=>[]) rfl).trans (AP (a4c rfl ⟨AA _,AA _,a6c rfl,trivial⟩
   (.cons (AG rfl fun j hj=>by omega) (.nil _)) (by simp;omega) (.inr rfl) rfl))
 ·intro i hi N hN;cbv;split
  ·rename_i h;have hlt:i<n:=d3r hS h;cbv;simp only[nat,e.toNat,AC,AE];refine a1g hS (a5p hS hlt) ?_;refine a0v hS _ (q i hlt) ?_;cbv;refine a1g hS trivial (a1g hS (f1i hS (by omega)) (a1g hS (e1n hS (by omega)) ?_));exact hN (i+1) _ hlt (by omega) (AP (a4c rfl ⟨AA _,d8n hS,b2s hS,trivial⟩
    (.cons (d7h hS (fun j hj=> .refl _) (.refl _)) (.nil _)) (by simp;omega) (.inr rfl) rfl))
  ·rename_i h;have hin:i=n:=by have:=d3c hS h;omega
   cbv;refine a1g hS (e8l hS (AI _)) ?_;subst hin;exact AA _
theorem a1i.bd {v:Af}(h:a1i v)(h0:0<=v.fault):(0<=v.fault/\v.fault<=255)/\c5t v.n:=by unfold a1i at h;unfold c5t;split at h<;>omega
structure i6l (d:Ac):Prop where
 fr:h4e d.ns d.no d.sz d.od=0
 nn:d.nn<=6000
 loose:h3x d
 dia:h5e d
theorem i0u {d:Ac}(h:h5o d=0):i6l d:=by obtain⟨h1,h2⟩:=h6x h;obtain⟨h3,h4,h5⟩:=h4q h1;exact⟨h3,h4,h5,h2⟩
def j5f (sz g:Nat->Int):Nat->Int
 |0=>0
 |i+1=>j5f sz g i*sz i+g i
theorem h7t {sz:Nat->Int}{n:Nat}(hs: ∀i,i<n->1<=sz i): ∀m,m<=n->prod sz m<=prod sz n:=fun m hm=>by
 induction n with
 |zero=>rw[show m=0 by omega];exact Ai _
 |succ n ih=>
  by_cases e:m=n+1
  ·rw[e];exact Ai _
  ·have h1:=ih (fun i hi=>hs i (by omega)) (by omega);have h2:=h4r (g:=sz) (n:=n) fun i hi=>hs i (by omega);have h3:=hs n (by omega);rw[prod];refine Int.le_trans h1 ?_;have:=Int.mul_le_mul_of_nonneg_left h3 (show 0<=prod sz n by omega);omega
theorem j5b {sz g:Nat->Int}{n:Nat}(hg: ∀i,i<n->0<=g i/\g i<sz i): ∀m,m<=n->0<=j5f sz g m/\j5f sz g m<prod sz m
 |0,_=>by simp[j5f,prod]
 |m+1,h=>by have ih:=j5b hg m (by omega);have hm:=hg m (by omega);rw[j5f,prod];have h1:0<=j5f sz g m*sz m:=AZ ih.1 (by omega);have h2:(j5f sz g m+1)*sz m<=prod sz m*sz m:=AW (by omega) (by omega);rw[Int.add_mul,Int.one_mul] at h2;omega
theorem j4x {ns:Nat}(hns:ns<=1000000)(sz g:Nat->Int)(hs: ∀i,i<ns->1<=sz i/\sz i<=12)(hp:prod sz ns<=2000)(hg: ∀i,i<ns->0<=g i/\g i<sz i)(r:Int)(hr:j5f sz g ns=r):a0j AB AH 45 [isl ns sz,isl ns g] (int r):=by
 have hb:=j5b hg;have hpm:=h7t (sz:=sz) (n:=ns) fun i hi=>(hs i hi).1;obtain⟨N0,hN0,hN1,hN2⟩: ∃N:Nat->Int,N 0=0/\(∀i,N (i+1)=N i*sz i+g i)/\ ∀i,j5f sz g i=N i:=⟨j5f sz g,rfl,fun _=>rfl,fun _=>rfl⟩;simp only[hN2] at hb hr;have hbb: ∀i,i<=ns->0<=N0 i/\N0 i<2000:=fun i hi=>⟨(hb i hi).1,by have:=(hb i hi).2;have:=hpm i hi;omega⟩;clear hb hpm hN2;refine a4e (a0k AD okP h0c _ rfl fun E Sg hbs hS=> ?_);have e:=b2k hS;cbv;refine a7r AD okP hS (fun i=>i<=ns) (fun i=>ns-i)
  (fun i=>⟨b5r [(0,isl ns sz),(1,isl ns g),(5,int (N0 i)),(6,int i)] 25,[],[]⟩) 0 (by omega) ?_ ?_
 ·exact a4c rfl ⟨AA _,AA _,a6c hN0.symm,a6c rfl,trivial⟩ (.nil _) (by omega) (.inr rfl) rfl
 ·intro i hi N hN;have h1:=hbb i hi;cbv;split
  ·rename_i h;have hlt:i<ns:=d3r hS h;have h2:=hbb (i+1) hlt;have h3:=hs i hlt;have h4:=hg i hlt;have h5:=hN1 i;have h6:0<=N0 i*sz i:=AZ h1.1 (by omega);have h7:N0 i*sz i<=2000*sz i:=AW (by omega) (by omega);cbv;simp only[nat,e.toNat,e.imul,AC,AE];refine a1g hS (a5p hS hlt) (a1g hS (a5p hS hlt) (a1g hS (e7p hS (by omega)) (a1g hS (a4p hS (by omega)) (a1g hS (e1n hS (by omega)) ?_))));exact hN (i+1) _ hlt (by omega) (a4c rfl ⟨AA _,AA _,b0a (by simp only[e.iadd];exact h5.symm),b2s hS,trivial⟩ (.nil _) (by omega) (.inr rfl) rfl)
  ·rename_i h;have hin:i=ns:=by have:=d3c hS h;omega
   subst hin;cbv;exact b0a hr
theorem i7u {x:Int}{i:Nat}(h:x<i):(x+1).toNat<((i:Int)+1).toNat:=by omega
theorem i5h {d:Ac}(hl:h3x d){pl:Nat->Int}(hp:i3i d pl): ∀k:Int,h4k d.ne k d.nn->wayE d pl k<0/\ -1-wayE d pl k<d.ne:=by
 have: ∀(m:Nat) (k:Int),k<m->h4k d.ne k d.nn->wayE d pl k<0/\ -1-wayE d pl k<d.ne:=by
  intro m
  induction m with
  |zero=>intro k hm hr;rw[h4c (by omega)];exact⟨by omega,hr.2 (by omega)⟩
  |succ m ih=>
   intro k hm hr;by_cases h0:k<0
   ·rw[h4c h0];exact⟨h0,hr.2 h0⟩
   ·obtain⟨i,rfl⟩: ∃i:Nat,k=i:=⟨k.toNat,by omega⟩;have hi:i<d.nn:=by have:=hr.1 (by omega);omega
    rw[h4x hl hp hi];have h1:=(h5q hl hp hi).2.2;refine ih _ ?_ ⟨fun h=>by have:=h1.1 h;omega,h1.2⟩;rcases Ag (d.kid i (pl (d.var i).toNat).toNat) 0 with h|h
    ·omega
    ·have:=h1.1 h;omega
 intro k hr;exact this (k.toNat+1) k (by omega) hr
theorem i6q (d:Ac)(hl:h3x d)(hf:d.fit)(pl:Nat->Int)(hp:i3i d pl)(cf cn:Int)(hc:d.en (-1-wayE d pl d.root).toNat=⟨cf,cn⟩):a0j AB AF 94 [d.av,isl d.ns pl] (.agg [u8 cf,int cn]):=by
 have hro:=h4g hl.2.2;have hnx:=fun k hk=>h5q hl hp (k:=k) hk;have hst:=fun i hi=>h4x hl hp (i:=i) hi;have hw:=i5h hl hp d.root hro;have hne:=hf.ne;obtain⟨W,hW⟩: ∃W,W=wayE d pl d.root:=⟨_,rfl⟩;rw[<-hW] at hw hc;have hw3: -1-W<=1000000:=by have:=AK.2 hne;omega
 have hlast: ∀k:Int,k<0->wayE d pl k=W->k=W:=fun k h e=>by rw[h4c h] at e;exact e
 obtain⟨Y,hY⟩: ∃Y:Int->Int,∀k,wayE d pl k=Y k:=⟨_,fun _=>rfl⟩;simp only[hY] at hst hlast hW;clear hY hl hp hf;obtain⟨ns,sz,no,od,ne,en,nn,var,nk,kid,root⟩:=d;simp only at hnx hst hW hro hc hw hne;refine a0k AD okP i9e _ rfl fun E Sg hb hS=> ?_;have e:=b2k hS;cbv;refine a7r AD okP hS (σ:=Int) (fun k=>h4k ne k nn/\Y k=W) (fun k=>(k+1).toNat)
  (fun k=>⟨b5r [(1,isl ns pl),(2,.ptr 0 0),(4,.ptr 1 0),(5,int k)] 33,[.var [isl ns sz,isl no od,vsl ne en,Aa nn var nk kid,int root],.var [u8 0,int 0]],[]⟩) root ⟨hro,hW.symm⟩ ?_ ?_
 ·exact a4c rfl ⟨AA _,AA _,AA _,AA _,trivial⟩ (.cons (.refl _) (.cons (.var (.cons (a6c rfl) (.cons (a6c rfl) .nil))) (.nil _))) (by simp;omega) (.inr rfl) rfl
 ·rintro k ⟨hk1,hk2⟩ N hN;cbv;split
  ·rename_i h;have h0:0<=k:=e3n hS h;cbv;obtain⟨i,rfl⟩: ∃i:Nat,k=i:=⟨k.toNat,(Int.toNat_of_nonneg h0).symm⟩;have hi:i<nn:=AJ.1 (hk1.1 (AT i));obtain⟨n1,n2,n3⟩:=hnx i hi;simp only[nat,e.toNat,AC,AE];refine a1g hS (a5p hS hi) (a1g hS (a5p hS hi) (a1g hS (i2b hS n1) (a1g hS (i2b hS n2) ?_)));refine hN (kid i (pl (var i).toNat).toNat) _ ⟨⟨fun h=>Int.lt_trans (n3.1 h) (AJ.2 hi),n3.2⟩,by rw[<-hst i hi];exact hk2⟩ ?_ (a4c rfl ⟨AA _,AA _,AA _,AA _,trivial⟩ (.cons (.refl _) (.cons (.refl _) (.nil _))) (by simp;omega) (.inr rfl) rfl);refine i7u ?_;rcases Ag (kid i (pl (var i).toNat).toNat) 0 with h|h
   ·exact Int.lt_of_lt_of_le h (AT i)
   ·exact n3.1 h
  ·rename_i h;have h0:k<0:=e3g hS h;cbv;have hkW:=hlast k h0 hk2;subst hkW;have hneg:(Int.negSucc 0-k).toNat=(-1-k).toNat:=rfl;simp only[nat,e.toNat,e.isub,hneg,hc];refine a1g hS (e7p hS (show-9223372036854775808<= -1-k/\ -1-k<=9223372036854775807 by omega)) (a1g hS (i2b hS (show 0<= -1-k/\ -1-k<(ne:Int) from⟨by omega,hw.2⟩)) ?_);exact AA _
theorem i3z {a b c:Int}(ha:0<=a)(hb:0<b)(hc:0<=c/\c<b):(a*b+c).tmod b=c/\(a*b+c).tdiv b=a:=by
 have h0:0<=a*b+c:=by have:=AZ ha (Int.le_of_lt hb);omega
 rw[Int.tmod_eq_emod_of_nonneg h0,Int.tdiv_eq_ediv_of_nonneg h0];constructor
 ·rw[Ah,Int.add_mul_emod_self_right];exact Int.emod_eq_of_lt hc.1 hc.2
 ·rw[Ah,Int.add_mul_ediv_right _ _ (by omega),Int.ediv_eq_zero_of_lt hc.1 hc.2];omega
theorem i2g {ns:Nat}(hns:ns<=1000000)(sz g:Nat->Int)(hs: ∀i,i<ns->1<=sz i/\sz i<=12)(hp:prod sz ns<=2000)(hg:i2j sz g ns)(n:Int)(hn:h4w sz g ns=n):a0j AB AF 34 [isl ns sz,int n] (isl ns g):=by
 obtain⟨V,hV⟩: ∃V:Nat->Int,∀i,h4w sz g i=V i:=⟨_,fun _=>rfl⟩;have hV1: ∀i,V (i+1)=V i*sz i+g i:=fun i=>by rw[<-hV,<-hV];rfl
 have hV0: ∀i,i<=ns->0<=V i/\V i<=2000:=fun i hi=>by have h1:=h5c (sz:=sz) (pl:=g) (n:=i) fun j hj=>hg j (by omega);have h2:=h7t (sz:=sz) (n:=ns) (fun i hi=>(hs i hi).1) i hi;rw[<-hV];omega
 rw[hV] at hn;obtain⟨K,hK⟩: ∃K:Nat->Int,∀p,K p=(ns:Int)-1-p:=⟨_,fun _=>rfl⟩;obtain⟨J,hJ⟩: ∃J:Nat->Nat,∀p,J p=ns-1-p:=⟨_,fun _=>rfl⟩;have hK1: ∀p,p<ns->K p=J p:=fun p hp=>by rw[hK,hJ];omega
 have hKp: ∀p,p<=ns->0<=K p->p<ns:=fun p hp h=>by rw[hK] at h;omega
 have hKn: ∀p,p<=ns->K p<0->p=ns:=fun p hp h=>by rw[hK] at h;omega
 have hK2: ∀p,K (p+1)=K p-1:=fun p=>by rw[hK,hK];omega
 have hK0:K 0=(ns:Int)-1:=by rw[hK];omega
 obtain⟨B,hB⟩: ∃B:Nat->Nat->Int,∀p i,B p i=if ns-p<=i then g i else 0:=⟨_,fun _ _=>rfl⟩;obtain⟨M,hM⟩: ∃M:Nat->Int,∀p,M p=V (ns-p):=⟨_,fun _=>rfl⟩;have hM0:M 0=n:=by rw[hM,Ab,hn]
 have hM1: ∀p,p<ns->(M p).tmod (sz (J p))=g (J p)/\(M p).tdiv (sz (J p))=M (p+1)/\0<sz (J p)/\0<=M (p+1)/\M (p+1)<=2000:=fun p hp=>by
  have h1:ns-p=J p+1:=by rw[hJ];omega
  have h2:ns-(p+1)=J p:=by rw[hJ];omega
  have hjn:J p<ns:=by rw[hJ];omega
  have h3:=hV0 (J p) (by omega);have h4:=hs (J p) hjn;obtain⟨h5,h6⟩:=i3z h3.1 (show 0<sz (J p) by omega) (hg (J p) hjn);rw[hM,hM,h1,h2,hV1];exact⟨h5,h6,by omega,h3⟩
 refine a0k AD okP i8y _ rfl fun E Sg hb hS=> ?_;have e:=b2k hS;cbv;simp only[e.ofNat,e.toNat,AE];refine a1g hS (i0n hS (AT _)) (a1g hS (i0n hS (AK.2 (show ns<=1073741824 by omega))) (a1g hS (a9o hS (show-9223372036854775808<=(ns:Int)-1/\(ns:Int)-1<=9223372036854775807 by omega)) ?_));refine a7r AD okP hS (fun p=>p<=ns) (fun p=>ns-p)
  (fun p=>⟨b5r [(0,isl ns sz),(1,int (M p)),(5,.msl 0 1 AQ ns AF),(6,int (K p))] 33,[arrI ns (B p)],[]⟩) 0 (by omega) ?_ ?_
 ·refine a4c rfl ⟨AA _,b0a hM0.symm,AA _,b0a (by simp only[e.isub,hK0];rfl),trivial⟩ (.cons (h8m hS fun j hj=>by rw[hB,if_neg (by omega)];exact .one (.int rfl)) (.nil _)) (by simp;omega) (.inr rfl) rfl
 ·intro p hp N hN;cbv;split
  ·rename_i h;have hlt:p<ns:=hKp p hp (e3n hS h);have hj:=hK1 p hlt;have hjn:J p<ns:=by rw[hJ];omega
   obtain⟨m1,m2,m3,m4,m5⟩:=hM1 p hlt;cbv;simp only[nat,e.toNat,e.irem,e.iquo,hj,AE,m1,m2];refine a1g hS (a5p hS hjn) (a1g hS (i6p hS (by omega)) (a1g hS (a5p hS hjn) (a1g hS (i2h hS hjn) (a1g hS (a5p hS hjn) (a1g hS (i6p hS (by omega)) (a1g hS (e7p hS (by omega)) (a1g hS (a9o hS (show-9223372036854775808<=(J p:Int)-1/\(J p:Int)-1<=9223372036854775807 by omega)) ?_)))))));refine hN (p+1) _ hlt (by omega) (a4c rfl ⟨AA _,AA _,AA _,b0a (by simp only[e.isub,hK2,hj];rfl),trivial⟩ (.cons (h8j hS ?_ ?_) (.nil _)) (by simp;omega) (.inr rfl) rfl)
   ·intro j hj2 hne;rw[hJ] at hne;rw[hB,hB];by_cases h:ns-p<=j
    ·rw[if_pos h,if_pos (by omega)];exact .refl _
    ·rw[if_neg h,if_neg (by omega)];exact .refl _
   ·intro _;rw[hB,if_pos (by rw[hJ];omega)];exact .refl _
  ·rename_i h;have hpn:p=ns:=hKn p hp (e3g hS h);cbv;refine a1g hS (e8l hS (AI _)) ?_;exact a0x.isl rfl fun i hi=>by rw[hB,if_pos (by omega)]
theorem i6a (d:Ac)(hd:i6l d)(hf:d.fit){T:Nat}(hT:(T:Int)=prod d.sz d.ns):a0j AB AF 54 [d.av] (vsl T d.cell):=by
 obtain⟨h1,h2,h3,h4,_⟩:=h4s hd.fr;have hle:h3z d=0:=by unfold h3z;rw[hd.fr];simp[hd.loose,show¬6000<d.nn by have:=hd.nn;omega]
 have h84:=h5v d hf 0 hle;have hT2:T<=2000:=AK.1 (by rw[<-hT] at h3;exact h3);have h52:=i4b (n:=d.ns) (by omega) d.sz h2 (T:Int) (by rw[hT];omega);have hpl: ∀p,p<T->i2j d.sz (h5j d.sz d.ns p) d.ns/\h4w d.sz (h5j d.sz d.ns p) d.ns=p:=fun p hp=>h5s (fun j hj=>(h2 j hj).1) p (by rw[<-hT];exact AJ.2 hp);have h111:=fun p hp=>i2g (ns:=d.ns) (by omega) d.sz (h5j d.sz d.ns p) h2 h3 (hpl p hp).1 (p:Int) (hpl p hp).2;have h110:=fun p (hp:p<T)=>i6q d hd.loose hf (h5j d.sz d.ns p) (hpl p hp).1 (d.cell p).fault (d.cell p).n rfl;clear hpl h1 h2 h3 h4 hle hd hf hT;obtain⟨Q,hQ⟩: ∃Q:Nat->Nat->Int,∀p,h5j d.sz d.ns p=Q p:=⟨_,fun _=>rfl⟩;simp only[hQ] at h111 h110;clear hQ;obtain⟨cell,hcell⟩: ∃cell,d.cell=cell:=⟨_,rfl⟩;rw[hcell] at h110⊢;clear hcell;obtain⟨ns,sz,no,od,ne,en,nn,var,nk,kid,root⟩:=d;simp only at h84 h52 h111 h110;refine a0k AD okP i9p _ rfl fun E Sg hb hS=> ?_;have e:=b2k hS;cbv;refine a0v hS _ h84 ?_;cbv;simp only[e.ieq,e.bnot];cbv;refine e4p AD okP hS (fun p=>p<=T) (fun p=>T-p)
  (fun p=>⟨b5r [(1,.ptr 0 0),(3,.msl 1 2 AQ p AF),(4,int p)] 25,[.var [isl ns sz,isl no od,vsl ne en,Aa nn var nk kid,int root],.arr 2 p fun i=>(cell i).row],[1]⟩) 0 (by omega) ?_ ?_
 ·exact (Aj 3 2 (fun _=>[]) rfl).trans (AP (a4c rfl ⟨AA _,AA _,a6c rfl,trivial⟩ (.cons (.refl _) (.cons (AG rfl fun j hj=>by omega) (.nil _))) (by simp;omega) (.inr rfl) rfl))
 ·intro p hp N hN;cbv;refine a0v hS _ h52 ?_;cbv;split
  ·rename_i h;have hlt:p<T:=AJ.1 (b3h hS h);cbv;refine a0v hS _ (h111 p hlt) ?_;cbv;refine a1g hS (c3d hS) ?_;refine a0v hS _ (h110 p hlt) ?_;cbv;refine a1g hS trivial (a1g hS (f1i hS (by omega)) (a1g hS (e1n hS (by omega)) ?_));exact hN (p+1) _ hlt (by omega) (AP (a4c rfl ⟨AA _,d8n hS,b2s hS,trivial⟩ (.cons (.refl _) (.cons (d7h hS (fun j hj=> .refl _) (.refl _)) (.nil _))) (by simp;omega) (.inr rfl) rfl))
  ·rename_i h;have hin:p=T:=by have:=AK.1 (b3r hS h);omega
   subst hin;cbv;refine a1g hS (e8l hS (AI _)) ?_;exact AA _
def CaR.dg (c:CaR)(i:Nat):Ac:=if i<c.nl then c.lk i else if i=c.nl then c.inn else c.goal
def i5k (n:Nat)(er:Nat->Int)(S:Nat->Prop)(r:Int):Prop:=
 (∃i,i<n/\(∀j,j<i->er j=0)/\er i≠0/\r=er i)\/((∀i,i<n->er i=0)/\((∀i,i<n->S i)/\r=0\/(¬ ∀i,i<n->S i)/\r=2))
theorem i3n (n:Nat)(er:Nat->Int):(∀i,i<n->er i=0)\/ ∃i,i<n/\(∀j,j<i->er j=0)/\er i≠0:=by
 induction n with
 |zero=>exact .inl (by omega)
 |succ m ih=>
  rcases ih with h1|⟨i,h1,h2,h3⟩
  ·by_cases he:er m=0
   ·refine .inl fun j hj=> ?_;by_cases e:j=m
    ·subst e;exact he
    ·exact h1 j (by omega)
   ·exact .inr ⟨m,by omega,h1,he⟩
  ·exact .inr ⟨i,by omega,h2,h3⟩
theorem i4g (n:Nat)(er:Nat->Int)(S:Nat->Prop): ∃r,i5k n er S r:=by
 rcases i3n n er with h|⟨i,h1,h2,h3⟩
 ·by_cases g: ∀i,i<n->S i
  ·exact⟨0,.inr ⟨h,.inl ⟨g,rfl⟩⟩⟩
  ·exact⟨2,.inr ⟨h,.inr ⟨g,rfl⟩⟩⟩
 ·exact⟨er i,.inl ⟨i,h1,h2,h3,rfl⟩⟩
theorem h9a {n:Nat}{er:Nat->Int}{S:Nat->Prop}{r:Int}(h:i5k n er S r){i:Nat}(hi:i<n)(h0: ∀j,j<i->er j=0)(he:er i≠0):r=er i:=by
 rcases h with⟨k,a,b,c,d⟩|⟨a,_⟩
 ·rcases Nat.lt_trichotomy i k with h|h|h
  ·exact absurd (b i h) he
  ·subst h;exact d
  ·exact absurd (h0 k h) c
 ·exact absurd (a i hi) he
theorem i1p {n:Nat}{er:Nat->Int}{S:Nat->Prop}{r:Int}(h:i5k n er S r)(h0: ∀j,j<n->er j=0):((∀i,i<n->S i)->r=0)/\((¬ ∀i,i<n->S i)->r=2):=by
 rcases h with⟨k,a,b,c,d⟩|⟨_,h⟩
 ·exact absurd (h0 k a) c
 ·rcases h with⟨a,b⟩|⟨a,b⟩
  ·exact⟨fun _=>b,fun h=>absurd a h⟩
  ·exact⟨fun h=>absurd h a,fun _=>b⟩
def CaR.same (c:CaR)(i:Nat):Prop:=L (c.dg i).ns (c.dg i).sz=L c.ns c.sz/\L (c.dg i).no (c.dg i).od=L c.no c.od
def h6t (c:CaR)(r:Int):Prop:=
 (h4e c.ns c.no c.sz c.od≠0/\r=h4e c.ns c.no c.sz c.od)\/(h4e c.ns c.no c.sz c.od=0/\(4<c.nl/\r=5\/c.nl<=4/\i5k (c.nl+2) (fun i=>h5o (c.dg i)) c.same r))
theorem i3o (c:CaR): ∃r,h6t c r:=by
 by_cases h:h4e c.ns c.no c.sz c.od=0
 ·by_cases h2:4<c.nl
  ·exact⟨5,.inr ⟨h,.inl ⟨h2,rfl⟩⟩⟩
  ·obtain⟨r,hr⟩:=i4g (c.nl+2) (fun i=>h5o (c.dg i)) c.same;exact⟨r,.inr ⟨h,.inr ⟨by omega,hr⟩⟩⟩
 ·exact⟨_,.inl ⟨h,rfl⟩⟩
structure CaR.fit (c:CaR):Prop where
 ns:c.ns<=8
 no:c.no<=8
 nl:c.nl<=6
 dg: ∀i,i<c.nl+2->(c.dg i).fit
 flt: ∀i,i<c.nl+2-> ∀j,j<(c.dg i).ne->0<=((c.dg i).en j).fault
 od: ∀i,i<c.nl+2->(c.dg i).no<=8
theorem CaR.dg_lk {c:CaR}{i:Nat}(h:i<c.nl):c.dg i=c.lk i:=if_pos h
theorem CaR.dg_in (c:CaR):c.dg c.nl=c.inn:=by simp[CaR.dg]
theorem CaR.dg_goal (c:CaR):c.dg (c.nl+1)=c.goal:=by unfold CaR.dg;rw[if_neg (by omega),if_neg (by omega)]
theorem CaR.rows (c:CaR): ∀j,j<c.nl+2->(if j<c.nl then (c.lk j).row else Vf.rowAt [c.inn.row,c.goal.row] (j-c.nl))=(c.dg j).row:=fun j hj=>by
 unfold CaR.dg;by_cases h:j<c.nl
 ·rw[if_pos h,if_pos h]
 ·rw[if_neg h,if_neg h];by_cases e:j=c.nl
  ·subst e;rw[if_pos rfl,Nat.sub_self];rfl
  ·rw[if_neg e,show j-c.nl=1 by omega];rfl
theorem i2f (c:CaR)(hc:c.fit)(r:Int)(hr:h6t c r):a0j AB AH 42 [c.av] (int r):=by
 have q1:=h4p (n:=c.ns) (m:=c.no) (by have:=hc.ns;omega) (by have:=hc.no;omega) c.sz c.od _ rfl;obtain⟨er,her⟩: ∃er:Nat->Int,∀i,h5o (c.dg i)=er i:=⟨_,fun _=>rfl⟩;have q2:=fun i hi=>i5e (c.dg i) (hc.dg i hi) (er i) (her i);obtain⟨z1,hz1⟩: ∃z:Nat->Bool,∀i,z i=AH↔L (c.dg i).ns (c.dg i).sz=L c.ns c.sz:=by classical exact⟨fun i=>decide _,fun i=>decide_eq_true_iff⟩
 obtain⟨z2,hz2⟩: ∃z:Nat->Bool,∀i,z i=AH↔L (c.dg i).no (c.dg i).od=L c.no c.od:=by classical exact⟨fun i=>decide _,fun i=>decide_eq_true_iff⟩
 have q3:=fun i (hi:i<c.nl+2)=>h7o (c.dg i).ns c.ns (c.dg i).sz c.sz (hc.dg i hi).ns (z1 i) (hz1 i);have q4:=fun i (hi:i<c.nl+2)=>h7o (c.dg i).no c.no (c.dg i).od c.od (hc.dg i hi).no (z2 i) (hz2 i);have hrow:=c.rows;have hnl:=hc.nl;unfold h6t CaR.same at hr;simp only[her,<-hz1,<-hz2] at hr;clear her hz1 hz2 hc;obtain⟨fe,hfe⟩: ∃fe,h4e c.ns c.no c.sz c.od=fe:=⟨_,rfl⟩;rw[hfe] at hr q1;clear hfe;obtain⟨D,hD⟩: ∃D:Nat->Ac,∀i,c.dg i=D i:=⟨_,fun _=>rfl⟩;obtain⟨m,hm⟩: ∃m,c.nl+2=m:=⟨_,rfl⟩;simp only[hD,hm] at q2 q3 q4 hrow hr;clear hD;obtain⟨ns,sz,no,od,nl,lk,⟨ins,isz,ino,iod,ine,ien,inn,ivar,ink,ikid,iroot⟩,⟨gns,gsz,gno,god,gne,gen,gnn,gvar,gnk,gkid,groot⟩⟩:=c;simp only[CaR.av,DiR.cs,AN,AO] at*
 refine a4e (a0k AD okP i6u _ rfl fun E Sg hb hS=> ?_);have e:=b2k hS;cbv;refine a0v hS _ q1 ?_;cbv;by_cases h0:fe=0
 rotate_left
 ·have hb0:(fe==AM 0)=AF:=beq_false_of_ne h0;simp only[e.ieq,e.bnot,hb0];cbv;rcases hr with⟨_,h⟩|⟨h,_⟩
  ·exact b0a h.symm
  ·exact absurd h h0
 subst h0;simp only[e.ieq,e.bnot];cbv;split
 ·rename_i h;have h:4<nl:=d3r hS h;cbv;rcases hr with⟨h',_⟩|⟨_,⟨_,h'⟩|⟨h',_⟩⟩
  ·exact absurd rfl h'
  ·exact a6c h'.symm
  ·omega
 rename_i h;have h4:nl<=4:=d3c hS h;have hr:i5k m er (fun i=>z1 i=AH/\z2 i=AH) r:=by
  rcases hr with⟨h',_⟩|⟨_,⟨h',_⟩|⟨_,h'⟩⟩
  ·exact absurd rfl h'
  ·omega
  ·exact h'
 cbv
 repeat (first|refine a1g hS (c3d hS) ?_|refine a1g hS trivial ?_|refine a1g hS (f1i hS (by first|omega|(simp only[e.nadd];omega))) ?_)
 refine a7r AD okP hS (fun i=>i<=m/\ ∀j,j<i->er j=0) (fun i=>m-i)
  (fun i=>⟨b5r [(1,.ptr 0 0),(4,.msl 1 5 AQ m AF),(5,int i)] 70,[.var [isl ns sz,isl no od,Ae nl lk,isl ins isz,isl ino iod,vsl ine ien,Aa inn ivar ink ikid,int iroot,isl gns gsz,isl gno god,vsl gne gen,Aa gnn gvar gnk gkid,int groot],.arr 5 m fun j=>(D j).row],[1]⟩) 0 ⟨by omega,by omega⟩ ?_ ?_
 ·refine a4c rfl ⟨AA _,?_,a6c rfl,trivial⟩ (.cons (.refl _) (.cons (AG ?_ fun j hj=> ?_) (.nil _))) (by simp;omega) (.inr rfl) rfl
  ·simp only[e.nadd,AR,hm];exact AA _
  ·simp only[e.nadd,AR,hm]
  ·simp only[e.nadd,AR] at hj;rw[hm] at hj;have h1:=hrow j hj;simp only[e.app,e.nadd,AR,AX,if_false,Ab];rw[<-h1];exact .refl _
 ·intro i hi N hN;cbv;split
  ·rename_i h;have hlt:i<m:=d3r hS h;cbv;simp only[nat,e.toNat,AC,AE];refine a1g hS (a5p hS hlt) (a1g hS (i2h hS hlt) ?_);refine a0v hS (int (er i)) (q2 i hlt) ?_;cbv;by_cases h0:er i=0
   rotate_left
   ·have hb0:(er i==AM 0)=AF:=beq_false_of_ne h0;simp only[e.ieq,e.bnot,hb0];cbv;exact b0a (h9a hr hlt hi.2 h0).symm
   simp only[e.ieq,e.bnot,h0];cbv;refine a1g hS (e1n hS (by omega)) ?_;refine hN (i+1) _ ⟨by omega,fun j hj=> ?_⟩ (by omega) (a4c rfl ⟨AA _,AA _,b2s hS,trivial⟩ (.same _) (by simp;omega) (.inr rfl) rfl);by_cases e:j=i
   ·subst e;exact h0
   ·exact hi.2 j (by omega)
  ·rename_i h;have hin:m<=i:=d3c hS h;have hall: ∀j,j<m->er j=0:=fun j hj=>hi.2 j (by omega);obtain⟨hr0,hr2⟩:=i1p hr hall;clear hr hall hi hN q2;cbv;refine a7r AD okP hS (fun i=>i<=m/\ ∀j,j<i->z1 j=AH/\z2 j=AH) (fun i=>m-i)
    (fun i=>⟨b5r [(1,.ptr 0 0),(4,.msl 1 5 AQ m AF),(7,int i)] 70,[.var [isl ns sz,isl no od,Ae nl lk,isl ins isz,isl ino iod,vsl ine ien,Aa inn ivar ink ikid,int iroot,isl gns gsz,isl gno god,vsl gne gen,Aa gnn gvar gnk gkid,int groot],.arr 5 m fun j=>(D j).row],[1]⟩) 0 ⟨by omega,by omega⟩ ?_ ?_
   ·exact a4c rfl ⟨AA _,AA _,a6c rfl,trivial⟩ (.same _) (by simp;omega) (.inr rfl) rfl
   ·intro i hi N hN;cbv;split
    ·rename_i h;have hlt:i<m:=d3r hS h;have hno:(z1 i=AH/\z2 i=AH->False)->r=2:=fun h=>hr2 fun h'=>h (h' i hlt);cbv;simp only[nat,e.toNat,AC,AE]
     repeat (first|refine a1g hS (a5p hS hlt) ?_|refine a1g hS (i2h hS hlt) ?_)
     refine a0v hS (bool (z1 i)) (q3 i hlt) ?_;cases hz1:z1 i
     ·cbv;exact a6c (hno fun h=>by rw[hz1] at h;cases h.1).symm
     cbv;simp only[nat,e.toNat,AC,AE]
     repeat (first|refine a1g hS (a5p hS hlt) ?_|refine a1g hS (i2h hS hlt) ?_)
     refine a0v hS (bool (z2 i)) (q4 i hlt) ?_;cases hz2:z2 i
     ·cbv;exact a6c (hno fun h=>by rw[hz2] at h;cases h.2).symm
     cbv;refine a1g hS (e1n hS (by omega)) ?_;refine hN (i+1) _ ⟨by omega,fun j hj=> ?_⟩ (by omega) (a4c rfl ⟨AA _,AA _,b2s hS,trivial⟩ (.same _) (by simp;omega) (.inr rfl) rfl);by_cases e:j=i
     ·subst e;exact⟨hz1,hz2⟩
     ·exact hi.2 j (by omega)
    ·rename_i h;have hin:m<=i:=d3c hS h;cbv;exact a6c (hr0 fun j hj=>hi.2 j (by omega)).symm
theorem i3l (d:Ac)(hf:d.fit)(h0: ∀i,i<d.ne->0<=(d.en i).fault)(hno:d.no<=12)(r:Int)(hr:h5o d=r):a0j AB AH 134 [d.av] (int r):=by
 obtain⟨w,hw,ho⟩:=i1u d hf h0 hno r hr;clear hr;rcases hw with rfl|⟨_,rfl⟩<;>
 ·refine a4e (a0k AD okP f2f _ rfl fun E Sg hb hS=> ?_);cbv;refine a0v hS _ ho ?_;cbv;exact AA _
def i4t (n:Nat)(l:Nat->Ac)(pg:List Nat)(v:AV)(h':List a0f):Prop:=pg=[]/\v= .msl 0 5 AQ n AF/\h'=[.arr 5 n fun i=>(l i).row]
theorem i0r {n:Nat}(hn:n<=1000000)(l:Nat->Ac):a1h AB 133 [Ae n l] [] (i4t n l):=by
 cases n with
 |zero=>
  refine a1h.empty fun a cap=>a1h.ret_nil 5 (fun i=>(l i).row) ?_;refine h3w AD okP f1a rfl fun E Sg hb hS F hF=> ?_;have e:=b2k hS;cases a with
  |none=>cbv;exact⟨[],by simp,hF (.nil _) (AA _) (by simp) (.inr rfl) (.inl ⟨rfl,rfl,rfl,rfl⟩)⟩
  |some a=>
   cbv
   repeat (first|refine a1g hS trivial ?_|refine a1g hS (f1i hS (by omega)) ?_)
   refine⟨[],by simp,hF (h1:=[.arr 5 0 fun i=>(l i).row]) (.cons (AG (by simp only[e.nadd]) fun j hj=>by simp only[e.nadd] at hj;omega) (.nil _)) (v0:= .msl 0 5 AQ 0 AF) (by show a0x (.msl 0 5 AQ (Sg.nadd 0 0) AF) _;simp only[e.nadd];exact AA _) (by simp) (.inr rfl) (.inr ⟨rfl,rfl,rfl⟩)⟩
 |succ n=>
  refine h3w AD okP f1a rfl fun E Sg hb hS F hF=> ?_;have e:=b2k hS;cbv
  repeat (first|refine a1g hS trivial ?_|refine a1g hS (f1i hS (by omega)) ?_|refine a1g hS (i2h hS (by omega)) ?_)
  refine⟨[],by simp,hF (h1:=[.arr 5 (n+1) fun i=>(l i).row]) (.cons (AG (by simp only[e.nadd,AR]) fun j hj=>by simp only[e.app,AX,if_false,Ab];exact .refl _) (.nil _)) (v0:= .msl 0 5 AQ (n+1) AF) (by show a0x (.msl 0 5 AQ (Sg.nadd 0 (n+1)) AF) _;simp only[e.nadd,AR];exact AA _) (by simp) (.inr rfl) ⟨rfl,rfl,rfl⟩⟩
theorem i0p (c:CaR)(hc:c.fit)(r:Int)(hr:h6t c r):a0j AB AH 98 [isl c.ns c.sz,isl c.no c.od,Ae c.nl c.lk,c.inn.av,c.goal.av] (int r):=by
 have q1:=h5l (n:=c.ns) (m:=c.no) (by have:=hc.ns;omega) (by have:=hc.no;omega) c.sz c.od _ rfl;have hcl:=i0r (n:=c.nl) (by have:=hc.nl;omega) c.lk;obtain⟨er,her⟩: ∃er:Nat->Int,∀i,h5o (c.dg i)=er i:=⟨_,fun _=>rfl⟩;have q2:=fun i hi=>i3l (c.dg i) (hc.dg i hi) (hc.flt i hi) (by have:=hc.od i hi;omega) (er i) (her i);obtain⟨z,hz⟩: ∃z:Bool,z=AH↔ ∀i,i<c.nl+2->c.same i:=by classical exact⟨decide _,decide_eq_true_iff⟩
 have q3:=i1m (ns:=c.ns) (no:=c.no) c.sz c.od (n:=c.nl+2) (by have:=hc.nl;omega) c.dg (fun i hi=>⟨(hc.dg i hi).ns,(hc.dg i hi).no⟩) z hz;have hrow:=c.rows;have hnl:=hc.nl;unfold h6t at hr;simp only[her] at hr;clear her hc;obtain⟨fe,hfe⟩: ∃fe,h4e c.ns c.no c.sz c.od=fe:=⟨_,rfl⟩;rw[hfe] at hr q1;clear hfe;obtain⟨SS,hSS⟩: ∃SS:Nat->Prop,c.same=SS:=⟨_,rfl⟩;rw[hSS] at hr hz;clear hSS;obtain⟨D,hD⟩: ∃D:Nat->Ac,c.dg=D:=⟨_,rfl⟩;obtain⟨m,hm⟩: ∃m,c.nl+2=m:=⟨_,rfl⟩;simp only[hD,hm] at q2 q3 hrow hr hz;clear hD;obtain⟨ns,sz,no,od,nl,lk,⟨ins,isz,ino,iod,ine,ien,inn,ivar,ink,ikid,iroot⟩,⟨gns,gsz,gno,god,gne,gen,gnn,gvar,gnk,gkid,groot⟩⟩:=c;simp only at*
 refine a4e (a0k AD okP g8t _ rfl fun E Sg hb hS=> ?_);have e:=b2k hS;cbv;refine a0v hS _ q1 ?_;cbv;by_cases h0:fe=0
 rotate_left
 ·have hb0:(fe==AM 0)=AF:=beq_false_of_ne h0;simp only[e.ieq,e.bnot,hb0];cbv;rcases hr with⟨_,h⟩|⟨h,_⟩
  ·exact b0a h.symm
  ·exact absurd h h0
 subst h0;simp only[e.ieq,e.bnot];cbv;split
 ·rename_i h;have h:4<nl:=d3r hS h;cbv;rcases hr with⟨h',_⟩|⟨_,⟨_,h'⟩|⟨h',_⟩⟩
  ·exact absurd rfl h'
  ·exact a6c h'.symm
  ·omega
 rename_i h;have h4:nl<=4:=d3c hS h;have hr:i5k m er SS r:=by
  rcases hr with⟨h',_⟩|⟨_,⟨h',_⟩|⟨_,h'⟩⟩
  ·exact absurd rfl h'
  ·omega
  ·exact h'
 cbv;refine h3v hS (a1h.frame hcl [] rfl rfl trivial) ?_;rintro pg v H' ⟨pg0,v0,h0,⟨rfl,rfl,rfl⟩,rfl,rfl,rfl⟩;cbv
 repeat (first|refine a1g hS (c3d hS) ?_|refine a1g hS trivial ?_|refine a1g hS (f1i hS (by omega)) ?_)
 refine a7r AD okP hS (fun i=>i<=m/\ ∀j,j<i->er j=0) (fun i=>m-i)
  (fun i=>⟨b5r [(0,isl ns sz),(1,isl no od),(12,.msl 2 5 AQ m AF),(32,.msl 2 5 AQ m AF),(33,int m),(34,int i)] 52,[.var [isl ins isz,isl ino iod,vsl ine ien,Aa inn ivar ink ikid,int iroot],.var [isl gns gsz,isl gno god,vsl gne gen,Aa gnn gvar gnk gkid,int groot],.arr 5 m fun j=>(D j).row],[2]⟩) 0 ⟨by omega,by omega⟩ ?_ ?_
 ·refine a4c rfl ⟨AA _,AA _,?_,?_,?_,a6c rfl,trivial⟩ (.cons (.refl _) (.cons (.refl _) (.cons (AG ?_ fun j hj=> ?_) (.nil _)))) (by simp;omega) (.inr rfl) rfl
  ·simp only[e.nadd,hm];exact AA _
  ·simp only[e.nadd,hm];exact AA _
  ·simp only[e.nadd,hm,e.ofNat];exact AA _
  ·simp only[e.nadd,hm]
  ·simp only[e.nadd] at hj;rw[hm] at hj;have h1:=hrow j hj;simp only[e.app];rw[<-h1];exact .refl _
 ·intro i hi N hN;cbv;split
  ·rename_i h;have hlt:i<m:=AJ.1 (b3h hS h);cbv;simp only[nat,e.toNat,AC,AE];refine a1g hS (a5p hS hlt) (a1g hS (i2h hS hlt) ?_);refine a0v hS (int (er i)) (q2 i hlt) ?_;cbv;by_cases h0:er i=0
   rotate_left
   ·have hb0:(er i==AM 0)=AF:=beq_false_of_ne h0;simp only[e.ieq,e.bnot,hb0];cbv;exact b0a (h9a hr hlt hi.2 h0).symm
   simp only[e.ieq,e.bnot,h0];cbv;refine a1g hS (e1n hS (by omega)) ?_;refine hN (i+1) _ ⟨by omega,fun j hj=> ?_⟩ (by omega) (a4c rfl ⟨AA _,AA _,AA _,AA _,AA _,b2s hS,trivial⟩ (.cons (.refl _) (.cons (.refl _) (.cons (.refl _) (.nil _)))) (by simp;omega) (.inl ⟨rfl,rfl⟩) rfl);by_cases e:j=i
   ·subst e;exact h0
   ·exact hi.2 j (by omega)
  ·rename_i h;have hin:m<=i:=AK.1 (b3r hS h);have hall: ∀j,j<m->er j=0:=fun j hj=>hi.2 j (by omega);obtain⟨hr0,hr2⟩:=i1p hr hall;cbv;refine h3v hS (a1h.frame q3 [2] rfl rfl (show _/\_ from⟨a9v.refl _,trivial⟩)) ?_;rintro pg v H' ⟨pg0,v0,h0,⟨rfl,rfl,rfl⟩,rfl,rfl,rfl⟩;cbv;cases hz1:z
   ·cbv;rw[hz1] at hz;exact a6c (hr2 fun h=>AU (hz.2 h)).symm
   ·cbv;exact a6c (hr0 (hz.1 hz1)).symm
theorem i6e (v:Af)(r:Bool)(hr:r=AH↔v=⟨0,1⟩):a0j AB AH 68 [v.av] (bool r):=by obtain⟨f,n⟩:=v;refine a1e (a0k AD okP i7s _ rfl fun E Sg hb hS=> ?_);have e:=b2k hS;cbv;refine a0s ?_;simp only[e.band,e.ieq];rw[AS,hr];simp
theorem h9i (v:Af)(r:Bool)(hr:r=AH↔v=⟨0,1⟩):a0j AB AH 171 [v.av] (bool r):=by obtain⟨f,n⟩:=v;refine a1e (a0k AD okP e8x _ rfl fun E Sg hb hS=> ?_);have e:=b2k hS;cbv;refine a0s ?_;simp only[e.band,e.ieq];rw[AS,hr];simp
def plc (X:Nat->Af):Nat->List Nat
 |0=>[]
 |i+1=>if X i=⟨0,1⟩ then plc X i++[i] else plc X i
theorem i0h (X:Nat->Af): ∀(T p:Nat),p∈plc X T↔p<T/\X p=⟨0,1⟩
 |0,p=>by simp[plc]
 |i+1,p=>by
  rw[plc];have ih:=i0h X i p;by_cases h:X i=⟨0,1⟩
  ·rw[if_pos h,List.mem_append,ih];simp only[List.mem_singleton];constructor
   ·rintro (h'|rfl)
    ·exact⟨by omega,h'.2⟩
    ·exact⟨by omega,h⟩
   ·rintro⟨h1,h2⟩;by_cases e:p=i
    ·exact .inr e
    ·exact .inl ⟨by omega,h2⟩
  ·rw[if_neg h,ih];constructor
   ·exact fun h'=>⟨by omega,h'.2⟩
   ·rintro⟨h1,h2⟩;refine⟨?_,h2⟩;by_cases e:p=i
    ·subst e;exact absurd h2 h
    ·omega
theorem h8g (X:Nat->Af): ∀T,(plc X T).length<=T
 |0=>by simp[plc]
 |i+1=>by
  rw[plc];have:=h8g X i;split
  ·simp;omega
  ·omega
theorem h9h (X:Nat->Af): ∃(N:Nat->Nat) (G:Nat->Nat->Int),(∀i,(plc X i).length=N i)/\(∀i j,(((plc X i).getD j 0:Nat):Int)=G i j)/\N 0=0/\(∀i,N i<=i)/\
 ∀i,(X i=⟨0,1⟩->N (i+1)=N i+1/\(∀j,j<N i->G (i+1) j=G i j)/\G (i+1) (N i)=i)/\(X i≠⟨0,1⟩->N (i+1)=N i/\ ∀j,G (i+1) j=G i j):=by
 refine⟨fun i=>(plc X i).length,fun i j=>(((plc X i).getD j 0:Nat):Int),fun _=>rfl,fun _ _=>rfl,rfl,h8g X,fun i=>⟨fun h=> ?_,fun h=> ?_⟩⟩
 ·simp only[plc,if_pos h];refine⟨by simp,fun j hj=> ?_,?_⟩
  ·rw[AY,AY,List.getElem?_append_left hj]
  ·simp
 ·simp only[plc,if_neg h];exact⟨trivial,fun _=>trivial⟩
def plA (P:List Nat):AV:=isl P.length fun j=>((P.getD j 0:Nat):Int)
def knC (nl T:Nat)(X:Nat->Nat->Af)(G:Nat->Bool):List AV:=[.d (.sl 1 nl fun i=>[.sl 2 T fun p=>(X i p).row]),.d (.sl 1 T fun p=>[.bool (G p)])]
theorem i3f (c:CaR)(T:Nat)(hT:T<=1000000)(hnl:c.nl<=6)(X:Nat->Nat->Af)(Z:Nat->Af)(Y:Nat->Af)(h54: ∀i,i<c.nl->a0j AB AF 54 [(c.lk i).av] (vsl T (X i)))(h54i:a0j AB AF 54 [c.inn.av] (vsl T Z))(h54g:a0j AB AF 54 [c.goal.av] (vsl T Y))
 (G:Nat->Bool) (hG: ∀p,G p=AH↔Y p=⟨0,1⟩):a0j AB AF 29 [c.av] (.tuple [plA (plc Z T),.agg (knC c.nl T X G)]):=by
 obtain⟨N,W,hN,hW,hN0,hNi,hst⟩:=h9h Z;have hres:plA (plc Z T)=isl (N T) (W T):=by unfold plA;rw[hN];congr 1;exact funext fun j=>hW T j
 rw[hres];obtain⟨b,hb⟩: ∃b:Nat->Bool,∀p,b p=AH↔Z p=⟨0,1⟩:=by classical exact⟨fun p=>decide _,fun p=>decide_eq_true_iff⟩
 have q1:=fun p=>i6e (Z p) (b p) (hb p);have q2:=fun p=>i6e (Y p) (G p) (hG p);have hst1: ∀i,(b i=AH->N (i+1)=N i+1/\(∀j,j<N i->W (i+1) j=W i j)/\W (i+1) (N i)=i)/\(b i=AF->N (i+1)=N i/\ ∀j,W (i+1) j=W i j):=fun i=>⟨fun h=>(hst i).1 ((hb i).1 h),fun h=>(hst i).2 fun h'=>by rw[(hb i).2 h'] at h;cases h⟩;clear hres hst hN hW hb hG;obtain⟨ns,sz,no,od,nl,lk,⟨ins,isz,ino,iod,ine,ien,inn,ivar,ink,ikid,iroot⟩,⟨gns,gsz,gno,god,gne,gen,gnn,gvar,gnk,gkid,groot⟩⟩:=c;simp only[CaR.av,DiR.cs,AN,AO,knC] at*
 obtain⟨A,hA⟩: ∃A:List AV,A=[isl ns sz,isl no od,Ae nl lk,isl ins isz,isl ino iod,vsl ine ien,Aa inn ivar ink ikid,int iroot,isl gns gsz,isl gno god,vsl gne gen,Aa gnn gvar gnk gkid,int groot]:=⟨_,rfl⟩;refine a0k AD okP i7o _ rfl fun E Sg hbs hS=> ?_;have e:=b2k hS;cbv;refine e4p AD okP hS (fun i=>i<=nl) (fun i=>nl-i)
  (fun i=>⟨b5r [(1,.ptr 0 0),(3,.ptr 1 0),(4,.ptr 2 0),(5,int i)] 61,[.var [isl ns sz,isl no od,Ae nl lk,isl ins isz,isl ino iod,vsl ine ien,Aa inn ivar ink ikid,int iroot,isl gns gsz,isl gno god,vsl gne gen,Aa gnn gvar gnk gkid,int groot],.var [.d .nil,.d .nil],.var [.msl 3 1 AQ i AF,.d .nil],.arr 1 i fun j=>[.sl 2 T fun p=>(X j p).row]],[3]⟩) 0 (by omega) ?_ ?_
 ·exact (Ad 2 0 1 (fun _=>[]) rfl rfl).trans (AP (a4c rfl ⟨AA _,AA _,AA _,a6c rfl,trivial⟩ (.cons (.refl _) (.cons (.refl _) (.cons (.refl _) (.cons (AG rfl fun j hj=>by omega) (.nil _))))) (by simp;omega) (.inr rfl) rfl))
 ·intro i hi N' hN';cbv;split
  ·rename_i h;have hlt:i<nl:=d3r hS h;cbv;simp only[nat,e.toNat,AC,AE];refine a1g hS (a5p hS hlt) ?_;refine a0v hS _ (h54 i hlt) ?_;cbv
   repeat (first|refine a1g hS (c3d hS) ?_|refine a1g hS trivial ?_|refine a1g hS (f1i hS (by omega)) ?_|refine a1g hS (e1n hS (by omega)) ?_)
   refine hN' (i+1) _ hlt (by omega) (AP (a4c rfl ⟨AA _,AA _,AA _,b2s hS,trivial⟩
    (.cons (.refl _) (.cons (.refl _) (.cons (.var (.cons (d8n hS) (.cons (AA _) .nil))) (.cons (d7h hS (fun j hj=> .refl _) (.refl _)) (.nil _))))) (by simp;omega) (.inr rfl) rfl))
  ·rename_i h;have hin:i=nl:=by have:=d3c hS h;omega
   subst hin;cbv;refine a0v hS _ h54i ?_;cbv
   repeat (first|refine a1g hS (c3d hS) ?_)
   refine a0v hS _ h54g ?_;cbv;refine e4p AD okP hS (fun p=>p<=T) (fun p=>T-p)
    (fun p=>⟨b5r [(1,.ptr 0 0),(3,.ptr 1 0),(4,.ptr 2 0),(6,vsl T Z),(7,vsl T Y),(8,.msl 5 1 AQ (N p) AF),(9,int p)] 61,[.var [isl ns sz,isl no od,Ae i lk,isl ins isz,isl ino iod,vsl ine ien,Aa inn ivar ink ikid,int iroot,isl gns gsz,isl gno god,vsl gne gen,Aa gnn gvar gnk gkid,int groot],.var [.d .nil,.d .nil],.var [.msl 3 1 AQ i AF,.msl 4 1 AQ p AF],.arr 1 i fun j=>[.sl 2 T fun p=>(X j p).row],.arr 1 p fun q=>[.bool (G q)],arrI (N p) (W p)],[3,4,5]⟩) 0 (by omega) ?_ ?_
   ·refine (Ad 2 1 1 (fun _=>[]) rfl rfl).trans ((Aj 8 1 (fun _=>[]) rfl).trans (AP (a4c rfl ⟨AA _,AA _,AA _,AA _,AA _,?_,a6c rfl,trivial⟩ (.cons (.refl _) (.cons (.refl _) (.cons (.refl _) (.cons (.refl _) (.cons (AG rfl fun j hj=>by omega) (.cons (AG hN0.symm fun j hj=>by omega) (.nil _))))))) (by simp;omega) (.inr rfl) rfl)));rw[hN0];exact AA _
   ·intro p hp N' hN';cbv;split
    ·rename_i h;have hlt:p<T:=d3r hS h;obtain⟨h1,h2⟩:=hst1 p;have h3:=hNi p;cbv;simp only[nat,e.toNat,AC,AE];refine a1g hS (a5p hS hlt) ?_;refine a0v hS _ (q2 p) ?_;cbv;simp only[nat,e.toNat,AC,AE]
     repeat (first|refine a1g hS (c3d hS) ?_|refine a1g hS trivial ?_|refine a1g hS (f1i hS (by omega)) ?_|refine a1g hS (a5p hS hlt) ?_)
     refine a0v hS (bool (b p)) (q1 p) ?_;cases hb:b p
     ·obtain⟨h4,h5⟩:=h2 hb;cbv;refine a1g hS (e1n hS (by omega)) ?_;refine hN' (p+1) _ hlt (by omega) (AP (a4c rfl ⟨AA _,AA _,AA _,AA _,AA _,?_,b2s hS,trivial⟩
       (.cons (.refl _) (.cons (.refl _) (.cons (.var (.cons (AA _) (.cons (d8n hS) .nil))) (.cons (.refl _) (.cons (d7h hS (fun j hj=> .refl _) (.refl _)) (.cons (AG h4.symm fun j hj=>by rw[h5];exact .refl _) (.nil _))))))) (by simp;omega) (.inr rfl) rfl))
      rw[h4];exact AA _
     ·obtain⟨h4,h5,h6⟩:=h1 hb;cbv
      repeat (first|refine a1g hS trivial ?_|refine a1g hS (f1i hS (by omega)) ?_|refine a1g hS (e1n hS (by omega)) ?_)
      refine hN' (p+1) _ hlt (by omega) (AP (a4c rfl ⟨AA _,AA _,AA _,AA _,AA _,?_,b2s hS,trivial⟩
       (.cons (.refl _) (.cons (.refl _) (.cons (.var (.cons (AA _) (.cons (d8n hS) .nil))) (.cons (.refl _) (.cons (d7h hS (fun j hj=> .refl _) (.refl _)) (.cons ?_ (.nil _))))))) (by simp;omega) (.inr rfl) rfl))
      ·rw[h4];exact d8n hS
      ·rw[h4];exact d7h hS (fun j hj=>by rw[h5 j hj];exact .refl _) (by rw[h6];exact .one (.int rfl))
    ·rename_i h;have hin:p=T:=by have:=d3c hS h;omega
     subst hin;cbv;exact a1g hS (e8l hS (AI _)) (a1g hS (e8l hS (AI _)) (a1g hS (e8l hS (AI _)) (AA _)))
theorem i3r (c:CaR){er:Int}(h42:a0j AB AH 42 [c.av] (int er))(h0:er≠0):a0j AB AF 21 [c.av] (.tuple [.d .nil,.agg [.d .nil,.d .nil],int er]):=by
 obtain⟨ns,sz,no,od,nl,lk,⟨ins,isz,ino,iod,ine,ien,inn,ivar,ink,ikid,iroot⟩,⟨gns,gsz,gno,god,gne,gen,gnn,gvar,gnk,gkid,groot⟩⟩:=c;simp only[CaR.av,DiR.cs,AN,AO] at*
 refine a0k AD okP i7c _ rfl fun E Sg hbs hS=> ?_;have e:=b2k hS;cbv;refine a0v hS _ h42 ?_;cbv;have hb0:(er==AM 0)=AF:=beq_false_of_ne h0;simp only[e.ieq,e.bnot,hb0];cbv;exact AA _
theorem i3p (c:CaR){n:Nat}{W:Nat->Int}{k1 k2:DV}(h42:a0j AB AH 42 [c.av] (int 0))(h29:a0j AB AF 29 [c.av] (.tuple [isl n W,.agg [.d k1,.d k2]])):
 (n=0->a0j AB AF 21 [c.av] (.tuple [.d .nil,.agg [.d k1,.d k2],int 12]))/\(0<n->a0j AB AF 21 [c.av] (.tuple [isl n W,.agg [.d k1,.d k2],int 0])):=by
 obtain⟨ns,sz,no,od,nl,lk,⟨ins,isz,ino,iod,ine,ien,inn,ivar,ink,ikid,iroot⟩,⟨gns,gsz,gno,god,gne,gen,gnn,gvar,gnk,gkid,groot⟩⟩:=c;simp only[CaR.av,DiR.cs,AN,AO] at*
 constructor
 ·intro hn;refine a0k AD okP i7c _ rfl fun E Sg hbs hS=> ?_;have e:=b2k hS;cbv;refine a0v hS _ h42 ?_;cbv;simp only[e.ieq,e.bnot];cbv;refine a0v hS _ h29 ?_;cbv;simp only[e.ieq,e.ofNat,hn];cbv;exact a3x.tuple (.cons (AA _) (.cons (AA _) (.cons (a6c rfl) .nil)))
 ·intro hn;refine a0k AD okP i7c _ rfl fun E Sg hbs hS=> ?_;have e:=b2k hS;cbv;refine a0v hS _ h42 ?_;cbv;simp only[e.ieq,e.bnot];cbv;refine a0v hS _ h29 ?_;cbv;have hb0:((n:Int)==AM 0)=AF:=beq_false_of_ne (by simp only[AC];omega);simp only[e.ieq,e.ofNat,hb0];cbv;exact a3x.tuple (.cons (AA _) (.cons (AA _) (.cons (a6c rfl) .nil)))
def cel (nl:Nat)(X:Nat->Nat->Af)(k q:Nat):Af:=if k<nl then X k q else⟨0,0⟩
def h7v (F:Nat->Af)(g:Bool):List DV:=
 [.int .u8 (.v (F 0).fault),.int .i64 (.v (F 0).n),.int .u8 (.v (F 1).fault),.int .i64 (.v (F 1).n),.int .u8 (.v (F 2).fault),.int .i64 (.v (F 2).n),.int .u8 (.v (F 3).fault),.int .i64 (.v (F 3).n),.bool g]
def i0q (ns:Nat)(sz:Nat->Int)(no:Nat)(od:Nat->Int)(nl n:Nat)(W:Nat->Int)(X:Nat->Nat->Af)(G:Nat->Bool):List DV:=
 [.sl 1 ns fun i=>[.int .i64 (.v (sz i))],.sl 1 no fun i=>[.int .i64 (.v (od i))],.int .i64 (.v nl),.sl 1 n fun j=>[.int .i64 (.v (W j))],
   .sl 9 n fun j=>h7v (fun k=>cel nl X k (W j).toNat) (G (W j).toNat)]
def i7g:a0c:=match g5m with| .seq _ (.seq _ (.seq _ (.seq _ (.seq _ r))))=>r|_=> .ret
theorem i4v (a b:Ac){ns no nl:Nat}{sz od:Nat->Int}{lk:Nat->Ac}{T:Nat}(hT:T<=1000000)(hnl:nl<=4)(h98:a0j AB AH 98 [isl ns sz,isl no od,Ae nl lk,a.av,b.av] (int 0))(X:Nat->Nat->Af)(Z Y:Nat->Af)
 (hl: ∀i,i<nl->a0j AB AF 170 [(lk i).av] (.tuple [vsl T (X i),int 0])) (hli:a0j AB AF 170 [a.av] (.tuple [vsl T Z,int 0])) (hlg:a0j AB AF 170 [b.av] (.tuple [vsl T Y,int 0]))
 (G:Nat->Bool) (hG: ∀p,G p=AH↔Y p=⟨0,1⟩):
 a0j AB AF 131 [isl ns sz,isl no od,Ae nl lk,a.av,b.av] (.tuple [.dptr (i0q ns sz no od nl (plc Z T).length (fun j=>(((plc Z T).getD j 0:Nat):Int)) X G) 0,int 0]):=by
 obtain⟨N,W,hN,hW,hN0,hNi,hst⟩:=h9h Z;have hres:(fun j=>(((plc Z T).getD j 0:Nat):Int))=W T:=funext fun j=>hW T j;rw[hres,hN];obtain⟨bb,hb⟩: ∃b:Nat->Bool,∀p,b p=AH↔Z p=⟨0,1⟩:=by classical exact⟨fun p=>decide _,fun p=>decide_eq_true_iff⟩
 have q1:=fun p=>h9i (Z p) (bb p) (hb p);have q2:=fun p=>h9i (Y p) (G p) (hG p);have hst1: ∀i,(bb i=AH->N (i+1)=N i+1/\(∀j,j<N i->W (i+1) j=W i j)/\W (i+1) (N i)=i)/\(bb i=AF->N (i+1)=N i/\ ∀j,W (i+1) j=W i j):=fun i=>⟨fun h=>(hst i).1 ((hb i).1 h),fun h=>(hst i).2 fun h'=>by rw[(hb i).2 h'] at h;cases h⟩;clear hres hst hN hW hb hG;obtain⟨ins,isz,ino,iod,ine,ien,inn,ivar,ink,ikid,iroot⟩:=a;obtain⟨gns,gsz,gno,god,gne,gen,gnn,gvar,gnk,gkid,groot⟩:=b;refine a0k AD okP e8k _ rfl fun E Sg hbs hS=> ?_;have e:=b2k hS;have en: ∀k:Nat,nat Sg (IX.v (AM k))=k:=fun k=>by show Sg.toNat (AM k)=k;rw[e.toNat];rfl
 obtain⟨D,hD0,hD1⟩: ∃D:Nat->Nat->DV,(∀i j,i<=j->D i j= .nil)/\ ∀i j,j<i->D i j= .sl 2 T fun p=>(X j p).row:=⟨fun i j=>if j<i then .sl 2 T fun p=>(X j p).row else .nil,fun i j h=>if_neg (by omega),fun i j h=>if_pos h⟩;obtain⟨R,hR⟩: ∃R,R=i7g:=⟨_,rfl⟩;change ev Sg (.seq _ (.seq _ (.seq _ (.seq _ (.seq _ i7g))))) _ _;rw[<-hR];cbv;refine a0v hS _ h98 ?_;cbv;simp only[e.ieq,e.bnot];cbv;refine a1g hS (i4c hS) (a1g hS (i4a hS (by omega)) ?_);simp only[e.ofNat,e.toNat,AE];refine a7r AD okP hS (fun i=>i<=nl) (fun i=>nl-i)
  (fun i=>⟨b5r [(8,.ptr 0 0),(9,.ptr 1 0),(13,.ptr 2 0),(14,.msl 3 1 AQ nl AF),(45,Ae nl lk),(46,int nl),(47,int i)] 124,[.var [isl ins isz,isl ino iod,vsl ine ien,Aa inn ivar ink ikid,int iroot],.var [isl gns gsz,isl gno god,vsl gne gen,Aa gnn gvar gnk gkid,int groot],.var [isl ns sz,isl no od,int nl,.d .nil,.d .nil],
    .arr 1 nl fun j=>[D i j]],[]⟩) 0 (by omega) ?_ ?_
 ·refine a4c rfl ⟨AA _,AA _,AA _,AA _,AA _,AA _,a6c rfl,trivial⟩ (.cons (.refl _) (.cons (.refl _) (.cons (.refl _) (.cons (h8m hS fun j hj=> ?_) (.nil _))))) (by simp;omega) (.inr rfl) rfl;rw[hD0 0 j (by omega)];exact .refl _
 ·intro i hi N' hN';cbv;split
  ·rename_i h;have hlt:i<nl:=AJ.1 (b3h hS h);cbv;rw[en i];refine a1g hS (a5p hS hlt) ?_;refine a0v hS _ (hl i hlt) ?_;cbv;simp only[e.toNat,AC,AE];refine a1g hS (a5p hS hlt) (a1g hS (i2h hS hlt) (a1g hS (e1n hS (by omega)) ?_));refine hN' (i+1) _ hlt (by omega) (a4c rfl ⟨AA _,AA _,AA _,AA _,AA _,AA _,b2s hS,trivial⟩ (.cons (.refl _) (.cons (.refl _) (.cons (.refl _) (.cons (h8j hS (fun j hj hne=> ?_) fun _=> ?_) (.nil _))))) (by simp;omega) (.inl ⟨rfl,rfl⟩) rfl)
   ·by_cases h:j<i
    ·rw[hD1 i j h,hD1 (i+1) j (by omega)];exact .refl _
    ·rw[hD0 i j (by omega),hD0 (i+1) j (by omega)];exact .refl _
   ·rw[hD1 (i+1) i (by omega)];exact .refl _
  ·rename_i h;have hin:i=nl:=by have:=AK.1 (b3r hS h);omega
   subst hin;cbv;subst hR;cbv;refine a0v hS _ hlg ?_;cbv;refine a0v hS _ hli ?_;cbv;clear h98 hl hlg hli hN' hi h;refine e4p AD okP hS (fun p=>p<=T) (fun p=>T-p)
    (fun p=>⟨b5r [(13,.ptr 2 0),(14,.msl 3 1 AQ i AF),(17,vsl T Y),(71,vsl T Z),(72,int T),(73,int p)] 124,[.var [isl ins isz,isl ino iod,vsl ine ien,Aa inn ivar ink ikid,int iroot],.var [isl gns gsz,isl gno god,vsl gne gen,Aa gnn gvar gnk gkid,int groot],.var [isl ns sz,isl no od,int i,.msl 4 1 AQ (N p) AF,.msl 5 9 AQ (N p) AF],
      .arr 1 i fun j=>[.sl 2 T fun p=>(X j p).row],arrI (N p) (W p),.arr 9 (N p) fun j=>h7v (fun k=>cel i X k (W p j).toNat) (G (W p j).toNat)],[4,5]⟩) 0 (by omega) ?_ ?_
   ·refine (Ad 2 3 1 (fun _=>[]) rfl rfl).trans ((Ad 2 4 9 (fun _=>[]) rfl rfl).trans (AP (a4c rfl ⟨AA _,AA _,AA _,AA _,?_,a6c rfl,trivial⟩ (.cons (.refl _) (.cons (.refl _) (.cons ?_ (.cons (AG rfl fun j hj=> ?_) (.cons (AG hN0.symm fun j hj=>by omega) (.cons (AG hN0.symm fun j hj=>by omega) (.nil _))))))) (by simp;omega) (.inr rfl) rfl)))
    ·exact b0a (by simp only[e.ofNat])
    ·refine .var (.cons (AA _) (.cons (AA _) (.cons (AA _) (.cons ?_ (.cons ?_ .nil)))))<;>(rw[hN0];exact AA _)
    ·rw[hD1 i j hj];exact .refl _
   ·intro p hp N' hN';cbv;split
    ·rename_i h;have hlt:p<T:=AJ.1 (b3h hS h);obtain⟨h1,h2⟩:=hst1 p;have h3:=hNi p;cbv;simp only[en];refine a1g hS (a5p hS hlt) ?_;refine a0v hS (bool (bb p)) (q1 p) ?_;cases hb:bb p
     ·obtain⟨h4,h5⟩:=h2 hb;cbv;refine a1g hS (e1n hS (by omega)) ?_;refine hN' (p+1) _ hlt (by omega) (AP (a4c rfl ⟨AA _,AA _,AA _,AA _,AA _,b2s hS,trivial⟩
       (.cons (.refl _) (.cons (.refl _) (.cons ?_ (.cons (.refl _) (.cons (AG h4.symm fun j hj=>by rw[h5];exact .refl _) (.cons (AG h4.symm fun j hj=>by rw[h5];exact .refl _) (.nil _))))))) (by simp;omega) (.inl ⟨rfl,rfl⟩) rfl))
      rw[h4];exact .refl _
     ·obtain⟨h4,h5,h6⟩:=h1 hb;cbv;simp only[en];refine a1g hS (a5p hS hlt) ?_;refine a0v hS (bool (G p)) (q2 p) ?_;cbv;obtain⟨F,hF,hFe⟩: ∃F:Nat->Nat->Af,(∀i k,F i k=if k<i then X k p else⟨0,0⟩)/\ ∀k,F i k=cel i X k p:=⟨fun i k=>if k<i then X k p else⟨0,0⟩,fun _ _=>rfl,fun _=>rfl⟩;obtain⟨F0,hF0⟩: ∃F0:Nat->Nat->Int,∀i k,(F i k).fault=F0 i k:=⟨_,fun _ _=>rfl⟩;obtain⟨F1,hF1⟩: ∃F1:Nat->Nat->Int,∀i k,(F i k).n=F1 i k:=⟨_,fun _ _=>rfl⟩;have z0: ∀k,F0 0 k=0/\F1 0 k=0:=fun k=>by rw[<-hF0,<-hF1,hF,if_neg (AX k)];exact⟨rfl,rfl⟩
      have z1: ∀m k,k≠m->F0 (m+1) k=F0 m k/\F1 (m+1) k=F1 m k:=fun m k h=>by
       rw[<-hF0,<-hF1,<-hF0,<-hF1,hF,hF];by_cases h':k<m
       ·rw[if_pos h',if_pos (by omega)];exact⟨rfl,rfl⟩
       ·rw[if_neg h',if_neg (by omega)];exact⟨rfl,rfl⟩
      have z2: ∀m,F0 (m+1) m=(X m p).fault/\F1 (m+1) m=(X m p).n:=fun m=>by rw[<-hF0,<-hF1,hF,if_pos (by omega)];exact⟨rfl,rfl⟩
      refine a7r AD okP hS (fun m=>m<=i) (fun m=>i-m)
       (fun m=>⟨b5r [(13,.ptr 2 0),(14,.msl 3 1 AQ i AF),(17,vsl T Y),(21,int p),(23,.ptr 7 0),(71,vsl T Z),(72,int T),(73,int p),(87,.msl 3 1 AQ i AF),(88,int i),(89,int m)] 124,[.var [isl ins isz,isl ino iod,vsl ine ien,Aa inn ivar ink ikid,int iroot],.var [isl gns gsz,isl gno god,vsl gne gen,Aa gnn gvar gnk gkid,int groot],.var [isl ns sz,isl no od,int i,.msl 4 1 AQ (N p) AF,.msl 5 9 AQ (N p) AF],
         .arr 1 i fun j=>[.sl 2 T fun p=>(X j p).row],arrI (N p) (W p),.arr 9 (N p) fun j=>h7v (fun k=>cel i X k (W p j).toNat) (G (W p j).toNat),.var [.any,.any],.var [u8 (F0 m 0),int (F1 m 0),u8 (F0 m 1),int (F1 m 1),u8 (F0 m 2),int (F1 m 2),u8 (F0 m 3),int (F1 m 3),bool (G p)]],[4,5]⟩) 0 (by omega) ?_ ?_
      ·refine a4c rfl ⟨AA _,AA _,AA _,AA _,AA _,AA _,AA _,AA _,AA _,?_,a6c rfl,trivial⟩ (.cons (.refl _) (.cons (.refl _) (.cons (.refl _) (.cons (.refl _) (.cons (.refl _) (.cons (.refl _) (.cons (.var (.cons (Ak _) (.cons (Ak _) .nil))) (.cons (.var ?_) (.nil _))))))))) (by simp;omega) (.inr rfl) rfl
       ·exact b0a (by simp only[e.ofNat])
       ·simp only[z0];exact .cons (a6c rfl) (.cons (a6c rfl) (.cons (a6c rfl) (.cons (a6c rfl) (.cons (a6c rfl) (.cons (a6c rfl) (.cons (a6c rfl) (.cons (a6c rfl) (.cons (AA _) .nil))))))))
      ·intro m hm N2 hN2;cbv;split
       ·rename_i h;have hlt2:m<i:=AJ.1 (b3h hS h);have hm4:m=0\/m=1\/m=2\/m=3:=by omega
        cbv;simp only[en]
        repeat (first|refine a1g hS (a5p hS hlt2) ?_|refine a1g hS (i2h hS hlt2) ?_|refine a1g hS (a5p hS hlt) ?_|refine a1g hS (i2b hS (by simp only[AC];omega)) ?_)
        simp only[e.nadd,e.nmul,en,e.toNat,AC,AE];have c1:=fun k=>z1 m k;obtain⟨d0,d1⟩:=z2 m;rcases hm4 with rfl|rfl|rfl|rfl
        all_goals
         cbv
         repeat (first|refine a1g hS (i2h hS hlt2) ?_|refine a1g hS (a5p hS hlt) ?_|refine a1g hS (i2b hS (by decide)) ?_|refine a1g hS (a4p hS (by decide)) ?_)
         refine hN2 _ _ hlt2 (by omega) (a4c rfl ⟨AA _,AA _,AA _,AA _,AA _,AA _,AA _,AA _,AA _,AA _,b2s hS,trivial⟩ (.cons (.refl _) (.cons (.refl _) (.cons (.refl _) (.cons (.refl _) (.cons (.refl _) (.cons (.refl _) (.cons (.refl _) (.cons (.var ?_) (.nil _))))))))) (by simp;omega) (.inr rfl) rfl)
        ·exact (.cons (b0a d0.symm) (.cons (b0a d1.symm) (.cons (b0a (c1 1 (by decide)).1.symm) (.cons (b0a (c1 1 (by decide)).2.symm) (.cons (b0a (c1 2 (by decide)).1.symm) (.cons (b0a (c1 2 (by decide)).2.symm) (.cons (b0a (c1 3 (by decide)).1.symm) (.cons (b0a (c1 3 (by decide)).2.symm) (.cons (AA _) .nil)))))))))
        ·exact (.cons (b0a (c1 0 (by decide)).1.symm) (.cons (b0a (c1 0 (by decide)).2.symm) (.cons (b0a d0.symm) (.cons (b0a d1.symm) (.cons (b0a (c1 2 (by decide)).1.symm) (.cons (b0a (c1 2 (by decide)).2.symm) (.cons (b0a (c1 3 (by decide)).1.symm) (.cons (b0a (c1 3 (by decide)).2.symm) (.cons (AA _) .nil)))))))))
        ·exact (.cons (b0a (c1 0 (by decide)).1.symm) (.cons (b0a (c1 0 (by decide)).2.symm) (.cons (b0a (c1 1 (by decide)).1.symm) (.cons (b0a (c1 1 (by decide)).2.symm) (.cons (b0a d0.symm) (.cons (b0a d1.symm) (.cons (b0a (c1 3 (by decide)).1.symm) (.cons (b0a (c1 3 (by decide)).2.symm) (.cons (AA _) .nil)))))))))
        ·exact (.cons (b0a (c1 0 (by decide)).1.symm) (.cons (b0a (c1 0 (by decide)).2.symm) (.cons (b0a (c1 1 (by decide)).1.symm) (.cons (b0a (c1 1 (by decide)).2.symm) (.cons (b0a (c1 2 (by decide)).1.symm) (.cons (b0a (c1 2 (by decide)).2.symm) (.cons (b0a d0.symm) (.cons (b0a d1.symm) (.cons (AA _) .nil)))))))))
       ·rename_i h;have hin:m=i:=by have:=AK.1 (b3r hS h);omega
        subst hin;cbv
        repeat (first|refine a1g hS (c3d hS) ?_|refine a1g hS trivial ?_|refine a1g hS (f1i hS (by omega)) ?_|refine a1g hS (e1n hS (by omega)) ?_)
        refine hN' (p+1) _ hlt (by omega) (AP (a4c rfl ⟨AA _,AA _,AA _,AA _,AA _,b2s hS,trivial⟩
         (.cons (.refl _) (.cons (.refl _) (.cons (.var (.cons (AA _) (.cons (AA _) (.cons (AA _) (.cons ?_ (.cons ?_ .nil)))))) (.cons (.refl _) (.cons ?_ (.cons ?_ (.nil _))))))) (by simp;omega) (.inl ⟨rfl,rfl⟩) rfl))
        ·rw[h4];exact d8n hS
        ·rw[h4];exact d8n hS
        ·rw[h4];exact d7h hS (fun j hj=>by rw[h5 j hj];exact .refl _) (by rw[h6];exact .one (.int rfl))
        ·rw[h4];refine d7h hS (fun j hj=>by rw[h5 j hj];exact .refl _) ?_;rw[h6,AE];simp only[<-hFe];unfold h7v;simp only[hF0,hF1];exact .refl _
    ·rename_i h;have hin:p=T:=by have:=AK.1 (b3r hS h);omega
     subst hin;cbv;exact a1g hS (e8l hS (AI _)) (a1g hS (e8l hS (AI _)) (a3x.tuple (.cons (AA _) (.cons (a6c rfl) .nil))))
theorem i3a (a b:Ac){ns no nl n:Nat}{sz od:Nat->Int}{lk:Nat->Ac}{x0 x1 x2 x3:DV}{e4:Nat->List DV}(h131:a0j AB AF 131 [isl ns sz,isl no od,Ae nl lk,a.av,b.av] (.tuple [.dptr [x0,x1,x2,x3,.sl 9 n e4] 0,int 0])):
 (n=0->a0j AB AF 108 [isl ns sz,isl no od,Ae nl lk,a.av,b.av] (.tuple [.d (.raw (.pointer AQ)),int 12]))/\(0<n->a0j AB AF 108 [isl ns sz,isl no od,Ae nl lk,a.av,b.av] (.tuple [.dptr [x0,x1,x2,x3,.sl 9 n e4] 0,int 0])):=by
 obtain⟨ins,isz,ino,iod,ine,ien,inn,ivar,ink,ikid,iroot⟩:=a;obtain⟨gns,gsz,gno,god,gne,gen,gnn,gvar,gnk,gkid,groot⟩:=b;constructor
 ·intro hn;refine a0k AD okP f0g _ rfl fun E Sg hbs hS=> ?_;have e:=b2k hS;cbv;refine a0v hS _ h131 ?_;cbv;simp only[e.ieq];cbv;simp only[e.ieq,e.ofNat,hn];cbv;exact a3x.tuple (.cons (AA _) (.cons (a6c rfl) .nil))
 ·intro hn;refine a0k AD okP f0g _ rfl fun E Sg hbs hS=> ?_;have e:=b2k hS;cbv;refine a0v hS _ h131 ?_;cbv;simp only[e.ieq];cbv;have hb0:((n:Int)==AM 0)=AF:=beq_false_of_ne (by simp only[AC];omega);simp only[e.ieq,e.ofNat,hb0];cbv;exact AA _
theorem h6k {g h:Nat->Int}: ∀{n:Nat},(∀j,j<n->g j=h j)->prod g n=prod h n
 |0,_=>rfl
 |n+1,e=>by rw[prod,prod,h6k fun j hj=>e j (by omega),e n (by omega)]
def CaR.wf (c:CaR):Prop:= ∀i,i<c.nl+2->(c.dg i).wf
theorem h6v.dg {c:CaR}(h:h6v c): ∀i,i<c.nl+2->h6e (c.dg i):=fun i hi=>by
 unfold CaR.dg;by_cases h1:i<c.nl
 ·rw[if_pos h1];exact h.2.2.2.1 i h1
 ·rw[if_neg h1];by_cases h2:i=c.nl
  ·rw[if_pos h2];exact h.2.1
  ·rw[if_neg h2];exact h.2.2.1
theorem h6v.fit {c:CaR}(h:h6v c)(hw:c.wf):c.fit:=
 ⟨h.1.1,h.1.2.1,h.1.2.2,fun i hi=>(h.dg i hi).fit (hw i hi),fun i hi j hj=>(hw i hi).2.2 j hj,fun i hi=>(h.dg i hi).1.2.1⟩
structure CaR.ok (c:CaR)(T:Nat):Prop where
 fit:c.fit
 nl:c.nl<=4
 fr:h4e c.ns c.no c.sz c.od=0
 hT:(T:Int)=prod c.sz c.ns
 di: ∀i,i<c.nl+2->i6l (c.dg i)
 Td: ∀i,i<c.nl+2->(T:Int)=prod (c.dg i).sz (c.dg i).ns
 err: ∀i,i<c.nl+2->h5o (c.dg i)=0
theorem CaR.ok_of {c:CaR}(hf:c.fit)(h:h6t c 0): ∃T:Nat,c.ok T:=by
 rcases h with⟨h1,h2⟩|⟨h1,⟨_,h2⟩|⟨h2,h3⟩⟩
 ·exact absurd h2.symm h1
 ·cases h2
 ·obtain⟨k1,k2,k3,k4,_⟩:=h4s h1;have hp:=h4r (g:=c.sz) (n:=c.ns) fun i hi=>(k2 i hi).1;obtain⟨T,hT⟩: ∃T:Nat,(T:Int)=prod c.sz c.ns:=⟨(prod c.sz c.ns).toNat,by omega⟩;rcases h3 with⟨i,a,b,d,e⟩|⟨a,⟨b,_⟩|⟨_,b⟩⟩
  ·exact absurd e.symm d
  ·refine⟨T,hf,h2,h1,hT,fun i hi=>i0u (a i hi),fun i hi=> ?_,a⟩;obtain⟨e1,e2⟩:=h7a.1 (b i hi).1;rw[hT,e1];exact h6k fun j hj=>(e2 j (by omega)).symm
  ·cases b
theorem CaR.ok.T36 {c:CaR}{T:Nat}(h:c.ok T)(ht:h6v c):T<=36:=by
 rcases ht.2.2.2.2 with h1|h1
 ·exact absurd h.fr h1
 ·have:=h.hT;omega
def CaR.X (c:CaR)(i:Nat):Nat->Af:=(c.dg i).cell
def CaR.P (c:CaR)(T:Nat):List Nat:=plc (c.X c.nl) T
def CaR.W (c:CaR)(T:Nat)(j:Nat):Nat:=(c.P T).getD j 0
noncomputable def CaR.G (c:CaR)(p:Nat):Bool:=by classical exact decide (c.X (c.nl+1) p=⟨0,1⟩)
section
variable {c:CaR} {T:Nat}
theorem CaR.ok.c42 (h:c.ok T)(hE:h6t c 0):a0j AB AH 42 [c.av] (int 0):=i2f c h.fit 0 hE
theorem CaR.ok.c98 (h:c.ok T)(hE:h6t c 0):a0j AB AH 98 [isl c.ns c.sz,isl c.no c.od,Ae c.nl c.lk,c.inn.av,c.goal.av] (int 0):=i0p c h.fit 0 hE
theorem CaR.ok.list (h:c.ok T)(i:Nat)(hi:i<c.nl+2):a0j AB AF 54 [(c.dg i).av] (vsl T (c.X i)):=i6a (c.dg i) (h.di i hi) (h.fit.dg i hi) (h.Td i hi)
theorem CaR.ok.list2 (h:c.ok T)(i:Nat)(hi:i<c.nl+2):a0j AB AF 170 [(c.dg i).av] (.tuple [vsl T (c.X i),int 0]):=
 i5u (c.dg i) (h.fit.dg i hi) (h.fit.flt i hi) (by have:=h.fit.od i hi;omega) 0 (h.err i hi) _ (.inr ⟨rfl,T,h.Td i hi,rfl⟩)
theorem CaR.ok.lk54 (h:c.ok T)(i:Nat)(hi:i<c.nl):a0j AB AF 54 [(c.lk i).av] (vsl T (c.X i)):=by have:=h.list i (by omega);rwa [c.dg_lk hi] at this
theorem CaR.ok.in54 (h:c.ok T):a0j AB AF 54 [c.inn.av] (vsl T (c.X c.nl)):=by have:=h.list c.nl (by omega);rwa [c.dg_in] at this
theorem CaR.ok.go54 (h:c.ok T):a0j AB AF 54 [c.goal.av] (vsl T (c.X (c.nl+1))):=by have:=h.list (c.nl+1) (by omega);rwa [c.dg_goal] at this
theorem CaR.ok.lk170 (h:c.ok T)(i:Nat)(hi:i<c.nl):a0j AB AF 170 [(c.lk i).av] (.tuple [vsl T (c.X i),int 0]):=by have:=h.list2 i (by omega);rwa [c.dg_lk hi] at this
theorem CaR.ok.in170 (h:c.ok T):a0j AB AF 170 [c.inn.av] (.tuple [vsl T (c.X c.nl),int 0]):=by have:=h.list2 c.nl (by omega);rwa [c.dg_in] at this
theorem CaR.ok.go170 (h:c.ok T):a0j AB AF 170 [c.goal.av] (.tuple [vsl T (c.X (c.nl+1)),int 0]):=by have:=h.list2 (c.nl+1) (by omega);rwa [c.dg_goal] at this
theorem CaR.G_iff (c:CaR)(p:Nat):c.G p=AH↔c.X (c.nl+1) p=⟨0,1⟩:=by unfold CaR.G;exact decide_eq_true_iff
theorem CaR.ok.places (h:c.ok T)(hT:T<=36):a0j AB AF 29 [c.av] (.tuple [isl (c.P T).length fun j=>(c.W T j:Int),.agg (knC c.nl T c.X c.G)]):=
 i3f c T (by omega) (by have:=h.nl;omega) c.X (c.X c.nl) (c.X (c.nl+1)) (h.lk54) h.in54 h.go54 c.G c.G_iff
theorem CaR.ok.read (h:c.ok T)(hE:h6t c 0)(hT:T<=36):a0j AB AF 131 [isl c.ns c.sz,isl c.no c.od,Ae c.nl c.lk,c.inn.av,c.goal.av] (.tuple [.dptr (i0q c.ns c.sz c.no c.od c.nl (c.P T).length (fun j=>(c.W T j:Int)) c.X c.G) 0,int 0]):=
 i4v c.inn c.goal (by omega) h.nl (h.c98 hE) c.X (c.X c.nl) (c.X (c.nl+1)) h.lk170 h.in170 h.go170 c.G c.G_iff
end
def onD (ns no:Nat)(sz od:Nat->Int)(q:Nat):AV:= .agg [isl ns sz,isl no od,.msl 0 2 AQ q AF,.msl 1 2 AQ 0 AF,int 0]
def h40 (ns no:Nat)(sz od:Nat->Int):List a0f:=[.var [.d .nil,.d .nil,.d .nil,.d .nil,int 0],.var [isl ns sz,isl no od,.d .nil,.d .nil,int 0],arrI ns fun _=>0]
section
variable (c:CaR) (p:PlR) {np:Nat} {pc:Nat->Int}
end
end Go.Proofs.Tryz.Run
