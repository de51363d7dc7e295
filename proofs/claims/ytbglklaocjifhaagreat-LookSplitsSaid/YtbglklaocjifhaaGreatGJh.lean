/- LookWays. Conditions: none. -/
import Derived.Test.YtbglklaocjifhaaGreatGSx
import Derived.Test.YtbglklaocjifhaaGreatGHm
open Go.Vf.ab renaming refl->AA
open Go.Proofs.Tryz renaming prog->AB
open Go.Proofs.YtbglklaocjifhaaGreat.Tryz renaming mixed->AC
open Int renaming ofNat_eq_natCast->AD,toNat_natCast->AE,ofNat_lt->AI,ofNat_le->AL,ofNat->AM,natCast_nonneg->AU,mul_le_mul_of_nonneg_right->AW,lt_or_le->Af,add_comm->Ag,le_refl->Ah,add_mul->Ai
open Bool renaming false->AF,true->AG,noConfusion->AK,eq_iff_iff->AR
open Nat renaming le_refl->AH,zero_add->AQ,not_lt_zero->AS,sub_zero->Aa
open Go.Vf.bx renaming Xd->AJ
open List renaming cons_append->AN,nil_append->AO,getD_eq_getElem?_getD->AX,length_nil->Ad
open Option renaming none->AP
open Go.Vf.fp renaming le->AT,gh->Ae,gt->Aj
open Go.Proofs.Tryz.Run renaming g7->AY,WD->AZ,Wg->Ab,g8->Ac
set_option linter.unusedSimpArgs false
set_option linter.unusedVariables false
set_option maxHeartbeats 0
set_option maxRecDepth 100000
namespace Go.Proofs.Tryz.Run
open Go Go.Vf Go.Proofs
open Go.Proofs.YtbglklaocjifhaaGreat
def n_ (q:Nat)(av:Nat->Int)(an:Nat->Nat)(ak:Nat->Nat->Int):ae:= .arr 2 q fun j=>[.int .i64 (.v (av j)),.sl 1 (an j) fun k=>[.int .i64 (.v (ak j k))]]
def MW (ns no:Nat)(sz od:Nat->Int):Prop:=pr ns no sz od≠0\/dv sz ns<=36
def HZ (d:AY):Prop:=(d.ns<=8/\d.no<=8/\d.ne<=62/\d.nn<=70)/\(∀i,i<d.nn->d.nk i<=12)/\MW d.ns d.no d.sz d.od
theorem HZ.fit {d:AY}(h:HZ d)(hw:d.wf):d.fit:=⟨by have:=h.1;omega,by have:=h.1;omega,by have:=h.1;omega,by have:=h.1;omega,fun i hi=>by have:=h.2.1 i hi;omega,hw.1,hw.2.1⟩
theorem h5x {ns no:Nat}(hs:ns<=8)(ho:no<=8)(sz od:Nat->Int): ∃er q:Int,au AB AG 39 [ac ns sz,ac no od] (int er)/\(er=0->au AB AG 72 [ac ns sz] (int q))/\(MW ns no sz od↔er≠0\/q<=36):=by
 refine⟨pr ns no sz od,min 3000 (dv sz ns),U2 (by omega) (by omega) sz od _ rfl,fun h=> ?_,?_⟩
 ·obtain⟨_,k2,_⟩:=IU h;exact i4b (by omega) sz k2 _ rfl
 ·unfold MW;exact or_congr Iff.rfl (by omega)
theorem h8s (d:AY)(r:Bool)(hr:r=AG↔HZ d):au AB AG 50 [d.av] (bool r):=by
 obtain⟨FT,Ln⟩:=xA (MW d.ns d.no d.sz d.od);have hq:d.ns<=8->d.no<=8-> ∃er q:Int,au AB AG 39 [ac d.ns d.sz,ac d.no d.od] (int er)/\(er=0->au AB AG 72 [ac d.ns d.sz] (int q))/\(FT↔er≠0\/q<=36):=fun h1 h2=>Ln▸h5x h1 h2 d.sz d.od;unfold HZ at hr;rw[Ln] at hr;clear Ln;obtain⟨ns,sz,no,od,ne,en,nn,var,nk,dq,root⟩:=d;simp only at hr hq;refine j6 (cr AC ci i9m _ rfl fun E Sg hb hS=> ?_);have e:=fh hS;cbv;split
 ·rename_i h;have h:8<ns:=tw hS h;cbv;exact jq hr fun h'=>by have:=h'.1;omega
 rename_i h;have h1:ns<=8:=tz hS h;cbv;split
 ·rename_i h;have h:8<no:=tw hS h;cbv;exact jq hr fun h'=>by have:=h'.1;omega
 rename_i h;have h2:no<=8:=tz hS h;cbv;split
 ·rename_i h;have h:62<ne:=tw hS h;cbv;exact jq hr fun h'=>by have:=h'.1;omega
 rename_i h;have h3:ne<=62:=tz hS h;cbv;split
 ·rename_i h;have h:70<nn:=tw hS h;cbv;exact jq hr fun h'=>by have:=h'.1;omega
 rename_i h;have h4:nn<=70:=tz hS h;obtain⟨er,q,q1,q2,q3⟩:=hq h1 h2;clear hq;cbv;refine gg AC ci hS (fun i=>i<=nn/\ ∀j,j<i->nk j<=12) (fun i=>nn-i)
  (fun i=>⟨dn [(1,.ptr 0 0),(3,int i)] 53,[.var [ac ns sz,ac no od,d7 ne en,AZ nn var nk dq,int root]],[]⟩) 0 ⟨by omega,by omega⟩ ?_ ?_
 ·exact bq rfl ⟨AA _,bg rfl,trivial⟩ (.cons (.refl _) (.nil _)) (by simp;omega) (.inr rfl) rfl
 ·intro i hi N hN;cbv;split
  ·rename_i h;have hlt:i<nn:=tw hS h;cbv;simp only[nat,e.toNat,AD,AE];refine ad hS (gf hS hlt) ?_;split
   ·rename_i h;have h:12<nk i:=tw hS h;cbv;exact jq hr fun h'=>by have:=h'.2.1 i hlt;omega
   ·rename_i h;have hk:nk i<=12:=tz hS h;cbv;refine ad hS (ji hS (by omega)) ?_;refine hN (i+1) _ ⟨by omega,fun j hj=> ?_⟩ (by omega) (bq rfl ⟨AA _,je hS,trivial⟩ (.cons (.refl _) (.nil _)) (by simp;omega) (.inr rfl) rfl);by_cases e:j=i
    ·subst e;exact hk
    ·exact hi.2 j (by omega)
  ·rename_i h;have aq:nn<=i:=tz hS h;have cd: ∀j,j<nn->nk j<=12:=fun j hj=>hi.2 j (by omega);cbv;refine bf hS _ q1 ?_;cbv;by_cases h0:er=0
   ·subst h0;simp only[e.md,e.jp];cbv;refine bf hS _ (q2 rfl) ?_;cbv;refine ga ?_;simp only[e.WA];rw[AR,hr,decide_eq_true_iff];refine⟨fun h=>⟨⟨h1,h2,h3,h4⟩,cd,q3.2 (.inr h)⟩,fun h=> ?_⟩;rcases q3.1 h.2.2 with h|h
    ·exact absurd rfl h
    ·exact h
   ·have o7:(er==AM 0)=AF:=beq_false_of_ne h0;simp only[e.md,e.jp,o7];cbv;exact Ir hr ⟨⟨h1,h2,h3,h4⟩,cd,q3.2 (.inl h0)⟩
structure i6 where
 ns:Nat
 sz:Nat->Int
 no:Nat
 od:Nat->Int
 nl:Nat
 lk:Nat->AY
 nr:AY
 goal:AY
def g7.cs (d:AY):List AV:=[ac d.ns d.sz,ac d.no d.od,d7 d.ne d.en,AZ d.nn d.var d.nk d.dq,int d.root]
def i6.av (c:i6):AV:= .agg ([ac c.ns c.sz,ac c.no c.od,Ab c.nl c.lk]++c.nr.cs++c.goal.cs)
def KL (c:i6):Prop:=(c.ns<=8/\c.no<=8/\c.nl<=6)/\HZ c.nr/\HZ c.goal/\(∀i,i<c.nl->HZ (c.lk i))/\MW c.ns c.no c.sz c.od
theorem i3u (c:i6)(r:Bool)(hr:r=AG↔KL c):au AB AG 18 [c.av] (bool r):=by
 obtain⟨FT,Ln⟩:=xA (MW c.ns c.no c.sz c.od);have hq:c.ns<=8->c.no<=8-> ∃er q:Int,au AB AG 39 [ac c.ns c.sz,ac c.no c.od] (int er)/\(er=0->au AB AG 72 [ac c.ns c.sz] (int q))/\(FT↔er≠0\/q<=36):=fun h1 h2=>Ln▸h5x h1 h2 c.sz c.od;obtain⟨zi,HG⟩: ∃z:Bool,z=AG↔HZ c.nr:=by classical exact⟨decide _,decide_eq_true_iff⟩
 obtain⟨zg,hzg⟩: ∃z:Bool,z=AG↔HZ c.goal:=by classical exact⟨decide _,decide_eq_true_iff⟩
 obtain⟨zl,lr⟩: ∃z:Nat->Bool,∀i,z i=AG↔HZ (c.lk i):=by classical exact⟨fun i=>decide _,fun i=>decide_eq_true_iff⟩
 have g1:au AB AG 50 [.agg c.nr.cs] (bool zi):=h8s c.nr zi HG;have g2:au AB AG 50 [.agg c.goal.cs] (bool zg):=h8s c.goal zg hzg;have g3: ∀i,au AB AG 50 [(c.lk i).av] (bool (zl i)):=fun i=>h8s (c.lk i) (zl i) (lr i);unfold KL at hr;rw[Ln,<-HG,<-hzg] at hr;simp only[<-lr] at hr;clear Ln HG hzg lr;obtain⟨ns,sz,no,od,nl,lk,⟨ins,pn,ino,pk,ph,pf,nr,gr,pj,gq,dh⟩,⟨oy,o4,ow,oz,oi,gen,ov,gj,ot,gi,db⟩⟩:=c;simp only[i6.av,g7.cs,AN,AO] at*
 refine j6 (cr AC ci i8n _ rfl fun E Sg hb hS=> ?_);have e:=fh hS;cbv;split
 ·rename_i h;have h:8<ns:=tw hS h;cbv;exact jq hr fun h'=>by have:=h'.1;omega
 rename_i h;have h1:ns<=8:=tz hS h;cbv;split
 ·rename_i h;have h:8<no:=tw hS h;cbv;exact jq hr fun h'=>by have:=h'.1;omega
 rename_i h;have h2:no<=8:=tz hS h;obtain⟨er,q,q1,q2,q3⟩:=hq h1 h2;clear hq;cbv;split
 ·rename_i h;have h:6<nl:=tw hS h;cbv;exact jq hr fun h'=>by have:=h'.1;omega
 rename_i h;have h3:nl<=6:=tz hS h;cbv;refine bf hS _ g1 ?_;cases zi
 ·cbv;exact jq hr fun h'=>AK h'.2.1
 cbv;refine bf hS _ g2 ?_;cases zg
 ·cbv;exact jq hr fun h'=>AK h'.2.2.1
 cbv;refine gg AC ci hS (fun i=>i<=nl/\ ∀j,j<i->zl j=AG) (fun i=>nl-i)
  (fun i=>⟨dn [(1,.ptr 0 0),(3,int i)] 58,[.var [ac ns sz,ac no od,Ab nl lk,ac ins pn,ac ino pk,d7 ph pf,AZ nr gr pj gq,int dh,ac oy o4,ac ow oz,d7 oi gen,AZ ov gj ot gi,int db]],[]⟩) 0 ⟨by omega,by omega⟩ ?_ ?_
 ·exact bq rfl ⟨AA _,bg rfl,trivial⟩ (.cons (.refl _) (.nil _)) (by simp;omega) (.inr rfl) rfl
 ·intro i hi N hN;cbv;split
  ·rename_i h;have hlt:i<nl:=tw hS h;cbv;simp only[nat,e.toNat,AD,AE];refine ad hS (gf hS hlt) ?_;refine bf hS (bool (zl i)) (g3 i) ?_;cases hz:zl i
   ·cbv;exact jq hr fun h'=>by have:=h'.2.2.2.1 i hlt;rw[hz] at this;cases this
   ·cbv;refine ad hS (ji hS (by omega)) ?_;refine hN (i+1) _ ⟨by omega,fun j hj=> ?_⟩ (by omega) (bq rfl ⟨AA _,je hS,trivial⟩ (.cons (.refl _) (.nil _)) (by simp;omega) (.inr rfl) rfl);by_cases e:j=i
    ·subst e;exact hz
    ·exact hi.2 j (by omega)
  ·rename_i h;have aq:nl<=i:=tz hS h;have cd: ∀j,j<nl->zl j=AG:=fun j hj=>hi.2 j (by omega);cbv;refine bf hS _ q1 ?_;cbv;by_cases h0:er=0
   ·subst h0;simp only[e.md,e.jp];cbv;refine bf hS _ (q2 rfl) ?_;cbv;refine ga ?_;simp only[e.WA];rw[AR,hr,decide_eq_true_iff];refine⟨fun h=>⟨⟨h1,h2,h3⟩,rfl,rfl,cd,q3.2 (.inr h)⟩,fun h=> ?_⟩;rcases q3.1 h.2.2.2.2 with h|h
    ·exact absurd rfl h
    ·exact h
   ·have o7:(er==AM 0)=AF:=beq_false_of_ne h0;simp only[e.md,e.jp,o7];cbv;exact Ir hr ⟨⟨h1,h2,h3⟩,rfl,rfl,cd,q3.2 (.inl h0)⟩
theorem i4n {n:Nat}(hn:n<=1000000)(g:Nat->Int)(res:AV)(cq:res=ac n g):au AB AF 74 [ac n g] res:=by
 refine cr AC ci g4b _ rfl fun E Sg hb hS=> ?_;cases n with
 |zero=>cbv;subst cq;exact ab.Yz
 |succ n=>cbv;refine ad hS (tq hS (show _<=1073741824 by omega)) (ad hS (tq hS (AH _)) ?_);subst cq;exact AA _
theorem L2 {n:Nat}(hn:n<=1000000)(g:Nat->Int):au AB AF 74 [ac n g] (ac n g):=i4n hn g _ rfl
theorem K9 (d:AY)(hd:d.fit):au AB AF 70 [d.av] d.av:=by
 have q1:=L2 hd.ns d.sz;have q2:=L2 hd.no d.od;have q4:=fun i hi=>L2 (hd.nk i hi) (d.dq i);have h1:=hd.ne;have h2:=hd.nn;clear hd;obtain⟨ns,sz,no,od,ne,en,nn,var,nk,dq,root⟩:=d;simp only at q1 q2 q4 h1 h2;refine cr AC ci h1m _ rfl fun E Sg hb hS=> ?_;have e:=fh hS;cbv;refine bf hS _ q1 ?_;cbv;refine bf hS _ q2 ?_;cbv;refine ad hS (tq hS (show ne<=1073741824 by omega)) ?_;refine HO AC ci hS (fun i=>i<=nn) (fun i=>nn-i)
  (fun i=>⟨dn [(1,.ptr 0 0),(2,.ptr 1 0),(3,.ptr 2 0),(4,int i)] 44,[.var [ac ns sz,ac no od,d7 ne en,AZ nn var nk dq,int root],.var [.d .nil,.d .nil,.d .nil,.d .nil,int 0],.var [ac ns sz,ac no od,d7 ne en,.bi 3 2 AP i AF,int root],n_ i var nk dq],[3]⟩)
  0 (by omega) ?_ ?_
 ·exact (Ae 2 3 2 (fun _=>[]) rfl rfl).trans (AT (bq rfl ⟨AA _,AA _,AA _,bg rfl,trivial⟩
   (.cons (.refl _) (.cons (.var (.cons (AA _) (.cons (AA _) (.cons (AA _) (.cons (AA _) (.cons (bg rfl) .nil)))))) (.cons (.refl _) (.cons (AJ rfl fun j hj=>by omega) (.nil _))))) (by simp;omega) (.inr rfl) rfl))
 ·intro i hi N hN;cbv;split
  ·rename_i h;have hlt:i<nn:=tw hS h;cbv;simp only[nat,e.toNat,AD,AE];refine ad hS (gf hS hlt) (ad hS (gf hS hlt) ?_);refine bf hS _ (q4 i hlt) ?_;cbv;refine ad hS (mc hS) (ad hS trivial (ad hS (uh hS (by omega)) (ad hS (ji hS (by omega)) ?_)));refine hN (i+1) _ hlt (by omega) (AT (bq rfl ⟨AA _,AA _,AA _,je hS,trivial⟩
    (.cons (.refl _) (.cons (.refl _) (.cons (.var (.cons (AA _) (.cons (AA _) (.cons (AA _) (.cons (w7 hS) (.cons (AA _) .nil)))))) (.cons (yc hS (fun j hj=> .refl _) (.refl _)) (.nil _))))) (by simp;omega) (.inr rfl) rfl))
  ·rename_i h;have aq:i=nn:=by have:=tz hS h;omega
   cbv;refine ad hS (tq hS (AH _)) ?_;subst aq;exact AA _
theorem h9z (n:Nat)(hn:n<=1000000)(l:Nat->AY)(hl: ∀i,i<n->(l i).fit):au AB AF 75 [Ab n l] (Ab n l):=by
 have q:=fun i hi=>K9 (l i) (hl i hi);refine cr AC ci h3k _ rfl fun E Sg hb hS=> ?_;have e:=fh hS;cbv;refine HO AC ci hS (fun i=>i<=n) (fun i=>n-i)
  (fun i=>⟨dn [(0,Ab n l),(3,.bi 0 5 AP i AF),(4,int i)] 20,[.arr 5 i fun j=>(l j).row],[0]⟩) 0 (by omega) ?_ ?_
 ·exact (Aj 3 5 (fun _=>[]) rfl).trans (AT (bq rfl ⟨AA _,AA _,bg rfl,trivial⟩
   (.cons (AJ rfl fun j hj=>by omega) (.nil _)) (by simp;omega) (.inr rfl) rfl))
 ·intro i hi N hN;cbv;split
  ·rename_i h;have hlt:i<n:=tw hS h;cbv;simp only[nat,e.toNat,AD,AE];refine ad hS (gf hS hlt) ?_;refine bf hS _ (q i hlt) ?_;cbv;refine ad hS trivial (ad hS (uh hS (by omega)) (ad hS (ji hS (by omega)) ?_));exact hN (i+1) _ hlt (by omega) (AT (bq rfl ⟨AA _,w7 hS,je hS,trivial⟩
    (.cons (yc hS (fun j hj=> .refl _) (.refl _)) (.nil _)) (by simp;omega) (.inr rfl) rfl))
  ·rename_i h;have aq:i=n:=by have:=tz hS h;omega
   cbv;refine ad hS (tq hS (AH _)) ?_;subst aq;exact AA _
theorem gb.bd {v:Ac}(h:gb v)(h0:0<=v.fault):(0<=v.fault/\v.fault<=255)/\rq v.n:=by unfold gb at h;unfold rq;split at h<;>omega
structure Mt (d:AY):Prop where
 fr:pr d.ns d.no d.sz d.od=0
 nn:d.nn<=6000
 loose:mw d
 dia:Io d
theorem MO {d:AY}(h:s8 d=0):Mt d:=by obtain⟨h1,h2⟩:=U6 h;obtain⟨h3,h4,h5⟩:=Tj h1;exact⟨h3,h4,h5,h2⟩
theorem h7t {sz:Nat->Int}{n:Nat}(hs: ∀i,i<n->1<=sz i): ∀m,m<=n->dv sz m<=dv sz n:=fun m hm=>by
 induction n with
 |zero=>rw[show m=0 by omega];exact Ah _
 |succ n ih=>
  by_cases e:m=n+1
  ·rw[e];exact Ah _
  ·have h1:=ih (fun i hi=>hs i (by omega)) (by omega);have h2:=Ky (g:=sz) (n:=n) fun i hi=>hs i (by omega);have h3:=hs n (by omega);rw[dv];refine Int.le_trans h1 ?_;have:=Int.mul_le_mul_of_nonneg_left h3 (show 0<=dv sz n by omega);omega
theorem i7u {x:Int}{i:Nat}(h:x<i):(x+1).toNat<((i:Int)+1).toNat:=by omega
theorem i5h {d:AY}(hl:mw d){pl:Nat->Int}(hp:GN d pl): ∀k:Int,sv d.ne k d.nn->jj d pl k<0/\ -1-jj d pl k<d.ne:=by
 have: ∀(m:Nat) (k:Int),k<m->sv d.ne k d.nn->jj d pl k<0/\ -1-jj d pl k<d.ne:=by
  intro m
  induction m with
  |zero=>intro k hm hr;rw[Gp (by omega)];exact⟨by omega,hr.2 (by omega)⟩
  |succ m ih=>
   intro k hm hr;by_cases h0:k<0
   ·rw[Gp h0];exact⟨h0,hr.2 h0⟩
   ·obtain⟨i,rfl⟩: ∃i:Nat,k=i:=⟨k.toNat,by omega⟩;have hi:i<d.nn:=by have:=hr.1 (by omega);omega
    rw[NZ hl hp hi];have h1:=(NB hl hp hi).2.2;refine ih _ ?_ ⟨fun h=>by have:=h1.1 h;omega,h1.2⟩;rcases Af (d.dq i (pl (d.var i).toNat).toNat) 0 with h|h
    ·omega
    ·have:=h1.1 h;omega
 intro k hr;exact this (k.toNat+1) k (by omega) hr
theorem i6q (d:AY)(hl:mw d)(hf:d.fit)(pl:Nat->Int)(hp:GN d pl)(cf cn:Int)(hc:d.en (-1-jj d pl d.root).toNat=⟨cf,cn⟩):au AB AF 94 [d.av,ac d.ns pl] (.agg [u8 cf,int cn]):=by
 have wa:=y6 hl.2.2;have iz:=fun k hk=>NB hl hp (k:=k) hk;have fj:=fun i hi=>NZ hl hp (i:=i) hi;have hw:=i5h hl hp d.root wa;have ck:=hf.ne;obtain⟨W,hW⟩: ∃W,W=jj d pl d.root:=⟨_,rfl⟩;rw[<-hW] at hw hc;have hw3: -1-W<=1000000:=by have:=AL.2 ck;omega
 have o9: ∀k:Int,k<0->jj d pl k=W->k=W:=fun k h e=>by rw[Gp h] at e;exact e
 obtain⟨Y,hY⟩:=xB fun k:Int=>jj d pl k;simp only[hY] at fj o9 hW;clear hY hl hp hf;obtain⟨ns,sz,no,od,ne,en,nn,var,nk,dq,root⟩:=d;simp only at iz fj hW wa hc hw ck;refine cr AC ci i9e _ rfl fun E Sg hb hS=> ?_;have e:=fh hS;cbv;refine gg AC ci hS (σ:=Int) (fun k=>sv ne k nn/\Y k=W) (fun k=>(k+1).toNat)
  (fun k=>⟨dn [(1,ac ns pl),(2,.ptr 0 0),(4,.ptr 1 0),(5,int k)] 33,[.var [ac ns sz,ac no od,d7 ne en,AZ nn var nk dq,int root],.var [u8 0,int 0]],[]⟩) root ⟨wa,hW.symm⟩ ?_ ?_
 ·exact bq rfl ⟨AA _,AA _,AA _,AA _,trivial⟩ (.cons (.refl _) (.cons (.var (.cons (bg rfl) (.cons (bg rfl) .nil))) (.nil _))) (by simp;omega) (.inr rfl) rfl
 ·rintro k ⟨ij,cp⟩ N hN;cbv;split
  ·rename_i h;have h0:0<=k:=e3n hS h;cbv;obtain⟨i,rfl⟩: ∃i:Nat,k=i:=⟨k.toNat,(Int.toNat_of_nonneg h0).symm⟩;have hi:i<nn:=AI.1 (ij.1 (AU i));obtain⟨n1,n2,n3⟩:=iz i hi;simp only[nat,e.toNat,AD,AE];refine ad hS (gf hS hi) (ad hS (gf hS hi) (ad hS (qw hS n1) (ad hS (qw hS n2) ?_)));refine hN (dq i (pl (var i).toNat).toNat) _ ⟨⟨fun h=>Int.lt_trans (n3.1 h) (AI.2 hi),n3.2⟩,by rw[<-fj i hi];exact cp⟩ ?_ (bq rfl ⟨AA _,AA _,AA _,AA _,trivial⟩ (.same _) (by simp;omega) (.inr rfl) rfl);refine i7u ?_;rcases Af (dq i (pl (var i).toNat).toNat) 0 with h|h
   ·exact Int.lt_of_lt_of_le h (AU i)
   ·exact n3.1 h
  ·rename_i h;have h0:k<0:=Vg hS h;cbv;have hkW:=o9 k h0 cp;subst hkW;have vz:(Int.negSucc 0-k).toNat=(-1-k).toNat:=rfl;simp only[nat,e.toNat,e.Vz,vz,hc];refine ad hS (ru hS (show-9223372036854775808<= -1-k/\ -1-k<=9223372036854775807 by omega)) (ad hS (qw hS (show 0<= -1-k/\ -1-k<(ne:Int) from⟨by omega,hw.2⟩)) ?_);exact AA _
theorem i3z {a b c:Int}(ha:0<=a)(hb:0<b)(hc:0<=c/\c<b):(a*b+c).tmod b=c/\(a*b+c).tdiv b=a:=by
 have h0:0<=a*b+c:=by have:=Int.mul_nonneg ha (Int.le_of_lt hb);omega
 rw[Int.tmod_eq_emod_of_nonneg h0,Int.tdiv_eq_ediv_of_nonneg h0];constructor
 ·rw[Ag,Int.add_mul_emod_self_right];exact Int.emod_eq_of_lt hc.1 hc.2
 ·rw[Ag,Int.add_mul_ediv_right _ _ (by omega),Int.ediv_eq_zero_of_lt hc.1 hc.2];omega
theorem i2g {ns:Nat}(nu:ns<=1000000)(sz g:Nat->Int)(hs: ∀i,i<ns->1<=sz i/\sz i<=12)(hp:dv sz ns<=2000)(hg:HS sz g ns)(n:Int)(hn:jc sz g ns=n):au AB AF 34 [ac ns sz,int n] (ac ns g):=by
 obtain⟨V,hV⟩:=xB fun i:Nat=>jc sz g i;have hV1: ∀i,V (i+1)=V i*sz i+g i:=fun i=>by rw[<-hV,<-hV];rfl
 have hV0: ∀i,i<=ns->0<=V i/\V i<=2000:=fun i hi=>by have h1:=Uc (sz:=sz) (pl:=g) (n:=i) fun j hj=>hg j (by omega);have h2:=h7t (sz:=sz) (n:=ns) (fun i hi=>(hs i hi).1) i hi;rw[<-hV];omega
 rw[hV] at hn;obtain⟨K,hK⟩: ∃K:Nat->Int,∀p,K p=(ns:Int)-1-p:=⟨_,fun _=>rfl⟩;obtain⟨J,hJ⟩: ∃J:Nat->Nat,∀p,J p=ns-1-p:=⟨_,fun _=>rfl⟩;have hK1: ∀p,p<ns->K p=J p:=fun p hp=>by rw[hK,hJ];omega
 have hKp: ∀p,p<=ns->0<=K p->p<ns:=fun p hp h=>by rw[hK] at h;omega
 have hKn: ∀p,p<=ns->K p<0->p=ns:=fun p hp h=>by rw[hK] at h;omega
 have hK2: ∀p,K (p+1)=K p-1:=fun p=>by rw[hK,hK];omega
 have hK0:K 0=(ns:Int)-1:=by rw[hK];omega
 obtain⟨B,hB⟩: ∃B:Nat->Nat->Int,∀p i,B p i=if ns-p<=i then g i else 0:=⟨_,fun _ _=>rfl⟩;obtain⟨M,hM⟩: ∃M:Nat->Int,∀p,M p=V (ns-p):=⟨_,fun _=>rfl⟩;have GC:M 0=n:=by rw[hM,Aa,hn]
 have hM1: ∀p,p<ns->(M p).tmod (sz (J p))=g (J p)/\(M p).tdiv (sz (J p))=M (p+1)/\0<sz (J p)/\0<=M (p+1)/\M (p+1)<=2000:=fun p hp=>by
  have h1:ns-p=J p+1:=by rw[hJ];omega
  have h2:ns-(p+1)=J p:=by rw[hJ];omega
  have xt:J p<ns:=by rw[hJ];omega
  have h3:=hV0 (J p) (by omega);have h4:=hs (J p) xt;obtain⟨h5,h6⟩:=i3z h3.1 (show 0<sz (J p) by omega) (hg (J p) xt);rw[hM,hM,h1,h2,hV1];exact⟨h5,h6,by omega,h3⟩
 refine cr AC ci i8y _ rfl fun E Sg hb hS=> ?_;have e:=fh hS;cbv;simp only[e.ofNat,e.toNat,AE];refine ad hS (HH hS (AU _)) (ad hS (HH hS (AL.2 (show ns<=1073741824 by omega))) (ad hS (a9o hS (show-9223372036854775808<=(ns:Int)-1/\(ns:Int)-1<=9223372036854775807 by omega)) ?_));refine gg AC ci hS (fun p=>p<=ns) (fun p=>ns-p)
  (fun p=>⟨dn [(0,ac ns sz),(1,int (M p)),(5,.bi 0 1 AP ns AF),(6,int (K p))] 33,[g9 ns (B p)],[]⟩) 0 (by omega) ?_ ?_
 ·refine bq rfl ⟨AA _,br GC.symm,AA _,br (by simp only[e.Vz,hK0];rfl),trivial⟩ (.cons (h8m hS fun j hj=>by rw[hB,if_neg (by omega)];exact .one (.int rfl)) (.nil _)) (by simp;omega) (.inr rfl) rfl
 ·intro p hp N hN;cbv;split
  ·rename_i h;have hlt:p<ns:=hKp p hp (e3n hS h);have hj:=hK1 p hlt;have xt:J p<ns:=by rw[hJ];omega
   obtain⟨m1,m2,m3,m4,m5⟩:=hM1 p hlt;cbv;simp only[nat,e.toNat,e.W4,e.Xv,hj,AE,m1,m2];refine ad hS (gf hS xt) (ad hS (i6p hS (by omega)) (ad hS (gf hS xt) (ad hS (HJ hS xt) (ad hS (gf hS xt) (ad hS (i6p hS (by omega)) (ad hS (ru hS (by omega)) (ad hS (a9o hS (show-9223372036854775808<=(J p:Int)-1/\(J p:Int)-1<=9223372036854775807 by omega)) ?_)))))));refine hN (p+1) _ hlt (by omega) (bq rfl ⟨AA _,AA _,AA _,br (by simp only[e.Vz,hK2,hj];rfl),trivial⟩ (.cons (h8j hS ?_ ?_) (.nil _)) (by simp;omega) (.inr rfl) rfl)
   ·intro j Ii ck;rw[hJ] at ck;rw[hB,hB];by_cases h:ns-p<=j
    ·rw[if_pos h,if_pos (by omega)];exact .refl _
    ·rw[if_neg h,if_neg (by omega)];exact .refl _
   ·intro _;rw[hB,if_pos (by rw[hJ];omega)];exact .refl _
  ·rename_i h;have hpn:p=ns:=hKn p hp (Vg hS h);cbv;refine ad hS (tq hS (AH _)) ?_;exact ab.ac rfl fun i hi=>by rw[hB,if_pos (by omega)]
theorem i6a (d:AY)(hd:Mt d)(hf:d.fit){T:Nat}(hT:(T:Int)=dv d.sz d.ns):au AB AF 54 [d.av] (d7 T d.cell):=by
 obtain⟨h1,h2,h3,h4,_⟩:=IU hd.fr;have hle:Gi d=0:=by unfold Gi;rw[hd.fr];simp[hd.loose,show¬6000<d.nn by have:=hd.nn;omega]
 have h84:=h5v d hf 0 hle;have hT2:T<=2000:=AL.1 (by rw[<-hT] at h3;exact h3);have h52:=i4b (n:=d.ns) (by omega) d.sz h2 (T:Int) (by rw[hT];omega);have qk: ∀p,p<T->HS d.sz (js d.sz d.ns p) d.ns/\jc d.sz (js d.sz d.ns p) d.ns=p:=fun p hp=>HW (fun j hj=>(h2 j hj).1) p (by rw[<-hT];exact AI.2 hp);have Ld:=fun p hp=>i2g (ns:=d.ns) (by omega) d.sz (js d.sz d.ns p) h2 h3 (qk p hp).1 (p:Int) (qk p hp).2;have o5:=fun p (hp:p<T)=>i6q d hd.loose hf (js d.sz d.ns p) (qk p hp).1 (d.cell p).fault (d.cell p).n rfl;clear qk h1 h2 h3 h4 hle hd hf hT;obtain⟨Q,hQ⟩: ∃Q:Nat->Nat->Int,∀p,js d.sz d.ns p=Q p:=⟨_,fun _=>rfl⟩;simp only[hQ] at Ld o5;clear hQ;obtain⟨cell,jk⟩: ∃cell,d.cell=cell:=⟨_,rfl⟩;rw[jk] at o5⊢;clear jk;obtain⟨ns,sz,no,od,ne,en,nn,var,nk,dq,root⟩:=d;simp only at h84 h52 Ld o5;refine cr AC ci i9p _ rfl fun E Sg hb hS=> ?_;have e:=fh hS;cbv;refine bf hS _ h84 ?_;cbv;simp only[e.md,e.jp];cbv;refine HO AC ci hS (fun p=>p<=T) (fun p=>T-p)
  (fun p=>⟨dn [(1,.ptr 0 0),(3,.bi 1 2 AP p AF),(4,int p)] 25,[.var [ac ns sz,ac no od,d7 ne en,AZ nn var nk dq,int root],.arr 2 p fun i=>(cell i).row],[1]⟩) 0 (by omega) ?_ ?_
 ·exact (Aj 3 2 (fun _=>[]) rfl).trans (AT (bq rfl ⟨AA _,AA _,bg rfl,trivial⟩ (.cons (.refl _) (.cons (AJ rfl fun j hj=>by omega) (.nil _))) (by simp;omega) (.inr rfl) rfl))
 ·intro p hp N hN;cbv;refine bf hS _ h52 ?_;cbv;split
  ·rename_i h;have hlt:p<T:=AI.1 (ry hS h);cbv;refine bf hS _ (Ld p hlt) ?_;cbv;refine ad hS (mc hS) ?_;refine bf hS _ (o5 p hlt) ?_;cbv;refine ad hS trivial (ad hS (uh hS (by omega)) (ad hS (ji hS (by omega)) ?_));exact hN (p+1) _ hlt (by omega) (AT (bq rfl ⟨AA _,w7 hS,je hS,trivial⟩ (.cons (.refl _) (.cons (yc hS (fun j hj=> .refl _) (.refl _)) (.nil _))) (by simp;omega) (.inr rfl) rfl))
  ·rename_i h;have aq:p=T:=by have:=AL.1 (s9 hS h);omega
   subst aq;cbv;refine ad hS (tq hS (AH _)) ?_;exact AA _
def i6.dg (c:i6)(i:Nat):AY:=if i<c.nl then c.lk i else if i=c.nl then c.nr else c.goal
def MY (n:Nat)(er:Nat->Int)(S:Nat->Prop)(r:Int):Prop:=
 (∃i,i<n/\(∀j,j<i->er j=0)/\er i≠0/\r=er i)\/((∀i,i<n->er i=0)/\((∀i,i<n->S i)/\r=0\/(¬ ∀i,i<n->S i)/\r=2))
theorem i3n (n:Nat)(er:Nat->Int):(∀i,i<n->er i=0)\/ ∃i,i<n/\(∀j,j<i->er j=0)/\er i≠0:=by
 induction n with
 |zero=>exact .inl (by omega)
 |succ m ih=>
  rcases ih with h1|⟨i,h1,h2,h3⟩
  ·by_cases he:er m=0
   ·refine .inl fun j hj=> ?_;by_cases e:j=m
    ·subst e;exact he
    ·exact h1 j (by omega)
   ·exact .inr ⟨m,by omega,h1,he⟩
  ·exact .inr ⟨i,by omega,h2,h3⟩
theorem i4g (n:Nat)(er:Nat->Int)(S:Nat->Prop): ∃r,MY n er S r:=by
 rcases i3n n er with h|⟨i,h1,h2,h3⟩
 ·by_cases g: ∀i,i<n->S i
  ·exact⟨0,.inr ⟨h,.inl ⟨g,rfl⟩⟩⟩
  ·exact⟨2,.inr ⟨h,.inr ⟨g,rfl⟩⟩⟩
 ·exact⟨er i,.inl ⟨i,h1,h2,h3,rfl⟩⟩
theorem h9a {n:Nat}{er:Nat->Int}{S:Nat->Prop}{r:Int}(h:MY n er S r){i:Nat}(hi:i<n)(h0: ∀j,j<i->er j=0)(he:er i≠0):r=er i:=by
 rcases h with⟨k,a,b,c,d⟩|⟨a,_⟩
 ·rcases Nat.lt_trichotomy i k with h|h|h
  ·exact absurd (b i h) he
  ·subst h;exact d
  ·exact absurd (h0 k h) c
 ·exact absurd (a i hi) he
theorem i1p {n:Nat}{er:Nat->Int}{S:Nat->Prop}{r:Int}(h:MY n er S r)(h0: ∀j,j<n->er j=0):((∀i,i<n->S i)->r=0)/\((¬ ∀i,i<n->S i)->r=2):=by
 rcases h with⟨k,a,b,c,d⟩|⟨_,h⟩
 ·exact absurd (h0 k a) c
 ·rcases h with⟨a,b⟩|⟨a,b⟩
  ·exact⟨fun _=>b,fun h=>absurd a h⟩
  ·exact⟨fun h=>absurd h a,fun _=>b⟩
def i6.same (c:i6)(i:Nat):Prop:=L (c.dg i).ns (c.dg i).sz=L c.ns c.sz/\L (c.dg i).no (c.dg i).od=L c.no c.od
def Gy (c:i6)(r:Int):Prop:=
 (pr c.ns c.no c.sz c.od≠0/\r=pr c.ns c.no c.sz c.od)\/(pr c.ns c.no c.sz c.od=0/\(4<c.nl/\r=5\/c.nl<=4/\MY (c.nl+2) (fun i=>s8 (c.dg i)) c.same r))
theorem i3o (c:i6): ∃r,Gy c r:=by
 by_cases h:pr c.ns c.no c.sz c.od=0
 ·by_cases h2:4<c.nl
  ·exact⟨5,.inr ⟨h,.inl ⟨h2,rfl⟩⟩⟩
  ·obtain⟨r,hr⟩:=i4g (c.nl+2) (fun i=>s8 (c.dg i)) c.same;exact⟨r,.inr ⟨h,.inr ⟨by omega,hr⟩⟩⟩
 ·exact⟨_,.inl ⟨h,rfl⟩⟩
structure i6.fit (c:i6):Prop where
 ns:c.ns<=8
 no:c.no<=8
 nl:c.nl<=6
 dg: ∀i,i<c.nl+2->(c.dg i).fit
 Yu: ∀i,i<c.nl+2-> ∀j,j<(c.dg i).ne->0<=((c.dg i).en j).fault
 od: ∀i,i<c.nl+2->(c.dg i).no<=8
theorem i6.WL {c:i6}{i:Nat}(h:i<c.nl):c.dg i=c.lk i:=if_pos h
theorem i6.WK (c:i6):c.dg c.nl=c.nr:=by simp[i6.dg]
theorem i6.Wj (c:i6):c.dg (c.nl+1)=c.goal:=by unfold i6.dg;rw[if_neg (by omega),if_neg (by omega)]
theorem i6.rows (c:i6): ∀j,j<c.nl+2->(if j<c.nl then (c.lk j).row else Vf.rowAt [c.nr.row,c.goal.row] (j-c.nl))=(c.dg j).row:=fun j hj=>by
 unfold i6.dg;by_cases h:j<c.nl
 ·rw[if_pos h,if_pos h]
 ·rw[if_neg h,if_neg h];by_cases e:j=c.nl
  ·subst e;rw[if_pos rfl,Nat.sub_self];rfl
  ·rw[if_neg e,show j-c.nl=1 by omega];rfl
theorem i2f (c:i6)(hc:c.fit)(r:Int)(hr:Gy c r):au AB AG 42 [c.av] (int r):=by
 have q1:=U2 (n:=c.ns) (m:=c.no) (by have:=hc.ns;omega) (by have:=hc.no;omega) c.sz c.od _ rfl;obtain⟨er,Lx⟩:=xB fun i:Nat=>s8 (c.dg i);have q2:=fun i hi=>i5e (c.dg i) (hc.dg i hi) (er i) (Lx i);obtain⟨z1,jl⟩: ∃z:Nat->Bool,∀i,z i=AG↔L (c.dg i).ns (c.dg i).sz=L c.ns c.sz:=by classical exact⟨fun i=>decide _,fun i=>decide_eq_true_iff⟩
 obtain⟨z2,eb⟩: ∃z:Nat->Bool,∀i,z i=AG↔L (c.dg i).no (c.dg i).od=L c.no c.od:=by classical exact⟨fun i=>decide _,fun i=>decide_eq_true_iff⟩
 have q3:=fun i (hi:i<c.nl+2)=>h7o (c.dg i).ns c.ns (c.dg i).sz c.sz (hc.dg i hi).ns (z1 i) (jl i);have q4:=fun i (hi:i<c.nl+2)=>h7o (c.dg i).no c.no (c.dg i).od c.od (hc.dg i hi).no (z2 i) (eb i);have ft:=c.rows;have jy:=hc.nl;unfold Gy i6.same at hr;simp only[Lx,<-jl,<-eb] at hr;clear Lx jl eb hc;obtain⟨fe,GF⟩:=xA (pr c.ns c.no c.sz c.od);rw[GF] at hr q1;clear GF;obtain⟨D,hD⟩:=xB fun i:Nat=>c.dg i;obtain⟨m,hm⟩:=xA (c.nl+2);simp only[hD,hm] at q2 q3 q4 ft hr;clear hD;obtain⟨ns,sz,no,od,nl,lk,⟨ins,pn,ino,pk,ph,pf,nr,gr,pj,gq,dh⟩,⟨oy,o4,ow,oz,oi,gen,ov,gj,ot,gi,db⟩⟩:=c;simp only[i6.av,g7.cs,AN,AO] at*
 refine su (cr AC ci i6u _ rfl fun E Sg hb hS=> ?_);have e:=fh hS;cbv;refine bf hS _ q1 ?_;cbv;by_cases h0:fe=0
 rotate_left
 ·have o7:(fe==AM 0)=AF:=beq_false_of_ne h0;simp only[e.md,e.jp,o7];cbv;rcases hr with⟨_,h⟩|⟨h,_⟩
  ·exact br h.symm
  ·exact absurd h h0
 subst h0;simp only[e.md,e.jp];cbv;split
 ·rename_i h;have h:4<nl:=tw hS h;cbv;rcases hr with⟨h',_⟩|⟨_,⟨_,h'⟩|⟨h',_⟩⟩
  ·exact absurd rfl h'
  ·exact bg h'.symm
  ·omega
 rename_i h;have h4:nl<=4:=tz hS h;have hr:MY m er (fun i=>z1 i=AG/\z2 i=AG) r:=by
  rcases hr with⟨h',_⟩|⟨_,⟨h',_⟩|⟨_,h'⟩⟩
  ·exact absurd rfl h'
  ·omega
  ·exact h'
 cbv
 repeat (first|refine ad hS (mc hS) ?_|refine ad hS trivial ?_|refine ad hS (uh hS (by first|omega|(simp only[e.fd];omega))) ?_)
 refine gg AC ci hS (fun i=>i<=m/\ ∀j,j<i->er j=0) (fun i=>m-i)
  (fun i=>⟨dn [(1,.ptr 0 0),(4,.bi 1 5 AP m AF),(5,int i)] 70,[.var [ac ns sz,ac no od,Ab nl lk,ac ins pn,ac ino pk,d7 ph pf,AZ nr gr pj gq,int dh,ac oy o4,ac ow oz,d7 oi gen,AZ ov gj ot gi,int db],.arr 5 m fun j=>(D j).row],[1]⟩) 0 ⟨by omega,by omega⟩ ?_ ?_
 ·refine bq rfl ⟨AA _,?_,bg rfl,trivial⟩ (.cons (.refl _) (.cons (AJ ?_ fun j hj=> ?_) (.nil _))) (by simp;omega) (.inr rfl) rfl
  ·simp only[e.fd,AQ,hm];exact AA _
  ·simp only[e.fd,AQ,hm]
  ·simp only[e.fd,AQ] at hj;rw[hm] at hj;have h1:=ft j hj;simp only[e.app,e.fd,AQ,AS,if_false,Aa];rw[<-h1];exact .refl _
 ·intro i hi N hN;cbv;split
  ·rename_i h;have hlt:i<m:=tw hS h;cbv;simp only[nat,e.toNat,AD,AE];refine ad hS (gf hS hlt) (ad hS (HJ hS hlt) ?_);refine bf hS (int (er i)) (q2 i hlt) ?_;cbv;by_cases h0:er i=0
   rotate_left
   ·have o7:(er i==AM 0)=AF:=beq_false_of_ne h0;simp only[e.md,e.jp,o7];cbv;exact br (h9a hr hlt hi.2 h0).symm
   simp only[e.md,e.jp,h0];cbv;refine ad hS (ji hS (by omega)) ?_;refine hN (i+1) _ ⟨by omega,fun j hj=> ?_⟩ (by omega) (bq rfl ⟨AA _,AA _,je hS,trivial⟩ (.same _) (by simp;omega) (.inr rfl) rfl);by_cases e:j=i
   ·subst e;exact h0
   ·exact hi.2 j (by omega)
  ·rename_i h;have aq:m<=i:=tz hS h;have cd: ∀j,j<m->er j=0:=fun j hj=>hi.2 j (by omega);obtain⟨Qb,mb⟩:=i1p hr cd;clear hr cd hi hN q2;cbv;refine gg AC ci hS (fun i=>i<=m/\ ∀j,j<i->z1 j=AG/\z2 j=AG) (fun i=>m-i)
    (fun i=>⟨dn [(1,.ptr 0 0),(4,.bi 1 5 AP m AF),(7,int i)] 70,[.var [ac ns sz,ac no od,Ab nl lk,ac ins pn,ac ino pk,d7 ph pf,AZ nr gr pj gq,int dh,ac oy o4,ac ow oz,d7 oi gen,AZ ov gj ot gi,int db],.arr 5 m fun j=>(D j).row],[1]⟩) 0 ⟨by omega,by omega⟩ ?_ ?_
   ·exact bq rfl ⟨AA _,AA _,bg rfl,trivial⟩ (.same _) (by simp;omega) (.inr rfl) rfl
   ·intro i hi N hN;cbv;split
    ·rename_i h;have hlt:i<m:=tw hS h;have jn:(z1 i=AG/\z2 i=AG->False)->r=2:=fun h=>mb fun h'=>h (h' i hlt);cbv;simp only[nat,e.toNat,AD,AE]
     repeat (first|refine ad hS (gf hS hlt) ?_|refine ad hS (HJ hS hlt) ?_)
     refine bf hS (bool (z1 i)) (q3 i hlt) ?_;cases jl:z1 i
     ·cbv;exact bg (jn fun h=>by rw[jl] at h;cases h.1).symm
     cbv;simp only[nat,e.toNat,AD,AE]
     repeat (first|refine ad hS (gf hS hlt) ?_|refine ad hS (HJ hS hlt) ?_)
     refine bf hS (bool (z2 i)) (q4 i hlt) ?_;cases eb:z2 i
     ·cbv;exact bg (jn fun h=>by rw[eb] at h;cases h.2).symm
     cbv;refine ad hS (ji hS (by omega)) ?_;refine hN (i+1) _ ⟨by omega,fun j hj=> ?_⟩ (by omega) (bq rfl ⟨AA _,AA _,je hS,trivial⟩ (.same _) (by simp;omega) (.inr rfl) rfl);by_cases e:j=i
     ·subst e;exact⟨jl,eb⟩
     ·exact hi.2 j (by omega)
    ·rename_i h;have aq:m<=i:=tz hS h;cbv;exact bg (Qb fun j hj=>hi.2 j (by omega)).symm
theorem U1 (d:AY)(hf:d.fit)(h0: ∀i,i<d.ne->0<=(d.en i).fault)(jn:d.no<=12)(r:Int)(hr:s8 d=r):au AB AG 134 [d.av] (int r):=by
 obtain⟨w,hw,ho⟩:=i1u d hf h0 jn r hr;clear hr;rcases hw with rfl|⟨_,rfl⟩<;>
 ·refine su (cr AC ci f2f _ rfl fun E Sg hb hS=> ?_);cbv;refine bf hS _ ho ?_;cbv;exact AA _
def i4t (n:Nat)(l:Nat->AY)(pg:List Nat)(v:AV)(h':List ae):Prop:=pg=[]/\v= .bi 0 5 AP n AF/\h'=[.arr 5 n fun i=>(l i).row]
theorem i0r {n:Nat}(hn:n<=1000000)(l:Nat->AY):ay AB 133 [Ab n l] [] (i4t n l):=by
 cases n with
 |zero=>
  refine ay.empty fun a cap=>ay.Xq 5 (fun i=>(l i).row) ?_;refine mh AC ci f1a rfl fun E Sg hb hS F hF=> ?_;have e:=fh hS;cases a with
  |none=>cbv;exact⟨[],by simp,hF (.nil _) (AA _) (by simp) (.inr rfl) (.inl ⟨rfl,rfl,rfl,rfl⟩)⟩
  |some a=>
   cbv
   repeat (first|refine ad hS trivial ?_|refine ad hS (uh hS (by omega)) ?_)
   refine⟨[],by simp,hF (h1:=[.arr 5 0 fun i=>(l i).row]) (.cons (AJ (by simp only[e.fd]) fun j hj=>by simp only[e.fd] at hj;omega) (.nil _)) (v0:= .bi 0 5 AP 0 AF) (by show ab (.bi 0 5 AP (Sg.fd 0 0) AF) _;simp only[e.fd];exact AA _) (by simp) (.inr rfl) (.inr ⟨rfl,rfl,rfl⟩)⟩
 |succ n=>
  refine mh AC ci f1a rfl fun E Sg hb hS F hF=> ?_;have e:=fh hS;cbv
  repeat (first|refine ad hS trivial ?_|refine ad hS (uh hS (by omega)) ?_|refine ad hS (HJ hS (by omega)) ?_)
  refine⟨[],by simp,hF (h1:=[.arr 5 (n+1) fun i=>(l i).row]) (.cons (AJ (by simp only[e.fd,AQ]) fun j hj=>by simp only[e.app,AS,if_false,Aa];exact .refl _) (.nil _)) (v0:= .bi 0 5 AP (n+1) AF) (by show ab (.bi 0 5 AP (Sg.fd 0 (n+1)) AF) _;simp only[e.fd,AQ];exact AA _) (by simp) (.inr rfl) ⟨rfl,rfl,rfl⟩⟩
theorem i0p (c:i6)(hc:c.fit)(r:Int)(hr:Gy c r):au AB AG 98 [ac c.ns c.sz,ac c.no c.od,Ab c.nl c.lk,c.nr.av,c.goal.av] (int r):=by
 have q1:=h5l (n:=c.ns) (m:=c.no) (by have:=hc.ns;omega) (by have:=hc.no;omega) c.sz c.od _ rfl;have ig:=i0r (n:=c.nl) (by have:=hc.nl;omega) c.lk;obtain⟨er,Lx⟩:=xB fun i:Nat=>s8 (c.dg i);have q2:=fun i hi=>U1 (c.dg i) (hc.dg i hi) (hc.Yu i hi) (by have:=hc.od i hi;omega) (er i) (Lx i);obtain⟨z,hz⟩: ∃z:Bool,z=AG↔ ∀i,i<c.nl+2->c.same i:=by classical exact⟨decide _,decide_eq_true_iff⟩
 have q3:=i1m (ns:=c.ns) (no:=c.no) c.sz c.od (n:=c.nl+2) (by have:=hc.nl;omega) c.dg (fun i hi=>⟨(hc.dg i hi).ns,(hc.dg i hi).no⟩) z hz;have ft:=c.rows;have jy:=hc.nl;unfold Gy at hr;simp only[Lx] at hr;clear Lx hc;obtain⟨fe,GF⟩:=xA (pr c.ns c.no c.sz c.od);rw[GF] at hr q1;clear GF;obtain⟨SS,ub⟩: ∃SS:Nat->Prop,c.same=SS:=⟨_,rfl⟩;rw[ub] at hr hz;clear ub;obtain⟨D,hD⟩: ∃D:Nat->AY,c.dg=D:=⟨_,rfl⟩;obtain⟨m,hm⟩:=xA (c.nl+2);simp only[hD,hm] at q2 q3 ft hr hz;clear hD;obtain⟨ns,sz,no,od,nl,lk,⟨ins,pn,ino,pk,ph,pf,nr,gr,pj,gq,dh⟩,⟨oy,o4,ow,oz,oi,gen,ov,gj,ot,gi,db⟩⟩:=c;simp only at*
 refine su (cr AC ci g8t _ rfl fun E Sg hb hS=> ?_);have e:=fh hS;cbv;refine bf hS _ q1 ?_;cbv;by_cases h0:fe=0
 rotate_left
 ·have o7:(fe==AM 0)=AF:=beq_false_of_ne h0;simp only[e.md,e.jp,o7];cbv;rcases hr with⟨_,h⟩|⟨h,_⟩
  ·exact br h.symm
  ·exact absurd h h0
 subst h0;simp only[e.md,e.jp];cbv;split
 ·rename_i h;have h:4<nl:=tw hS h;cbv;rcases hr with⟨h',_⟩|⟨_,⟨_,h'⟩|⟨h',_⟩⟩
  ·exact absurd rfl h'
  ·exact bg h'.symm
  ·omega
 rename_i h;have h4:nl<=4:=tz hS h;have hr:MY m er SS r:=by
  rcases hr with⟨h',_⟩|⟨_,⟨h',_⟩|⟨_,h'⟩⟩
  ·exact absurd rfl h'
  ·omega
  ·exact h'
 cbv;refine lj hS (ay.frame ig [] rfl rfl trivial) ?_;rintro pg v H' ⟨pg0,v0,h0,⟨rfl,rfl,rfl⟩,rfl,rfl,rfl⟩;cbv
 repeat (first|refine ad hS (mc hS) ?_|refine ad hS trivial ?_|refine ad hS (uh hS (by omega)) ?_)
 refine gg AC ci hS (fun i=>i<=m/\ ∀j,j<i->er j=0) (fun i=>m-i)
  (fun i=>⟨dn [(0,ac ns sz),(1,ac no od),(12,.bi 2 5 AP m AF),(32,.bi 2 5 AP m AF),(33,int m),(34,int i)] 52,[.var [ac ins pn,ac ino pk,d7 ph pf,AZ nr gr pj gq,int dh],.var [ac oy o4,ac ow oz,d7 oi gen,AZ ov gj ot gi,int db],.arr 5 m fun j=>(D j).row],[2]⟩) 0 ⟨by omega,by omega⟩ ?_ ?_
 ·refine bq rfl ⟨AA _,AA _,?_,?_,?_,bg rfl,trivial⟩ (.cons (.refl _) (.cons (.refl _) (.cons (AJ ?_ fun j hj=> ?_) (.nil _)))) (by simp;omega) (.inr rfl) rfl
  ·simp only[e.fd,hm];exact AA _
  ·simp only[e.fd,hm];exact AA _
  ·simp only[e.fd,hm,e.ofNat];exact AA _
  ·simp only[e.fd,hm]
  ·simp only[e.fd] at hj;rw[hm] at hj;have h1:=ft j hj;simp only[e.app];rw[<-h1];exact .refl _
 ·intro i hi N hN;cbv;split
  ·rename_i h;have hlt:i<m:=AI.1 (ry hS h);cbv;simp only[nat,e.toNat,AD,AE];refine ad hS (gf hS hlt) (ad hS (HJ hS hlt) ?_);refine bf hS (int (er i)) (q2 i hlt) ?_;cbv;by_cases h0:er i=0
   rotate_left
   ·have o7:(er i==AM 0)=AF:=beq_false_of_ne h0;simp only[e.md,e.jp,o7];cbv;exact br (h9a hr hlt hi.2 h0).symm
   simp only[e.md,e.jp,h0];cbv;refine ad hS (ji hS (by omega)) ?_;refine hN (i+1) _ ⟨by omega,fun j hj=> ?_⟩ (by omega) (bq rfl ⟨AA _,AA _,AA _,AA _,AA _,je hS,trivial⟩ (.cons (.refl _) (.cons (.refl _) (.cons (.refl _) (.nil _)))) (by simp;omega) (.inl ⟨rfl,rfl⟩) rfl);by_cases e:j=i
   ·subst e;exact h0
   ·exact hi.2 j (by omega)
  ·rename_i h;have aq:m<=i:=AL.1 (s9 hS h);have cd: ∀j,j<m->er j=0:=fun j hj=>hi.2 j (by omega);obtain⟨Qb,mb⟩:=i1p hr cd;cbv;refine lj hS (ay.frame q3 [2] rfl rfl (show _/\_ from⟨bx.refl _,trivial⟩)) ?_;rintro pg v H' ⟨pg0,v0,h0,⟨rfl,rfl,rfl⟩,rfl,rfl,rfl⟩;cbv;cases jl:z
   ·cbv;rw[jl] at hz;exact bg (mb fun h=>AK (hz.2 h)).symm
   ·cbv;exact bg (Qb (hz.1 jl)).symm
theorem i6e (v:Ac)(r:Bool)(hr:r=AG↔v=⟨0,1⟩):au AB AG 68 [v.av] (bool r):=by obtain⟨f,n⟩:=v;refine j6 (cr AC ci i7s _ rfl fun E Sg hb hS=> ?_);have e:=fh hS;cbv;refine ga ?_;simp only[e.V4,e.md];rw[AR,hr];simp
theorem h9i (v:Ac)(r:Bool)(hr:r=AG↔v=⟨0,1⟩):au AB AG 171 [v.av] (bool r):=by obtain⟨f,n⟩:=v;refine j6 (cr AC ci e8x _ rfl fun E Sg hb hS=> ?_);have e:=fh hS;cbv;refine ga ?_;simp only[e.V4,e.md];rw[AR,hr];simp
def Wh (X:Nat->Ac):Nat->List Nat
 |0=>[]
 |i+1=>if X i=⟨0,1⟩ then Wh X i++[i] else Wh X i
theorem i0h (X:Nat->Ac): ∀(T p:Nat),p∈Wh X T↔p<T/\X p=⟨0,1⟩
 |0,p=>by simp[Wh]
 |i+1,p=>by
  rw[Wh];have ih:=i0h X i p;by_cases h:X i=⟨0,1⟩
  ·rw[if_pos h,List.mem_append,ih];simp only[List.mem_singleton];constructor
   ·rintro (h'|rfl)
    ·exact⟨by omega,h'.2⟩
    ·exact⟨by omega,h⟩
   ·rintro⟨h1,h2⟩;by_cases e:p=i
    ·exact .inr e
    ·exact .inl ⟨by omega,h2⟩
  ·rw[if_neg h,ih];constructor
   ·exact fun h'=>⟨by omega,h'.2⟩
   ·rintro⟨h1,h2⟩;refine⟨?_,h2⟩;by_cases e:p=i
    ·subst e;exact absurd h2 h
    ·omega
theorem Q0 (X:Nat->Ac): ∀T,(Wh X T).length<=T
 |0=>by simp[Wh]
 |i+1=>by
  rw[Wh];have:=Q0 X i;split
  ·simp;omega
  ·omega
theorem h9h (X:Nat->Ac): ∃(N:Nat->Nat) (G:Nat->Nat->Int),(∀i,(Wh X i).length=N i)/\(∀i j,(((Wh X i).getD j 0:Nat):Int)=G i j)/\N 0=0/\(∀i,N i<=i)/\
 ∀i,(X i=⟨0,1⟩->N (i+1)=N i+1/\(∀j,j<N i->G (i+1) j=G i j)/\G (i+1) (N i)=i)/\(X i≠⟨0,1⟩->N (i+1)=N i/\ ∀j,G (i+1) j=G i j):=by
 refine⟨fun i=>(Wh X i).length,fun i j=>(((Wh X i).getD j 0:Nat):Int),fun _=>rfl,fun _ _=>rfl,rfl,Q0 X,fun i=>⟨fun h=> ?_,fun h=> ?_⟩⟩
 ·simp only[Wh,if_pos h];refine⟨by simp,fun j hj=> ?_,?_⟩
  ·rw[AX,AX,List.getElem?_append_left hj]
  ·simp
 ·simp only[Wh,if_neg h];exact⟨trivial,fun _=>trivial⟩
def Zv (P:List Nat):AV:=ac P.length fun j=>((P.getD j 0:Nat):Int)
def Zo (nl T:Nat)(X:Nat->Nat->Ac)(G:Nat->Bool):List AV:=[.d (.sl 1 nl fun i=>[.sl 2 T fun p=>(X i p).row]),.d (.sl 1 T fun p=>[.bool (G p)])]
theorem i3f (c:i6)(T:Nat)(hT:T<=1000000)(jy:c.nl<=6)(X:Nat->Nat->Ac)(Z:Nat->Ac)(Y:Nat->Ac)(h54: ∀i,i<c.nl->au AB AF 54 [(c.lk i).av] (d7 T (X i)))(h54i:au AB AF 54 [c.nr.av] (d7 T Z))(h54g:au AB AF 54 [c.goal.av] (d7 T Y))
 (G:Nat->Bool) (hG: ∀p,G p=AG↔Y p=⟨0,1⟩):au AB AF 29 [c.av] (.tuple [Zv (Wh Z T),.agg (Zo c.nl T X G)]):=by
 obtain⟨N,W,hN,hW,I8,hNi,fj⟩:=h9h Z;have cq:Zv (Wh Z T)=ac (N T) (W T):=by unfold Zv;rw[hN];congr 1;exact funext fun j=>hW T j
 rw[cq];obtain⟨b,hb⟩: ∃b:Nat->Bool,∀p,b p=AG↔Z p=⟨0,1⟩:=by classical exact⟨fun p=>decide _,fun p=>decide_eq_true_iff⟩
 have q1:=fun p=>i6e (Z p) (b p) (hb p);have q2:=fun p=>i6e (Y p) (G p) (hG p);have LN: ∀i,(b i=AG->N (i+1)=N i+1/\(∀j,j<N i->W (i+1) j=W i j)/\W (i+1) (N i)=i)/\(b i=AF->N (i+1)=N i/\ ∀j,W (i+1) j=W i j):=fun i=>⟨fun h=>(fj i).1 ((hb i).1 h),fun h=>(fj i).2 fun h'=>by rw[(hb i).2 h'] at h;cases h⟩;clear cq fj hN hW hb hG;obtain⟨ns,sz,no,od,nl,lk,⟨ins,pn,ino,pk,ph,pf,nr,gr,pj,gq,dh⟩,⟨oy,o4,ow,oz,oi,gen,ov,gj,ot,gi,db⟩⟩:=c;simp only[i6.av,g7.cs,AN,AO,Zo] at*
 obtain⟨A,hA⟩: ∃A:List AV,A=[ac ns sz,ac no od,Ab nl lk,ac ins pn,ac ino pk,d7 ph pf,AZ nr gr pj gq,int dh,ac oy o4,ac ow oz,d7 oi gen,AZ ov gj ot gi,int db]:=⟨_,rfl⟩;refine cr AC ci i7o _ rfl fun E Sg gz hS=> ?_;have e:=fh hS;cbv;refine HO AC ci hS (fun i=>i<=nl) (fun i=>nl-i)
  (fun i=>⟨dn [(1,.ptr 0 0),(3,.ptr 1 0),(4,.ptr 2 0),(5,int i)] 61,[.var [ac ns sz,ac no od,Ab nl lk,ac ins pn,ac ino pk,d7 ph pf,AZ nr gr pj gq,int dh,ac oy o4,ac ow oz,d7 oi gen,AZ ov gj ot gi,int db],.var [.d .nil,.d .nil],.var [.bi 3 1 AP i AF,.d .nil],.arr 1 i fun j=>[.sl 2 T fun p=>(X j p).row]],[3]⟩) 0 (by omega) ?_ ?_
 ·exact (Ae 2 0 1 (fun _=>[]) rfl rfl).trans (AT (bq rfl ⟨AA _,AA _,AA _,bg rfl,trivial⟩ (.cons (.refl _) (.cons (.refl _) (.cons (.refl _) (.cons (AJ rfl fun j hj=>by omega) (.nil _))))) (by simp;omega) (.inr rfl) rfl))
 ·intro i hi N' Ie;cbv;split
  ·rename_i h;have hlt:i<nl:=tw hS h;cbv;simp only[nat,e.toNat,AD,AE];refine ad hS (gf hS hlt) ?_;refine bf hS _ (h54 i hlt) ?_;cbv
   repeat (first|refine ad hS (mc hS) ?_|refine ad hS trivial ?_|refine ad hS (uh hS (by omega)) ?_|refine ad hS (ji hS (by omega)) ?_)
   refine Ie (i+1) _ hlt (by omega) (AT (bq rfl ⟨AA _,AA _,AA _,je hS,trivial⟩
    (.cons (.refl _) (.cons (.refl _) (.cons (.var (.cons (w7 hS) (.cons (AA _) .nil))) (.cons (yc hS (fun j hj=> .refl _) (.refl _)) (.nil _))))) (by simp;omega) (.inr rfl) rfl))
  ·rename_i h;have aq:i=nl:=by have:=tz hS h;omega
   subst aq;cbv;refine bf hS _ h54i ?_;cbv
   repeat (first|refine ad hS (mc hS) ?_)
   refine bf hS _ h54g ?_;cbv;refine HO AC ci hS (fun p=>p<=T) (fun p=>T-p)
    (fun p=>⟨dn [(1,.ptr 0 0),(3,.ptr 1 0),(4,.ptr 2 0),(6,d7 T Z),(7,d7 T Y),(8,.bi 5 1 AP (N p) AF),(9,int p)] 61,[.var [ac ns sz,ac no od,Ab i lk,ac ins pn,ac ino pk,d7 ph pf,AZ nr gr pj gq,int dh,ac oy o4,ac ow oz,d7 oi gen,AZ ov gj ot gi,int db],.var [.d .nil,.d .nil],.var [.bi 3 1 AP i AF,.bi 4 1 AP p AF],.arr 1 i fun j=>[.sl 2 T fun p=>(X j p).row],.arr 1 p fun q=>[.bool (G q)],g9 (N p) (W p)],[3,4,5]⟩) 0 (by omega) ?_ ?_
   ·refine (Ae 2 1 1 (fun _=>[]) rfl rfl).trans ((Aj 8 1 (fun _=>[]) rfl).trans (AT (bq rfl ⟨AA _,AA _,AA _,AA _,AA _,?_,bg rfl,trivial⟩ (.cons (.refl _) (.cons (.refl _) (.cons (.refl _) (.cons (.refl _) (.cons (AJ rfl fun j hj=>by omega) (.cons (AJ I8.symm fun j hj=>by omega) (.nil _))))))) (by simp;omega) (.inr rfl) rfl)));rw[I8];exact AA _
   ·intro p hp N' Ie;cbv;split
    ·rename_i h;have hlt:p<T:=tw hS h;obtain⟨h1,h2⟩:=LN p;have h3:=hNi p;cbv;simp only[nat,e.toNat,AD,AE];refine ad hS (gf hS hlt) ?_;refine bf hS _ (q2 p) ?_;cbv;simp only[nat,e.toNat,AD,AE]
     repeat (first|refine ad hS (mc hS) ?_|refine ad hS trivial ?_|refine ad hS (uh hS (by omega)) ?_|refine ad hS (gf hS hlt) ?_)
     refine bf hS (bool (b p)) (q1 p) ?_;cases hb:b p
     ·obtain⟨h4,h5⟩:=h2 hb;cbv;refine ad hS (ji hS (by omega)) ?_;refine Ie (p+1) _ hlt (by omega) (AT (bq rfl ⟨AA _,AA _,AA _,AA _,AA _,?_,je hS,trivial⟩
       (.cons (.refl _) (.cons (.refl _) (.cons (.var (.cons (AA _) (.cons (w7 hS) .nil))) (.cons (.refl _) (.cons (yc hS (fun j hj=> .refl _) (.refl _)) (.cons (AJ h4.symm fun j hj=>by rw[h5];exact .refl _) (.nil _))))))) (by simp;omega) (.inr rfl) rfl))
      rw[h4];exact AA _
     ·obtain⟨h4,h5,h6⟩:=h1 hb;cbv
      repeat (first|refine ad hS trivial ?_|refine ad hS (uh hS (by omega)) ?_|refine ad hS (ji hS (by omega)) ?_)
      refine Ie (p+1) _ hlt (by omega) (AT (bq rfl ⟨AA _,AA _,AA _,AA _,AA _,?_,je hS,trivial⟩
       (.cons (.refl _) (.cons (.refl _) (.cons (.var (.cons (AA _) (.cons (w7 hS) .nil))) (.cons (.refl _) (.cons (yc hS (fun j hj=> .refl _) (.refl _)) (.cons ?_ (.nil _))))))) (by simp;omega) (.inr rfl) rfl))
      ·rw[h4];exact w7 hS
      ·rw[h4];exact yc hS (fun j hj=>by rw[h5 j hj];exact .refl _) (by rw[h6];exact .one (.int rfl))
    ·rename_i h;have aq:p=T:=by have:=tz hS h;omega
     subst aq;cbv;exact ad hS (tq hS (AH _)) (ad hS (tq hS (AH _)) (ad hS (tq hS (AH _)) (AA _)))
theorem i3r (c:i6){er:Int}(Sq:au AB AG 42 [c.av] (int er))(h0:er≠0):au AB AF 21 [c.av] (.tuple [.d .nil,.agg [.d .nil,.d .nil],int er]):=by
 obtain⟨ns,sz,no,od,nl,lk,⟨ins,pn,ino,pk,ph,pf,nr,gr,pj,gq,dh⟩,⟨oy,o4,ow,oz,oi,gen,ov,gj,ot,gi,db⟩⟩:=c;simp only[i6.av,g7.cs,AN,AO] at*
 refine cr AC ci i7c _ rfl fun E Sg gz hS=> ?_;have e:=fh hS;cbv;refine bf hS _ Sq ?_;cbv;have o7:(er==AM 0)=AF:=beq_false_of_ne h0;simp only[e.md,e.jp,o7];cbv;exact AA _
theorem i3p (c:i6){n:Nat}{W:Nat->Int}{k1 k2:DV}(Sq:au AB AG 42 [c.av] (int 0))(h29:au AB AF 29 [c.av] (.tuple [ac n W,.agg [.d k1,.d k2]])):
 (n=0->au AB AF 21 [c.av] (.tuple [.d .nil,.agg [.d k1,.d k2],int 12]))/\(0<n->au AB AF 21 [c.av] (.tuple [ac n W,.agg [.d k1,.d k2],int 0])):=by
 obtain⟨ns,sz,no,od,nl,lk,⟨ins,pn,ino,pk,ph,pf,nr,gr,pj,gq,dh⟩,⟨oy,o4,ow,oz,oi,gen,ov,gj,ot,gi,db⟩⟩:=c;simp only[i6.av,g7.cs,AN,AO] at*
 constructor
 ·intro hn;refine cr AC ci i7c _ rfl fun E Sg gz hS=> ?_;have e:=fh hS;cbv;refine bf hS _ Sq ?_;cbv;simp only[e.md,e.jp];cbv;refine bf hS _ h29 ?_;cbv;simp only[e.md,e.ofNat,hn];cbv;exact fl.tuple (.cons (AA _) (.cons (AA _) (.cons (bg rfl) .nil)))
 ·intro hn;refine cr AC ci i7c _ rfl fun E Sg gz hS=> ?_;have e:=fh hS;cbv;refine bf hS _ Sq ?_;cbv;simp only[e.md,e.jp];cbv;refine bf hS _ h29 ?_;cbv;have o7:((n:Int)==AM 0)=AF:=beq_false_of_ne (by simp only[AD];omega);simp only[e.md,e.ofNat,o7];cbv;exact fl.tuple (.cons (AA _) (.cons (AA _) (.cons (bg rfl) .nil)))
def XD (nl:Nat)(X:Nat->Nat->Ac)(k q:Nat):Ac:=if k<nl then X k q else⟨0,0⟩
def NR (F:Nat->Ac)(g:Bool):List DV:=
 [.int .u8 (.v (F 0).fault),.int .i64 (.v (F 0).n),.int .u8 (.v (F 1).fault),.int .i64 (.v (F 1).n),.int .u8 (.v (F 2).fault),.int .i64 (.v (F 2).n),.int .u8 (.v (F 3).fault),.int .i64 (.v (F 3).n),.bool g]
def Rl (ns:Nat)(sz:Nat->Int)(no:Nat)(od:Nat->Int)(nl n:Nat)(W:Nat->Int)(X:Nat->Nat->Ac)(G:Nat->Bool):List DV:=
 [.sl 1 ns fun i=>[.int .i64 (.v (sz i))],.sl 1 no fun i=>[.int .i64 (.v (od i))],.int .i64 (.v nl),.sl 1 n fun j=>[.int .i64 (.v (W j))],
   .sl 9 n fun j=>NR (fun k=>XD nl X k (W j).toNat) (G (W j).toNat)]
def i7g:gy:=match g5m with| .seq _ (.seq _ (.seq _ (.seq _ (.seq _ r))))=>r|_=> .ret
theorem i4v (a b:AY){ns no nl:Nat}{sz od:Nat->Int}{lk:Nat->AY}{T:Nat}(hT:T<=1000000)(jy:nl<=4)(h98:au AB AG 98 [ac ns sz,ac no od,Ab nl lk,a.av,b.av] (int 0))(X:Nat->Nat->Ac)(Z Y:Nat->Ac)
 (hl: ∀i,i<nl->au AB AF 170 [(lk i).av] (.tuple [d7 T (X i),int 0])) (hli:au AB AF 170 [a.av] (.tuple [d7 T Z,int 0])) (uc:au AB AF 170 [b.av] (.tuple [d7 T Y,int 0]))
 (G:Nat->Bool) (hG: ∀p,G p=AG↔Y p=⟨0,1⟩):
 au AB AF 131 [ac ns sz,ac no od,Ab nl lk,a.av,b.av] (.tuple [.d9 (Rl ns sz no od nl (Wh Z T).length (fun j=>(((Wh Z T).getD j 0:Nat):Int)) X G) 0,int 0]):=by
 obtain⟨N,W,hN,hW,I8,hNi,fj⟩:=h9h Z;have cq:(fun j=>(((Wh Z T).getD j 0:Nat):Int))=W T:=funext fun j=>hW T j;rw[cq,hN];obtain⟨bb,hb⟩: ∃b:Nat->Bool,∀p,b p=AG↔Z p=⟨0,1⟩:=by classical exact⟨fun p=>decide _,fun p=>decide_eq_true_iff⟩
 have q1:=fun p=>h9i (Z p) (bb p) (hb p);have q2:=fun p=>h9i (Y p) (G p) (hG p);have LN: ∀i,(bb i=AG->N (i+1)=N i+1/\(∀j,j<N i->W (i+1) j=W i j)/\W (i+1) (N i)=i)/\(bb i=AF->N (i+1)=N i/\ ∀j,W (i+1) j=W i j):=fun i=>⟨fun h=>(fj i).1 ((hb i).1 h),fun h=>(fj i).2 fun h'=>by rw[(hb i).2 h'] at h;cases h⟩;clear cq fj hN hW hb hG;obtain⟨ins,pn,ino,pk,ph,pf,nr,gr,pj,gq,dh⟩:=a;obtain⟨oy,o4,ow,oz,oi,gen,ov,gj,ot,gi,db⟩:=b;refine cr AC ci e8k _ rfl fun E Sg gz hS=> ?_;have e:=fh hS;have en: ∀k:Nat,nat Sg (IX.v (AM k))=k:=fun k=>by show Sg.toNat (AM k)=k;rw[e.toNat];rfl
 obtain⟨D,hD0,Ss⟩: ∃D:Nat->Nat->DV,(∀i j,i<=j->D i j= .nil)/\ ∀i j,j<i->D i j= .sl 2 T fun p=>(X j p).row:=⟨fun i j=>if j<i then .sl 2 T fun p=>(X j p).row else .nil,fun i j h=>if_neg (by omega),fun i j h=>if_pos h⟩;obtain⟨R,hR⟩: ∃R,R=i7g:=⟨_,rfl⟩;change ev Sg (.seq _ (.seq _ (.seq _ (.seq _ (.seq _ i7g))))) _ _;rw[<-hR];cbv;refine bf hS _ h98 ?_;cbv;simp only[e.md,e.jp];cbv;refine ad hS (i4c hS) (ad hS (i4a hS (by omega)) ?_);simp only[e.ofNat,e.toNat,AE];refine gg AC ci hS (fun i=>i<=nl) (fun i=>nl-i)
  (fun i=>⟨dn [(8,.ptr 0 0),(9,.ptr 1 0),(13,.ptr 2 0),(14,.bi 3 1 AP nl AF),(45,Ab nl lk),(46,int nl),(47,int i)] 124,[.var [ac ins pn,ac ino pk,d7 ph pf,AZ nr gr pj gq,int dh],.var [ac oy o4,ac ow oz,d7 oi gen,AZ ov gj ot gi,int db],.var [ac ns sz,ac no od,int nl,.d .nil,.d .nil],
    .arr 1 nl fun j=>[D i j]],[]⟩) 0 (by omega) ?_ ?_
 ·refine bq rfl ⟨AA _,AA _,AA _,AA _,AA _,AA _,bg rfl,trivial⟩ (.cons (.refl _) (.cons (.refl _) (.cons (.refl _) (.cons (h8m hS fun j hj=> ?_) (.nil _))))) (by simp;omega) (.inr rfl) rfl;rw[hD0 0 j (by omega)];exact .refl _
 ·intro i hi N' Ie;cbv;split
  ·rename_i h;have hlt:i<nl:=AI.1 (ry hS h);cbv;rw[en i];refine ad hS (gf hS hlt) ?_;refine bf hS _ (hl i hlt) ?_;cbv;simp only[e.toNat,AD,AE];refine ad hS (gf hS hlt) (ad hS (HJ hS hlt) (ad hS (ji hS (by omega)) ?_));refine Ie (i+1) _ hlt (by omega) (bq rfl ⟨AA _,AA _,AA _,AA _,AA _,AA _,je hS,trivial⟩ (.cons (.refl _) (.cons (.refl _) (.cons (.refl _) (.cons (h8j hS (fun j hj ck=> ?_) fun _=> ?_) (.nil _))))) (by simp;omega) (.inl ⟨rfl,rfl⟩) rfl)
   ·by_cases h:j<i
    ·rw[Ss i j h,Ss (i+1) j (by omega)];exact .refl _
    ·rw[hD0 i j (by omega),hD0 (i+1) j (by omega)];exact .refl _
   ·rw[Ss (i+1) i (by omega)];exact .refl _
  ·rename_i h;have aq:i=nl:=by have:=AL.1 (s9 hS h);omega
   subst aq;cbv;subst hR;cbv;refine bf hS _ uc ?_;cbv;refine bf hS _ hli ?_;cbv;clear h98 hl uc hli Ie hi h;refine HO AC ci hS (fun p=>p<=T) (fun p=>T-p)
    (fun p=>⟨dn [(13,.ptr 2 0),(14,.bi 3 1 AP i AF),(17,d7 T Y),(71,d7 T Z),(72,int T),(73,int p)] 124,[.var [ac ins pn,ac ino pk,d7 ph pf,AZ nr gr pj gq,int dh],.var [ac oy o4,ac ow oz,d7 oi gen,AZ ov gj ot gi,int db],.var [ac ns sz,ac no od,int i,.bi 4 1 AP (N p) AF,.bi 5 9 AP (N p) AF],
      .arr 1 i fun j=>[.sl 2 T fun p=>(X j p).row],g9 (N p) (W p),.arr 9 (N p) fun j=>NR (fun k=>XD i X k (W p j).toNat) (G (W p j).toNat)],[4,5]⟩) 0 (by omega) ?_ ?_
   ·refine (Ae 2 3 1 (fun _=>[]) rfl rfl).trans ((Ae 2 4 9 (fun _=>[]) rfl rfl).trans (AT (bq rfl ⟨AA _,AA _,AA _,AA _,?_,bg rfl,trivial⟩ (.cons (.refl _) (.cons (.refl _) (.cons ?_ (.cons (AJ rfl fun j hj=> ?_) (.cons (AJ I8.symm fun j hj=>by omega) (.cons (AJ I8.symm fun j hj=>by omega) (.nil _))))))) (by simp;omega) (.inr rfl) rfl)))
    ·exact br (by simp only[e.ofNat])
    ·refine .var (.cons (AA _) (.cons (AA _) (.cons (AA _) (.cons ?_ (.cons ?_ .nil)))))<;>(rw[I8];exact AA _)
    ·rw[Ss i j hj];exact .refl _
   ·intro p hp N' Ie;cbv;split
    ·rename_i h;have hlt:p<T:=AI.1 (ry hS h);obtain⟨h1,h2⟩:=LN p;have h3:=hNi p;cbv;simp only[en];refine ad hS (gf hS hlt) ?_;refine bf hS (bool (bb p)) (q1 p) ?_;cases hb:bb p
     ·obtain⟨h4,h5⟩:=h2 hb;cbv;refine ad hS (ji hS (by omega)) ?_;refine Ie (p+1) _ hlt (by omega) (AT (bq rfl ⟨AA _,AA _,AA _,AA _,AA _,je hS,trivial⟩
       (.cons (.refl _) (.cons (.refl _) (.cons ?_ (.cons (.refl _) (.cons (AJ h4.symm fun j hj=>by rw[h5];exact .refl _) (.cons (AJ h4.symm fun j hj=>by rw[h5];exact .refl _) (.nil _))))))) (by simp;omega) (.inl ⟨rfl,rfl⟩) rfl))
      rw[h4];exact .refl _
     ·obtain⟨h4,h5,h6⟩:=h1 hb;cbv;simp only[en];refine ad hS (gf hS hlt) ?_;refine bf hS (bool (G p)) (q2 p) ?_;cbv;obtain⟨F,hF,hFe⟩: ∃F:Nat->Nat->Ac,(∀i k,F i k=if k<i then X k p else⟨0,0⟩)/\ ∀k,F i k=XD i X k p:=⟨fun i k=>if k<i then X k p else⟨0,0⟩,fun _ _=>rfl,fun _=>rfl⟩;obtain⟨F0,Ph⟩: ∃F0:Nat->Nat->Int,∀i k,(F i k).fault=F0 i k:=⟨_,fun _ _=>rfl⟩;obtain⟨F1,Hb⟩: ∃F1:Nat->Nat->Int,∀i k,(F i k).n=F1 i k:=⟨_,fun _ _=>rfl⟩;have z0: ∀k,F0 0 k=0/\F1 0 k=0:=fun k=>by rw[<-Ph,<-Hb,hF,if_neg (AS k)];exact⟨rfl,rfl⟩
      have z1: ∀m k,k≠m->F0 (m+1) k=F0 m k/\F1 (m+1) k=F1 m k:=fun m k h=>by
       rw[<-Ph,<-Hb,<-Ph,<-Hb,hF,hF];by_cases h':k<m
       ·rw[if_pos h',if_pos (by omega)];exact⟨rfl,rfl⟩
       ·rw[if_neg h',if_neg (by omega)];exact⟨rfl,rfl⟩
      have z2: ∀m,F0 (m+1) m=(X m p).fault/\F1 (m+1) m=(X m p).n:=fun m=>by rw[<-Ph,<-Hb,hF,if_pos (by omega)];exact⟨rfl,rfl⟩
      refine gg AC ci hS (fun m=>m<=i) (fun m=>i-m)
       (fun m=>⟨dn [(13,.ptr 2 0),(14,.bi 3 1 AP i AF),(17,d7 T Y),(21,int p),(23,.ptr 7 0),(71,d7 T Z),(72,int T),(73,int p),(87,.bi 3 1 AP i AF),(88,int i),(89,int m)] 124,[.var [ac ins pn,ac ino pk,d7 ph pf,AZ nr gr pj gq,int dh],.var [ac oy o4,ac ow oz,d7 oi gen,AZ ov gj ot gi,int db],.var [ac ns sz,ac no od,int i,.bi 4 1 AP (N p) AF,.bi 5 9 AP (N p) AF],
         .arr 1 i fun j=>[.sl 2 T fun p=>(X j p).row],g9 (N p) (W p),.arr 9 (N p) fun j=>NR (fun k=>XD i X k (W p j).toNat) (G (W p j).toNat),.var [.any,.any],.var [u8 (F0 m 0),int (F1 m 0),u8 (F0 m 1),int (F1 m 1),u8 (F0 m 2),int (F1 m 2),u8 (F0 m 3),int (F1 m 3),bool (G p)]],[4,5]⟩) 0 (by omega) ?_ ?_
      ·refine bq rfl ⟨AA _,AA _,AA _,AA _,AA _,AA _,AA _,AA _,AA _,?_,bg rfl,trivial⟩ (.cons (.refl _) (.cons (.refl _) (.cons (.refl _) (.cons (.refl _) (.cons (.refl _) (.cons (.refl _) (.cons (.var (.cons (ab.any _) (.cons (ab.any _) .nil))) (.cons (.var ?_) (.nil _))))))))) (by simp;omega) (.inr rfl) rfl
       ·exact br (by simp only[e.ofNat])
       ·simp only[z0];exact .cons (bg rfl) (.cons (bg rfl) (.cons (bg rfl) (.cons (bg rfl) (.cons (bg rfl) (.cons (bg rfl) (.cons (bg rfl) (.cons (bg rfl) (.cons (AA _) .nil))))))))
      ·intro m hm N2 yu;cbv;split
       ·rename_i h;have hlt2:m<i:=AI.1 (ry hS h);have hm4:m=0\/m=1\/m=2\/m=3:=by omega
        cbv;simp only[en]
        repeat (first|refine ad hS (gf hS hlt2) ?_|refine ad hS (HJ hS hlt2) ?_|refine ad hS (gf hS hlt) ?_|refine ad hS (qw hS (by simp only[AD];omega)) ?_)
        simp only[e.fd,e.wp,en,e.toNat,AD,AE];have c1:=fun k=>z1 m k;obtain⟨d0,d1⟩:=z2 m;rcases hm4 with rfl|rfl|rfl|rfl
        all_goals
         cbv
         repeat (first|refine ad hS (HJ hS hlt2) ?_|refine ad hS (gf hS hlt) ?_|refine ad hS (qw hS (by decide)) ?_|refine ad hS (Jq hS (by decide)) ?_)
         refine yu _ _ hlt2 (by omega) (bq rfl ⟨AA _,AA _,AA _,AA _,AA _,AA _,AA _,AA _,AA _,AA _,je hS,trivial⟩ (.cons (.refl _) (.cons (.refl _) (.cons (.refl _) (.cons (.refl _) (.cons (.refl _) (.cons (.refl _) (.cons (.refl _) (.cons (.var ?_) (.nil _))))))))) (by simp;omega) (.inr rfl) rfl)
        ·exact (.cons (br d0.symm) (.cons (br d1.symm) (.cons (br (c1 1 (by decide)).1.symm) (.cons (br (c1 1 (by decide)).2.symm) (.cons (br (c1 2 (by decide)).1.symm) (.cons (br (c1 2 (by decide)).2.symm) (.cons (br (c1 3 (by decide)).1.symm) (.cons (br (c1 3 (by decide)).2.symm) (.cons (AA _) .nil)))))))))
        ·exact (.cons (br (c1 0 (by decide)).1.symm) (.cons (br (c1 0 (by decide)).2.symm) (.cons (br d0.symm) (.cons (br d1.symm) (.cons (br (c1 2 (by decide)).1.symm) (.cons (br (c1 2 (by decide)).2.symm) (.cons (br (c1 3 (by decide)).1.symm) (.cons (br (c1 3 (by decide)).2.symm) (.cons (AA _) .nil)))))))))
        ·exact (.cons (br (c1 0 (by decide)).1.symm) (.cons (br (c1 0 (by decide)).2.symm) (.cons (br (c1 1 (by decide)).1.symm) (.cons (br (c1 1 (by decide)).2.symm) (.cons (br d0.symm) (.cons (br d1.symm) (.cons (br (c1 3 (by decide)).1.symm) (.cons (br (c1 3 (by decide)).2.symm) (.cons (AA _) .nil)))))))))
        ·exact (.cons (br (c1 0 (by decide)).1.symm) (.cons (br (c1 0 (by decide)).2.symm) (.cons (br (c1 1 (by decide)).1.symm) (.cons (br (c1 1 (by decide)).2.symm) (.cons (br (c1 2 (by decide)).1.symm) (.cons (br (c1 2 (by decide)).2.symm) (.cons (br d0.symm) (.cons (br d1.symm) (.cons (AA _) .nil)))))))))
       ·rename_i h;have aq:m=i:=by have:=AL.1 (s9 hS h);omega
        subst aq;cbv
        repeat (first|refine ad hS (mc hS) ?_|refine ad hS trivial ?_|refine ad hS (uh hS (by omega)) ?_|refine ad hS (ji hS (by omega)) ?_)
        refine Ie (p+1) _ hlt (by omega) (AT (bq rfl ⟨AA _,AA _,AA _,AA _,AA _,je hS,trivial⟩
         (.cons (.refl _) (.cons (.refl _) (.cons (.var (.cons (AA _) (.cons (AA _) (.cons (AA _) (.cons ?_ (.cons ?_ .nil)))))) (.cons (.refl _) (.cons ?_ (.cons ?_ (.nil _))))))) (by simp;omega) (.inl ⟨rfl,rfl⟩) rfl))
        ·rw[h4];exact w7 hS
        ·rw[h4];exact w7 hS
        ·rw[h4];exact yc hS (fun j hj=>by rw[h5 j hj];exact .refl _) (by rw[h6];exact .one (.int rfl))
        ·rw[h4];refine yc hS (fun j hj=>by rw[h5 j hj];exact .refl _) ?_;rw[h6,AE];simp only[<-hFe];unfold NR;simp only[Ph,Hb];exact .refl _
    ·rename_i h;have aq:p=T:=by have:=AL.1 (s9 hS h);omega
     subst aq;cbv;exact ad hS (tq hS (AH _)) (ad hS (tq hS (AH _)) (fl.tuple (.cons (AA _) (.cons (bg rfl) .nil))))
theorem i3a (a b:AY){ns no nl n:Nat}{sz od:Nat->Int}{lk:Nat->AY}{x0 x1 x2 x3:DV}{e4:Nat->List DV}(G5:au AB AF 131 [ac ns sz,ac no od,Ab nl lk,a.av,b.av] (.tuple [.d9 [x0,x1,x2,x3,.sl 9 n e4] 0,int 0])):
 (n=0->au AB AF 108 [ac ns sz,ac no od,Ab nl lk,a.av,b.av] (.tuple [.d (.raw (.pointer AP)),int 12]))/\(0<n->au AB AF 108 [ac ns sz,ac no od,Ab nl lk,a.av,b.av] (.tuple [.d9 [x0,x1,x2,x3,.sl 9 n e4] 0,int 0])):=by
 obtain⟨ins,pn,ino,pk,ph,pf,nr,gr,pj,gq,dh⟩:=a;obtain⟨oy,o4,ow,oz,oi,gen,ov,gj,ot,gi,db⟩:=b;constructor
 ·intro hn;refine cr AC ci f0g _ rfl fun E Sg gz hS=> ?_;have e:=fh hS;cbv;refine bf hS _ G5 ?_;cbv;simp only[e.md];cbv;simp only[e.md,e.ofNat,hn];cbv;exact fl.tuple (.cons (AA _) (.cons (bg rfl) .nil))
 ·intro hn;refine cr AC ci f0g _ rfl fun E Sg gz hS=> ?_;have e:=fh hS;cbv;refine bf hS _ G5 ?_;cbv;simp only[e.md];cbv;have o7:((n:Int)==AM 0)=AF:=beq_false_of_ne (by simp only[AD];omega);simp only[e.md,e.ofNat,o7];cbv;exact AA _
theorem h6k {g h:Nat->Int}: ∀{n:Nat},(∀j,j<n->g j=h j)->dv g n=dv h n
 |0,_=>rfl
 |n+1,e=>by rw[dv,dv,h6k fun j hj=>e j (by omega),e n (by omega)]
def i6.wf (c:i6):Prop:= ∀i,i<c.nl+2->(c.dg i).wf
theorem KL.dg {c:i6}(h:KL c): ∀i,i<c.nl+2->HZ (c.dg i):=fun i hi=>by
 unfold i6.dg;by_cases h1:i<c.nl
 ·rw[if_pos h1];exact h.2.2.2.1 i h1
 ·rw[if_neg h1];by_cases h2:i=c.nl
  ·rw[if_pos h2];exact h.2.1
  ·rw[if_neg h2];exact h.2.2.1
theorem KL.fit {c:i6}(h:KL c)(hw:c.wf):c.fit:=
 ⟨h.1.1,h.1.2.1,h.1.2.2,fun i hi=>(h.dg i hi).fit (hw i hi),fun i hi j hj=>(hw i hi).2.2 j hj,fun i hi=>(h.dg i hi).1.2.1⟩
structure i6.ok (c:i6)(T:Nat):Prop where
 fit:c.fit
 nl:c.nl<=4
 fr:pr c.ns c.no c.sz c.od=0
 hT:(T:Int)=dv c.sz c.ns
 di: ∀i,i<c.nl+2->Mt (c.dg i)
 Td: ∀i,i<c.nl+2->(T:Int)=dv (c.dg i).sz (c.dg i).ns
 err: ∀i,i<c.nl+2->s8 (c.dg i)=0
theorem i6.Y2 {c:i6}(hf:c.fit)(h:Gy c 0): ∃T:Nat,c.ok T:=by
 rcases h with⟨h1,h2⟩|⟨h1,⟨_,h2⟩|⟨h2,h3⟩⟩
 ·exact absurd h2.symm h1
 ·cases h2
 ·obtain⟨k1,k2,k3,k4,_⟩:=IU h1;have hp:=Ky (g:=c.sz) (n:=c.ns) fun i hi=>(k2 i hi).1;obtain⟨T,hT⟩: ∃T:Nat,(T:Int)=dv c.sz c.ns:=⟨(dv c.sz c.ns).toNat,by omega⟩;rcases h3 with⟨i,a,b,d,e⟩|⟨a,⟨b,_⟩|⟨_,b⟩⟩
  ·exact absurd e.symm d
  ·refine⟨T,hf,h2,h1,hT,fun i hi=>MO (a i hi),fun i hi=> ?_,a⟩;obtain⟨e1,e2⟩:=Oj.1 (b i hi).1;rw[hT,e1];exact h6k fun j hj=>(e2 j (by omega)).symm
  ·cases b
theorem i6.ok.j_ {c:i6}{T:Nat}(h:c.ok T)(ht:KL c):T<=36:=by
 rcases ht.2.2.2.2 with h1|h1
 ·exact absurd h.fr h1
 ·have:=h.hT;omega
def i6.X (c:i6)(i:Nat):Nat->Ac:=(c.dg i).cell
def i6.P (c:i6)(T:Nat):List Nat:=Wh (c.X c.nl) T
def i6.W (c:i6)(T:Nat)(j:Nat):Nat:=(c.P T).getD j 0
noncomputable def i6.G (c:i6)(p:Nat):Bool:=by classical exact decide (c.X (c.nl+1) p=⟨0,1⟩)
section
variable {c:i6} {T:Nat}
theorem i6.ok.q_ (h:c.ok T)(hE:Gy c 0):au AB AG 42 [c.av] (int 0):=i2f c h.fit 0 hE
theorem i6.ok.ZH (h:c.ok T)(hE:Gy c 0):au AB AG 98 [ac c.ns c.sz,ac c.no c.od,Ab c.nl c.lk,c.nr.av,c.goal.av] (int 0):=i0p c h.fit 0 hE
theorem i6.ok.list (h:c.ok T)(i:Nat)(hi:i<c.nl+2):au AB AF 54 [(c.dg i).av] (d7 T (c.X i)):=i6a (c.dg i) (h.di i hi) (h.fit.dg i hi) (h.Td i hi)
theorem i6.ok.Ww (h:c.ok T)(i:Nat)(hi:i<c.nl+2):au AB AF 170 [(c.dg i).av] (.tuple [d7 T (c.X i),int 0]):=
 i5u (c.dg i) (h.fit.dg i hi) (h.fit.Yu i hi) (by have:=h.fit.od i hi;omega) 0 (h.err i hi) _ (.inr ⟨rfl,T,h.Td i hi,rfl⟩)
theorem i6.ok.Zq (h:c.ok T)(i:Nat)(hi:i<c.nl):au AB AF 54 [(c.lk i).av] (d7 T (c.X i)):=by have:=h.list i (by omega);rwa [c.WL hi] at this
theorem i6.ok.Zl (h:c.ok T):au AB AF 54 [c.nr.av] (d7 T (c.X c.nl)):=by have:=h.list c.nl (by omega);rwa [c.WK] at this
theorem i6.ok.Zk (h:c.ok T):au AB AF 54 [c.goal.av] (d7 T (c.X (c.nl+1))):=by have:=h.list (c.nl+1) (by omega);rwa [c.Wj] at this
theorem i6.ok.Y0 (h:c.ok T)(i:Nat)(hi:i<c.nl):au AB AF 170 [(c.lk i).av] (.tuple [d7 T (c.X i),int 0]):=by have:=h.Ww i (by omega);rwa [c.WL hi] at this
theorem i6.ok.YZ (h:c.ok T):au AB AF 170 [c.nr.av] (.tuple [d7 T (c.X c.nl),int 0]):=by have:=h.Ww c.nl (by omega);rwa [c.WK] at this
theorem i6.ok.YY (h:c.ok T):au AB AF 170 [c.goal.av] (.tuple [d7 T (c.X (c.nl+1)),int 0]):=by have:=h.Ww (c.nl+1) (by omega);rwa [c.Wj] at this
theorem i6.Yi (c:i6)(p:Nat):c.G p=AG↔c.X (c.nl+1) p=⟨0,1⟩:=by unfold i6.G;exact decide_eq_true_iff
theorem i6.ok.YG (h:c.ok T)(hT:T<=36):au AB AF 29 [c.av] (.tuple [ac (c.P T).length fun j=>(c.W T j:Int),.agg (Zo c.nl T c.X c.G)]):=
 i3f c T (by omega) (by have:=h.nl;omega) c.X (c.X c.nl) (c.X (c.nl+1)) (h.Zq) h.Zl h.Zk c.G c.Yi
theorem i6.ok.read (h:c.ok T)(hE:Gy c 0)(hT:T<=36):au AB AF 131 [ac c.ns c.sz,ac c.no c.od,Ab c.nl c.lk,c.nr.av,c.goal.av] (.tuple [.d9 (Rl c.ns c.sz c.no c.od c.nl (c.P T).length (fun j=>(c.W T j:Int)) c.X c.G) 0,int 0]):=
 i4v c.nr c.goal (by omega) h.nl (h.ZH hE) c.X (c.X c.nl) (c.X (c.nl+1)) h.Y0 h.YZ h.YY c.G c.Yi
end
def Zs (ns no:Nat)(sz od:Nat->Int)(q:Nat):AV:= .agg [ac ns sz,ac no od,.bi 0 2 AP q AF,.bi 1 2 AP 0 AF,int 0]
theorem j5v {ns no:Nat}(sz od:Nat->Int)(d:AY)(hd:d.ns<=1000000/\d.no<=1000000)(r:Bool)(hr:r=AG↔L d.ns d.sz=L ns sz/\L d.no d.od=L no od):
 au AB AG 138 [.agg [ac ns sz,ac no od],d.av] (bool r):=by
 obtain⟨z,hz⟩: ∃z:Bool,z=AG↔L d.ns d.sz=L ns sz:=by classical exact⟨decide _,decide_eq_true_iff⟩
 obtain⟨z2,eb⟩: ∃z:Bool,z=AG↔L d.no d.od=L no od:=by classical exact⟨decide _,decide_eq_true_iff⟩
 have h1:=JR hd.1 d.sz sz z hz;have h2:=JR hd.2 d.od od z2 eb;rw[<-hz,<-eb] at hr;clear hz eb hd;obtain⟨ns',sz',QQ,QS,ne,en,nn,var,nk,dq,root⟩:=d;refine j6 (cr AC ci f1f _ rfl fun E Sg hb hS=> ?_);cbv;refine bf hS (bool z) (by subst hS;exact h1) ?_;cases z
 ·cbv;exact jq hr fun h=>AK h.1
 cbv;refine bf hS (bool z2) (by subst hS;exact h2) ?_;cbv;refine ga ?_;cases r<;>cases z2<;>simp at hr⊢
def Sh (ns no:Nat)(sz od:Nat->Int):List ae:=[.var [.fn 138 [.agg [ac ns sz,ac no od]] []]]
theorem j6j {ns no:Nat}(sz od:Nat->Int)(d:AY)(hd:d.ns<=1000000/\d.no<=1000000)(r:Bool)(hr:r=AG↔ ¬(L d.ns d.sz=L ns sz/\L d.no d.od=L no od)):
 ay AB 176 [d.av,.ptr 0 0] (Sh ns no sz od) (ro (Sh ns no sz od) (bool r)):=by
 have h1:=j5v (ns:=ns) (no:=no) sz od d hd (!r) (by
  cases r
  ·exact⟨fun _=>Classical.byContradiction fun h=>AK (hr.2 h),fun _=>rfl⟩
  ·exact⟨fun h=>AK h,fun h=>absurd h (hr.1 rfl)⟩)
 clear hr hd;obtain⟨ns',sz',QQ,QS,ne,en,nn,var,nk,dq,root⟩:=d;refine l7 AC ci e9d _ rfl fun E Sg hb hS=> ?_;simp only[Sh,List.length_cons,Ad] at hb;cbv;refine lu hS (ay.VC rfl h1) ?_;cases r<;>cbv<;>exact j7 (ga rfl) (.cons (.refl _) (.nil _)) (.inl ⟨rfl,rfl⟩)
theorem j5s {ns no:Nat}(sz od:Nat->Int){n:Nat}(hn:n<=1000000)(l:Nat->AY)(hd: ∀i,i<n->(l i).ns<=1000000/\(l i).no<=1000000)(r:Bool)
 (hr:r=AG↔ ∀i,i<n->L (l i).ns (l i).sz=L ns sz/\L (l i).no (l i).od=L no od):
 ay AB 137 [.fn 138 [.agg [ac ns sz,ac no od]] [],Ab n l] [] (ro [] (bool r)):=by
 obtain⟨p,hp⟩: ∃p:Nat->Bool,∀i,p i=AG↔ ¬(L (l i).ns (l i).sz=L ns sz/\L (l i).no (l i).od=L no od):=by classical exact⟨fun i=>decide (¬_),fun i=>decide_eq_true_iff⟩
 have aq:=j4z hn l (Sh ns no sz od) 176 0 p (fun i hi=>j6j sz od (l i) (hd i hi) (p i) (hp i)) (!r) (JJ hp hr);clear hr hp hd;refine l7 AC ci e8h _ rfl fun E Sg hb hS=> ?_;simp only[Ad] at hb;cbv;refine lu hS aq ?_;cases r<;>cbv<;>exact j7 (ga rfl) (.nil _) (.inl ⟨rfl,rfl⟩)
theorem j5h (d:AY)(hf:d.fit)(h0: ∀i,i<d.ne->0<=(d.en i).fault)(jn:d.no<=12)(hd:s8 d=0):au AB AG 99 [Ab 1 fun _=>d] (int 0):=by
 have Lf:=U1 d hf h0 jn 0 hd;have Lg:=j5s (ns:=d.ns) (no:=d.no) d.sz d.od (n:=1) (by omega) (fun _=>d) (fun _ _=>⟨hf.ns,hf.no⟩) AG (by simp);clear hd h0 hf;obtain⟨ns,sz,no,od,ne,en,nn,var,nk,dq,root⟩:=d;refine su (cr AC ci h0e _ rfl fun E Sg hb hS=> ?_);have e:=fh hS;cbv;refine gg AC ci hS (fun i=>i<=1) (fun i=>1-i)
  (fun i=>⟨dn [(0,Ab 1 fun _=>⟨ns,sz,no,od,ne,en,nn,var,nk,dq,root⟩),(6,Ab 1 fun _=>⟨ns,sz,no,od,ne,en,nn,var,nk,dq,root⟩),(7,int (1:Nat)),(8,int i)] 31,[],[]⟩) 0 (by omega) ?_ ?_
 ·exact bq rfl ⟨AA _,AA _,br (e.ofNat _),bg rfl,trivial⟩ (.same _) (by simp;omega) (.inr rfl) rfl
 rintro i hi N hN;cbv;split
 ·rename_i h;have hlt:i<1:=AI.1 (ry hS h);cbv;simp only[nat,e.toNat,AD,AE];refine ad hS (gf hS hlt) ?_;refine bf hS _ Lf ?_;cbv;split
  ·rename_i h;exact absurd rfl (e8q hS h)
  cbv;refine ad hS (ji hS (by omega)) ?_;exact hN (i+1) _ hlt (by omega) (bq rfl ⟨AA _,AA _,AA _,je hS,trivial⟩ (.nil _) (by simp;omega) (.inl ⟨rfl,rfl⟩) rfl)
 ·cbv;refine ad hS (gf hS (by omega)) (ad hS (gf hS (by omega)) ?_);refine lu hS Lg ?_;cbv;exact bg rfl
theorem TE:au AB AF 142 [] (.agg [u8 0,int 1]):=by refine cr AC ci e8d _ rfl fun E Sg hb hS=> ?_;cbv;exact fl.agg (.cons (bg rfl) (.cons (bg rfl) .nil))
theorem j4w {sz g h:Nat->Int}: ∀{n:Nat},HS sz g n->HS sz h n->jc sz g n=jc sz h n-> ∀j,j<n->g j=h j
 |0,_,_,_,j,hj=>absurd hj (AS j)
 |n+1,hg,hh,e,j,hj=>by
  have g1:=hg n (by omega);have h1:=hh n (by omega);rw[jc,jc] at e;have key:jc sz g n=jc sz h n:=by
   rcases Int.lt_trichotomy (jc sz g n) (jc sz h n) with hlt|heq|hlt
   ·have:=AW (show jc sz g n+1<=jc sz h n by omega) (show 0<=sz n by omega);rw[Ai] at this;omega
   ·exact heq
   ·have:=AW (show jc sz h n+1<=jc sz g n by omega) (show 0<=sz n by omega);rw[Ai] at this;omega
  by_cases ej:j=n
  ·subst ej;rw[key] at e;omega
  ·exact j4w (fun i hi=>hg i (by omega)) (fun i hi=>hh i (by omega)) key j (by omega)
section
variable (c:i6) (p:om) {np:Nat} {pc:Nat->Int}
end
end Go.Proofs.Tryz.Run
