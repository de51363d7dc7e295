/- LookWorthy answers true. Conditions: none. -/
import Derived.Test.YtbglklaocjifhaaGreatFJq
open Go.Vf.a0x renaming refl->AA,sl'->AU
open Go.Proofs.Tryz renaming prog->AB
open Int renaming ofNat->AC,ofNat_eq_natCast->AD,ofNat_le->AO,negSucc->AQ,le_refl->AR,toNat_natCast->AS,ofNat_lt->AW
open Bool renaming false->AE,true->AF,and_eq_true_iff->AN,or_false->AT
open Go.Proofs.YtbglklaocjifhaaGreat.Tryz renaming mixed->AG
open List renaming cons_append->AH,nil_append->AI
open Nat renaming zero_le->AJ,not_lt_zero->AK,le_refl->AP,mod_lt->AX
open BEq renaming rfl->AM
set_option linter.unusedSimpArgs false
set_option linter.unusedVariables false
set_option maxHeartbeats 0
set_option maxRecDepth 100000
namespace Go.Proofs.Tryz.Run
open Go Go.Vf Go.Proofs
open Go.Proofs.YtbglklaocjifhaaGreat
def CaR.wo (c:CaR)(i:Nat):CaR:={c with nl:=c.nl-1,lk:=fun j=>if j<i then c.lk j else c.lk (j+1)}
theorem k5g (c:CaR)(hnl:c.nl<=6){i:Nat}(hi:i<c.nl):a0j AB AE 30 [c.av,int i] (c.wo i).av:=by
 obtain⟨ns,sz,no,od,nl,lk,⟨ins,isz,ino,iod,ine,ien,inn,ivar,ink,ikid,iroot⟩,⟨gns,gsz,gno,god,gne,gen,gnn,gvar,gnk,gkid,groot⟩⟩:=c;simp only[CaR.av,CaR.wo,DiR.cs,AH,AI] at*
 unfold dsl;obtain⟨E0,hE0⟩: ∃f:Nat->List DV,∀j,(lk j).row=f j:=⟨_,fun _=>rfl⟩;obtain⟨E1,hE1⟩: ∃f:Nat->List DV,∀j,(if j<i then lk j else lk (j+1)).row=f j:=⟨_,fun _=>rfl⟩;have hE2: ∀j,E1 j=if j<i then E0 j else E0 (j+1):=fun j=>by rw[<-hE1];split<;>exact hE0 _
 simp only[hE0,hE1];clear hE0 hE1;refine a0k AG okP g8n _ rfl fun E Sg hbs hS=> ?_;have e:=b2k hS;obtain⟨m,rfl⟩: ∃m,nl=m+1:=⟨nl-1,by omega⟩;have r1:Sg.inr .i64 (Sg.iadd (AC i) (AC 1)):=e1n hS (by omega);have r0:Sg.pile 0 0:=by subst hS;exact AR _
 have r3:Sg.pile (AC i) (Sg.ofNat (m+1)):=by subst hS;exact AO.2 (by omega)
 cases i with
 |zero=>
  have c1:Sg.nsub (Sg.toNat (AC 0)) 0=0:=by subst hS;rfl
  have c2:Sg.nsub (Sg.toNat (Sg.ofNat (m+1))) (Sg.toNat (Sg.iadd (AC 0) (AC 1)))=m:=by subst hS;show (AC (m+1)).toNat-1=m;simp
  cbv;refine a1g hS r1 (a1g hS r0 (a1g hS r0 (a1g hS r3 (a1g hS (by subst hS;show (0:Int)<=1;decide) (a1g hS (by subst hS;show (1:Int)<=AC (m+1);simp only[AD];omega) (a1g hS (by subst hS;exact AR _) ?_))))));simp only[c1,c2];cases m with
  |zero=>cbv;refine a1g hS (c3d hS) ?_;refine a3x.agg (.cons (AA _) (.cons (AA _) (.cons ?_ (.cons (AA _) (.cons (AA _) (.cons (AA _) (.cons (AA _) (.cons (AA _) (.cons (AA _) (.cons (AA _) (.cons (AA _) (.cons (AA _) (.cons (AA _) .nil)))))))))))));exact AU rfl fun j hj=>absurd hj (AK j)
  |succ m=>cbv;refine a1g hS (c3d hS) (a1g hS (f1i hS (by omega)) (a1g hS (i2h hS (by omega)) (a1g hS (e8l hS (AP _)) ?_)));refine a3x.agg (.cons (AA _) (.cons (AA _) (.cons ?_ (.cons (AA _) (.cons (AA _) (.cons (AA _) (.cons (AA _) (.cons (AA _) (.cons (AA _) (.cons (AA _) (.cons (AA _) (.cons (AA _) (.cons (AA _) .nil)))))))))))));refine AU (by subst hS;exact Nat.zero_add _) fun j hj=> ?_;rw[hE2,if_neg (AK j)];subst hS;show (if j<0 then ([]:List DV) else E0 (((0:Int)+1).toNat+(j-0)))=E0 (j+1);rw[if_neg (AK j)];congr 1;omega
 |succ i=>
  obtain⟨k,hk⟩: ∃k,m-(i+1)=k:=⟨_,rfl⟩;have c1:Sg.nsub (Sg.toNat (AC (i+1))) 0=i+1:=by subst hS;rfl
  have c2:Sg.nsub (Sg.toNat (Sg.ofNat (m+1))) (Sg.toNat (Sg.iadd (AC (i+1)) (AC 1)))=k:=by rw[<-hk];subst hS;show (AC (m+1)).toNat-(AC (i+1)+1).toNat=m-(i+1);simp only[AD];omega
  cbv;refine a1g hS r1 (a1g hS r0 (a1g hS (by subst hS;exact Int.natCast_nonneg _) (a1g hS r3 (a1g hS (by subst hS;show (0:Int)<=AC (i+1)+1;simp only[AD];omega) (a1g hS (by subst hS;show AC (i+1)+1<=AC (m+1);simp only[AD];omega) (a1g hS (by subst hS;exact AR _) ?_))))));simp only[c1,c2];cbv;refine a1g hS (f1i hS (by omega)) (a1g hS (i2h hS (by omega)) (a1g hS (c3d hS) (a1g hS trivial (a1g hS (by subst hS;show 0+(i+1)+k<=1073741824;omega) (a1g hS (e8l hS (AP _)) ?_)))));refine a3x.agg (.cons (AA _) (.cons (AA _) (.cons ?_ (.cons (AA _) (.cons (AA _) (.cons (AA _) (.cons (AA _) (.cons (AA _) (.cons (AA _) (.cons (AA _) (.cons (AA _) (.cons (AA _) (.cons (AA _) .nil)))))))))))));refine AU (by subst hS;show 0+(i+1)+k=m;omega) fun j hj=> ?_;rw[hE2];subst hS;show (if j<0+(i+1) then (if j<0 then ([]:List DV) else E0 (j-0)) else E0 ((AC (i+1)+1).toNat+(j-(0+(i+1)))))=if j<i+1 then E0 j else E0 (j+1);by_cases hj2:j<i+1
  ·rw[if_pos (by omega),if_neg (AK j),if_pos hj2];rfl
  ·rw[if_neg (by omega),if_neg hj2];congr 1;simp only[AD];omega
def shf (i j:Nat):Nat:=if j<i then j else j+1
def PbR.del (K:PbR)(i:Nat):PbR:=⟨K.nl-1,fun j=>K.A (shf i j),fun j=>K.X (shf i j),K.G⟩
theorem PbR.del_can {K:PbR}{i:Nat}(hi:i<K.nl): ∀{n:Nat} {l:List Nat},(K.del i).can n l↔(K.wo i).can n l
 |0,_=>Iff.rfl
 |n+1,l=>by
  constructor
  ·rintro (h|⟨j,h1,h2,h3⟩)
   ·exact .inl h
   ·have h1':j<K.nl-1:=h1;refine .inr ⟨shf i j,?_,AN.2 ⟨h2,decide_eq_true ?_⟩,fun v hv=>(PbR.del_can hi).1 (h3 v hv)⟩
    ·show shf i j<K.nl;unfold shf;split<;>omega
    ·unfold shf;split<;>omega
  ·rintro (h|⟨j,h1,h2,h3⟩)
   ·exact .inl h
   ·have h1':j<K.nl:=h1;obtain⟨h2,h4⟩:=AN.1 h2;have h4:=of_decide_eq_true h4;obtain⟨t,ht,rfl⟩: ∃t,t<K.nl-1/\shf i t=j:=by
     rcases Nat.lt_or_ge j i with h|h
     ·exact⟨j,by omega,if_pos h⟩
     ·exact⟨j-1,by omega,by unfold shf;rw[if_neg (by omega)];omega⟩
    exact .inr ⟨t,ht,h2,fun v hv=>(PbR.del_can hi).2 (h3 v hv)⟩
theorem PbR.del_mind {K:PbR}{i:Nat}(hi:i<K.nl){n:Nat}{l:List Nat}:(K.del i).mind n l↔(K.wo i).mind n l:=by unfold PbR.mind;rw[PbR.del_can hi];exact and_congr_right fun _=>forall_congr' fun m=>imp_congr_right fun _=>not_congr (PbR.del_can hi)
theorem PbR.del_res {K:PbR}{i:Nat}(hi:i<K.nl){l:List Nat}{z:Bool}{d:Nat}{r:PlR}(h:(K.del i).res l z d r): ∃r',(K.wo i).res l z d r':=by
 cases z with
 |true=>obtain⟨h1,_⟩:=h.1 rfl;exact⟨_,fun _=>⟨(PbR.del_mind hi).1 h1,rfl⟩,fun e=>(by cases e)⟩
 |false=>obtain⟨h1,_,h3⟩:=h.2 rfl;exact⟨.none,fun e=>(by cases e),fun _=>⟨h1,rfl,fun n hn=>h3 n ((PbR.del_can hi).2 hn)⟩⟩
theorem CaR.wo_dg (c:CaR){i:Nat}(hi:i<c.nl)(j:Nat):(c.wo i).dg j=c.dg (shf i j):=by
 unfold CaR.dg CaR.wo shf;simp only;by_cases h:j<c.nl-1
 ·rw[if_pos h];by_cases h2:j<i
  ·rw[if_pos h2,if_pos h2,if_pos (show j<c.nl by omega)]
  ·rw[if_neg h2,if_neg h2,if_pos (show j+1<c.nl by omega)]
 ·rw[if_neg h,if_neg (show¬j<i by omega),if_neg (show¬j+1<c.nl by omega)];by_cases h3:j=c.nl-1
  ·rw[if_pos h3,if_pos (show j+1=c.nl by omega)]
  ·rw[if_neg h3,if_neg (show¬j+1=c.nl by omega)]
theorem k4y {i j n:Nat}(h:j<n-1+2)(hi:i<n):shf i j<n+2:=by unfold shf;split<;>omega
theorem CaR.fit.wo {c:CaR}(h:c.fit){i:Nat}(hi:i<c.nl):(c.wo i).fit:=
 ⟨h.ns,h.no,by show c.nl-1<=6;have:=h.nl;omega,fun j hj=>by rw[c.wo_dg hi];exact h.dg _ (k4y hj hi),fun j hj=>by rw[c.wo_dg hi];exact h.flt _ (k4y hj hi),fun j hj=>by rw[c.wo_dg hi];exact h.od _ (k4y hj hi)⟩
theorem CaR.ok.wo {c:CaR}{T:Nat}(h:c.ok T){i:Nat}(hi:i<c.nl):(c.wo i).ok T:=
 ⟨h.fit.wo hi,by show c.nl-1<=4;have:=h.nl;omega,h.fr,h.hT,fun j hj=>by rw[c.wo_dg hi];exact h.di _ (k4y hj hi),fun j hj=>by rw[c.wo_dg hi];exact h.Td _ (k4y hj hi),fun j hj=>by rw[c.wo_dg hi];exact h.err _ (k4y hj hi)⟩
theorem CaR.wo_X (c:CaR){i:Nat}(hi:i<c.nl)(j:Nat):(c.wo i).X j=c.X (shf i j):=by unfold CaR.X;rw[c.wo_dg hi]
theorem CaR.wo_P (c:CaR){i:Nat}(hi:i<c.nl)(T:Nat):(c.wo i).P T=c.P T:=by unfold CaR.P;rw[c.wo_X hi];show plc (c.X (shf i (c.nl-1))) T=_;rw[show shf i (c.nl-1)=c.nl by unfold shf;rw[if_neg (by omega)];omega]
theorem CaR.wo_G (c:CaR){i:Nat}(hi:i<c.nl):(c.wo i).G=c.G:=by unfold CaR.G;funext p;rw[c.wo_X hi];show decide (c.X (shf i (c.nl-1+1)) p=_)=_;rw[show shf i (c.nl-1+1)=c.nl+1 by unfold shf;rw[if_neg (by omega)];omega]
theorem CaR.wo_K (c:CaR){i:Nat}(hi:i<c.nl):(c.wo i).K=c.K.del i:=by unfold CaR.K PbR.del;rw[c.wo_G hi];congr 1;funext j;exact c.wo_X hi j
theorem CaR.K_wo_same (c:CaR)(i:Nat)(l:List Nat):(c.K.wo i).same (c.Kp fun j=>decide (j=i)) l:=
 ⟨rfl,fun j _=>by show (AF&&decide (j≠i))=!(decide (j=i));simp,fun i hi p _=>by show c.X i p=cel c.nl c.X i p;unfold cel;rw[if_pos (show i<c.nl from hi)],fun _ _ _ _=>Iff.rfl⟩
def k7n (f:Nat->Bool):Nat->Bool
 |0=>AE
 |n+1=>k7n f n||f n
theorem k7j {f:Nat->Bool}: ∀{n:Nat},k7n f n=AF↔ ∃i,i<n/\f i=AF
 |0=>⟨fun h=>(by cases h),fun⟨i,h,_⟩=>absurd h (AK i)⟩
 |n+1=>by
  rw[k7n,Bool.or_eq_true,k7j];constructor
  ·rintro (⟨i,h1,h2⟩|h)
   ·exact⟨i,by omega,h2⟩
   ·exact⟨n,by omega,h⟩
  ·rintro⟨i,h1,h2⟩;by_cases e:i=n
   ·subst e;exact .inr h2
   ·exact .inl ⟨i,by omega,h2⟩
def PlR.asks (m:Nat):Nat->PlR->Bool
 |0,p=>decide (p.look=m)
 |lv+1,p=>decide (p.look=m)||k7n (fun i=>PlR.asks m lv (p.nx i)) p.nn
theorem k7k (m:Nat)(lv:Nat)(hlv:lv<=6)(p:PlR)(hp:p.ok)(rr:Nat->Bool)(hrr: ∀i,i<p.nn->0<lv->a0j AB AF 53 [(p.nx i).av,int m,int ((lv:Int)-1)] (bool (rr i)))(r:Bool)(hr:r=(decide (p.look=m)||(decide (0<lv)&&k7n rr p.nn))):
 a0j AB AF 53 [p.av,int m,int lv] (bool r):=by
 obtain⟨lk,ncs,nns,C,E,hrow,hav,hpav⟩:=p.kids;obtain⟨_,h1,h2,_,_⟩:=p.ok_iff.1 hp;rw[hpav];simp+contextual only[hav] at hrr;clear hpav hav hrow hp;obtain⟨l,hl⟩: ∃l,p.look=l:=⟨_,rfl⟩;obtain⟨nc,hnc⟩: ∃l,p.nc=l:=⟨_,rfl⟩;obtain⟨nn,hnn⟩: ∃l,p.nn=l:=⟨_,rfl⟩;obtain⟨c,hc⟩: ∃l,p.c=l:=⟨_,rfl⟩;rw[hl] at hr;rw[hl,hnc,hnn,hc];rw[hnc] at h1;rw[hnn] at h2 hr hrr;clear hl hnc hnn hc;obtain⟨a0,ha0⟩: ∃a:Bool,decide (l=(m:Int))=a:=⟨_,rfl⟩;rw[ha0] at hr;obtain⟨G,hG⟩: ∃G:Nat->Bool,∀i,G i=(a0||k7n rr i):=⟨_,fun _=>rfl⟩;have hG0:G 0=a0:=by rw[hG];exact AT _
 have hGs: ∀i,G (i+1)=(G i||rr i):=fun i=>by rw[hG,hG,k7n,Bool.or_assoc]
 have hGe:r=if 0<lv then G nn else a0:=by
  rw[hr,hG];by_cases h:0<lv
  ·rw[if_pos h,decide_eq_true h,Bool.true_and]
  ·rw[if_neg h,decide_eq_false h,Bool.false_and,AT]
 clear hG hr;refine a1e (a0k AG okP k7x _ rfl fun E0 Sg hb hS=> ?_);have e:=b2k hS;have ha:Sg.ieq l (AC m)=G 0:=by
  rw[e.ieq,hG0,<-ha0];show (l==(m:Int))=_;by_cases h:l=(m:Int)
  ·rw[h];simp
  ·simp[h]
 cbv;simp only[ha];refine a7r AG okP hS (fun i=>i<=nn/\(lv=0->i=0)) (fun i=>nn-i)
  (fun i=>⟨b5r [(1,int m),(2,int lv),(3,.ptr 0 0),(7,bool (G i)),(8,int i)] 37,[.var [int l,vsl nc c,.d (.sl 3 nn fun i=>[.int .i64 (.v (lk i)),.sl 2 (ncs i) (C i),.sl 3 (nns i) (E i)])]],[]⟩) 0 ⟨by omega,fun _=>rfl⟩ ?_ ?_
 ·exact a4c rfl ⟨AA _,AA _,AA _,AA _,a6c rfl,trivial⟩ (.same _) (by omega) (.inr rfl) rfl
 ·rintro i ⟨hi,hz⟩ N hN;obtain⟨g,hg⟩: ∃g,G i=g:=⟨_,rfl⟩;obtain⟨g',hg'⟩: ∃g,G (i+1)=g:=⟨_,rfl⟩;have hgs:g'=(g||rr i):=by rw[<-hg',<-hg,hGs]
  have hN': ∀st,(i+1<=nn/\(lv=0->i+1=0))->nn-(i+1)<nn-i->_->_:=hN (i+1);simp only[hg];clear hN;cbv;split
  ·rename_i h;have hlt:i<nn:=d3r hS h;cbv;split
   ·rename_i h;have h4:0<lv:=AW.1 (b3h hS h);have g1:=hrr i hlt h4;have g4:a0j AB AF 53 [.agg [int (lk i),.d (.sl 2 (ncs i) (C i)),.d (.sl 3 (nns i) (E i))],int m,int (Sg.isub (AC lv) (AC 1))] (bool (rr i)):=by rw[e.isub];exact g1
    cases g with
    |true=>cbv;refine a1g hS (a4p hS (by simp only[AD];omega)) ?_;exact hN' _ ⟨by omega,by omega⟩ (by omega) (a4c rfl ⟨AA _,AA _,AA _,a0s (by rw[hg',hgs];rfl),b2s hS,trivial⟩ (.same _) (by omega) (.inr rfl) rfl)
    |false=>cbv;simp only[nat,e.toNat,AD,AS];refine a1g hS (a5p hS hlt) ?_;refine a1g hS (a9o hS (by omega)) ?_;cbv;refine a0v hS _ g4 ?_;cbv;refine a1g hS (a4p hS (by simp only[AD];omega)) ?_;exact hN' _ ⟨by omega,by omega⟩ (by omega) (a4c rfl ⟨AA _,AA _,AA _,a0s (by rw[hg',hgs,Bool.false_or]),b2s hS,trivial⟩ (.same _) (by omega) (.inr rfl) rfl)
   ·rename_i h;have h4:lv<=0:=AO.1 (b3r hS h);cbv;have h0:=hz (by omega);exact a0s (by rw[hGe,if_neg (by omega),<-hG0,<-h0,hg])
  ·rename_i h;have hlt:nn<=i:=d3c hS h;cbv;have h0:i=nn:=by omega
   exact a0s (by
    rw[hGe];by_cases h:0<lv
    ·rw[if_pos h,<-h0,hg]
    ·rw[if_neg h,<-hG0,<-hz (by omega),hg])
theorem k7p (m:Nat): ∀(lv:Nat),lv<=6-> ∀p:PlR,p.ok->a0j AB AF 53 [p.av,int m,int lv] (bool (PlR.asks m lv p)):=by
 intro lv
 induction lv with
 |zero=>intro _ p hp;exact k7k m 0 (by omega) p hp (fun _=>AE) (fun i _ h=>absurd h (by omega)) _ (by simp[PlR.asks])
 |succ lv ih=>
  intro hlv p hp;obtain⟨_,h1,h2,_,h4⟩:=p.ok_iff.1 hp;have es:((lv+1:Nat):Int)-1=lv:=by omega
  refine k7k m (lv+1) hlv p hp (fun i=>PlR.asks m lv (p.nx i)) (fun i hi _=> ?_) _ (by simp[PlR.asks]);rw[es];exact ih (by omega) (p.nx i) (h4 i hi)
theorem PbR.asks_no {K:PbR}{i:Nat}: ∀{n lv:Nat} {l:List Nat},K.can n l->n<=lv->PlR.asks i lv (K.bt n l)=AE->(K.wo i).can n l
 |0,_,l,h,_,_=>h
 |n+1,lv,l,h,hlv,ha=>by
  by_cases hc:K.can n l
  ·rw[PbR.bt_le hc (by omega)] at ha;exact PbR.can_succ (PbR.asks_no hc (by omega) ha)
  have hm:K.mind (n+1) l:=⟨h,fun m hm hc'=>hc (PbR.can_le hc' (by omega))⟩;obtain⟨f1,f2,f3⟩:=hm.fst;rw[f3] at ha;generalize j9f (K.sp n l) K.nl=j at f1 f2 f3 ha⊢;obtain⟨lv,rfl⟩: ∃k,lv=k+1:=⟨lv-1,by omega⟩;obtain⟨h1,h2⟩:=Bool.or_eq_false_iff.1 ha;have h1: ¬((j:Int)=i):=of_decide_eq_false h1;refine .inr ⟨j,f1,AN.2 ⟨f2.1,decide_eq_true (fun e=>h1 (by rw[e]))⟩,fun v hv=> ?_⟩;have hv':v∈cellsOf (K.X j) l:=hv;obtain⟨t,ht,rfl⟩:=k1f hv';have h3:PlR.asks i lv ((j8y j (cellsOf (K.X j) l) fun t=>K.bt n (K.pt j l t)).nx t)=AE:=by
   cases h5:PlR.asks i lv ((j8y j (cellsOf (K.X j) l) fun t=>K.bt n (K.pt j l t)).nx t) with
   |false=>rfl
   |true=>exact absurd (h2.symm.trans (k7j.2 ⟨t,ht,h5⟩)) (by decide)
  rw[k1a ht] at h3;exact PbR.asks_no (f2.2 _ hv) (by omega) h3
theorem PbR.wo_worth {K:PbR}{i d d':Nat}{l:List Nat}{z:Bool}{r:PlR}(hm:K.mind d l)(hd:d<=5)(h:(K.wo i).res l z d' r):(z=AF->d<=d')/\(PlR.asks i 5 (K.bt d l)=AE->z=AF/\d'=d):=by
 have hge: ∀m,(K.wo i).can m l->d<=m:=fun m hc=>Classical.byContradiction fun hlt=>hm.2 m (by omega) (PbR.wo_sub hc);refine⟨fun e=>hge d' (h.1 e).1.1,fun ha=> ?_⟩;have hc:=PbR.asks_no hm.1 hd ha;cases z with
 |false=>exact absurd hc ((h.2 rfl).2.2 d)
 |true=>have h1:=(h.1 rfl).1;exact⟨rfl,h1.uniq ⟨hc,fun m hm' hc'=>by have:=hge m hc';omega⟩⟩
section
variable {P:Program} {A:Ann} {ro:Option Nat} {E:Ent} {Sg:Sig}
theorem k7w (hS:Sg=std P A ro E){z:Int}(h:0<=z/\z<=255):Sg.iwrap .i64 z=z:=by rw[(b2k hS).iwrap];exact b6g (by omega) (by omega)
theorem k7o (hS:Sg=std P A ro E){z:Int}{n:Nat}(h:0<=z):Sg.irem z (Sg.ofNat n)=((z.toNat % n:Nat):Int):=by rw[(b2k hS).irem,(b2k hS).ofNat];obtain⟨k,rfl⟩: ∃k:Nat,z=k:=⟨z.toNat,by omega⟩;rw[AS,Int.tmod_eq_emod_of_nonneg h];rfl
theorem k7t (hS:Sg=std P A ro E){n:Nat}(h:n≠0):Sg.nz (Sg.ofNat n):=by subst hS;exact fun h2=>h (Int.ofNat.inj h2)
end
theorem k5i (A B:DiR){ns no nl n:Nat}{sz od:Nat->Int}{lk:Nat->DiR}{x0 x1 x2 x3:DV}{e4:Nat->List DV}{r:PlR}{d:Nat}
 (h108:a0j AB AE 108 [isl ns sz,isl no od,dsl nl lk,A.av,B.av] (.tuple [.dptr [x0,x1,x2,x3,.sl 9 n e4] 0,int 0])) (h109:a0j AB AE 109 [.dptr [x0,x1,x2,x3,.sl 9 n e4] 0] (.tuple [r.av,int d,bool AE])):
 a0j AB AE 80 [isl ns sz,isl no od,dsl nl lk,A.av,B.av] (.tuple [.d .nil,int 7]):=by
 obtain⟨ins,isz,ino,iod,ine,ien,inn,ivar,ink,ikid,iroot⟩:=A;obtain⟨gns,gsz,gno,god,gne,gen,gnn,gvar,gnk,gkid,groot⟩:=B;obtain⟨lk',nc,nn,C,D,h1,_⟩:=r.avX;rw[h1] at h109;refine a0k AG okP g8m _ rfl fun E Sg hbs hS=> ?_;have e:=b2k hS;cbv;refine a0v hS _ h108 ?_;cbv;simp only[e.ieq,e.bnot];cbv;refine a0v hS _ h109 ?_;cbv;exact a3x.tuple (.cons (AA _) (.cons (a6c rfl) .nil))
theorem k5j (A B:DiR){ns no nl n:Nat}(hnl:nl<=4){sz od:Nat->Int}{lk:Nat->DiR}{x0 x1 x2 x3:DV}{e4:Nat->List DV}{r:PlR}{d:Nat}(hd:d<=4)
 (h108:a0j AB AE 108 [isl ns sz,isl no od,dsl nl lk,A.av,B.av] (.tuple [.dptr [x0,x1,x2,x3,.sl 9 n e4] 0,int 0])) (h109:a0j AB AE 109 [.dptr [x0,x1,x2,x3,.sl 9 n e4] 0] (.tuple [r.av,int d,bool AF]))
 (w:Nat->Int) (h110: ∀i,i<nl-> ∃(z:Bool) (d':Nat) (r':PlR),d'<=4/\a0j AB AE 110 [.dptr [x0,x1,x2,x3,.sl 9 n e4] 0,.d (.sl 9 n e4),.agg [bool (decide (0=i)),bool (decide (1=i)),bool (decide (2=i)),bool (decide (3=i))]] (.tuple [r'.av,int d',bool z])/\w i=if z=AF then (d':Int)-d else-1):
 a0j AB AE 80 [isl ns sz,isl no od,dsl nl lk,A.av,B.av] (.tuple [isl nl w,int 0]):=by
 obtain⟨ins,isz,ino,iod,ine,ien,inn,ivar,ink,ikid,iroot⟩:=A;obtain⟨gns,gsz,gno,god,gne,gen,gnn,gvar,gnk,gkid,groot⟩:=B;obtain⟨lk',nc,nn,C,D,h1,_⟩:=r.avX;rw[h1] at h109;clear h1;refine a0k AG okP g8m _ rfl fun E Sg hbs hS=> ?_;have e:=b2k hS;cbv;refine a0v hS _ h108 ?_;cbv;simp only[e.ieq,e.bnot];cbv;refine a0v hS _ h109 ?_;cbv;obtain⟨bA,hbA⟩: ∃l:List AV,[isl ins isz,isl ino iod,vsl ine ien,bsl inn ivar ink ikid,int iroot]=l:=⟨_,rfl⟩;refine e4p AG okP hS (σ:=Nat×List Nat) (fun s=>s.1<=nl) (fun s=>nl-s.1)
  (fun s=>⟨b5r [(12,.dptr [x0,x1,x2,x3,.sl 9 n e4] 0),(15,int d),(17,.msl 3 1 none s.1 AE),(45,int nl),(46,int s.1)] 72,
    [.var [isl ins isz,isl ino iod,vsl ine ien,bsl inn ivar ink ikid,int iroot],.var [isl gns gsz,isl gno god,vsl gne gen,bsl gnn gvar gnk gkid,int groot],.var [int lk',.d (.sl 2 nc C),.d (.sl 3 nn D)],.arr 1 s.1 fun i=>[.int .i64 (.v (w i))]],s.2⟩) (0,[]) (AJ _) ?_ ?_
 ·exact (b4w.gt 17 1 (fun _=>[]) rfl).trans (b4w.le (a4c rfl ⟨AA _,AA _,AA _,b0a (e.ofNat _),a6c rfl,trivial⟩
   (.cons (.refl _) (.cons (.refl _) (.cons (.refl _) (.cons (a9v.arrr rfl fun j hj=>by omega) (.nil _))))) (by rw[hbs];exact AJ _) (.inl ⟨rfl,rfl⟩) rfl))
 rintro⟨i,mv⟩ hi N hN;simp only at hi;cbv;split
 rotate_left
 ·rename_i h;have hin:i=nl:=by have:=AO.1 (b3r hS h);omega
  subst hin;cbv;refine a1g hS (e8l hS (AP _)) ?_;exact a3x.tuple (.cons (AA _) (.cons (a6c rfl) .nil))
 rename_i h;have hil:i<nl:=AW.1 (b3h hS h);have hpa:b7y (α:=AV) [.d (.bool AE),.d (.bool AE),.d (.bool AE),.d (.bool AE)] (Sg.nadd 0 (Sg.nmul (Sg.toNat (AC i)) 1)) [.d (.bool AF)]=some [.d (.bool (decide (0=i))),.d (.bool (decide (1=i))),.d (.bool (decide (2=i))),.d (.bool (decide (3=i)))]:=by
  rw[e.nadd,e.nmul,e.toNat];obtain rfl|rfl|rfl|rfl:i=0\/i=1\/i=2\/i=3:=by omega
  ·simp[b7y]
  ·simp[b7y]
  ·simp[b7y]
  ·simp[b7y]
 obtain⟨z,d',r',hd',h5,hw⟩:=h110 i hil;obtain⟨b0,hb0⟩: ∃b,(decide (0=i))=b:=⟨_,rfl⟩;obtain⟨b1,hb1⟩: ∃b,(decide (1=i))=b:=⟨_,rfl⟩;obtain⟨b2,hb2⟩: ∃b,(decide (2=i))=b:=⟨_,rfl⟩;obtain⟨b3,hb3⟩: ∃b,(decide (3=i))=b:=⟨_,rfl⟩;rw[hb0,hb1,hb2,hb3] at hpa h5;obtain⟨lk2,nc2,nn2,C2,D2,g1,_⟩:=r'.avX;rw[g1] at h5;clear g1 h110;cbv;simp only[j7g,hpa];refine a1g hS (a5p hS (show i<4 by omega)) ?_;cbv;refine a0v hS _ h5 ?_;cases z
 ·cbv;refine a1g hS trivial (a1g hS (f1i hS (by omega)) (a1g hS (e1n hS (by omega)) ?_));exact hN (i+1,3::mv) _ hil (by simp only;omega) (b4w.le (a4c rfl ⟨AA _,AA _,d8n hS,AA _,b2s hS,trivial⟩ (.cons (.refl _) (.cons (.refl _) (.cons (.refl _) (.cons (d7h hS (fun j _=> .refl _) (by rw[hw];exact .one (fun w S v h=>by cases h;exact .int _ _))) (.nil _))))) (by rw[hbs];exact AJ _) (.inl ⟨rfl,rfl⟩) (j7y _)))
 ·cbv;refine a1g hS (a9o hS (by simp only[AD];omega)) (a1g hS trivial (a1g hS (f1i hS (by omega)) (a1g hS (e1n hS (by omega)) ?_)));exact hN (i+1,3::mv) _ hil (by simp only;omega) (b4w.le (a4c rfl ⟨AA _,AA _,d8n hS,AA _,b2s hS,trivial⟩ (.cons (.refl _) (.cons (.refl _) (.cons (.refl _) (.cons (d7h hS (fun j _=> .refl _) (by rw[hw,if_pos rfl];subst hS;exact .refl _)) (.nil _))))) (by rw[hbs];exact AJ _) (.inl ⟨rfl,rfl⟩) (j7y _)))
theorem k5a (c:CaR)(hns:c.ns<=8)(hno:c.no<=8)(hnl:c.nl<=6)(hl: ∀i,i<c.nl->(c.lk i).fit)(hi:c.inn.fit)(hg:c.goal.fit){x:DV}{er:Int}(h80:a0j AB AE 80 [isl c.ns c.sz,isl c.no c.od,dsl c.nl c.lk,c.inn.av,c.goal.av] (.tuple [.d x,int er])):
 a0j AB AE 28 [c.av] (.tuple [.d x,int er]):=by
 have q1:=h7c (n:=c.ns) (by omega) c.sz;have q2:=h7c (n:=c.no) (by omega) c.od;have q3:=h9z c.nl (by omega) c.lk hl;have q4:=h8i c.inn hi;have q5:=h8i c.goal hg;obtain⟨ns,sz,no,od,nl,lk,⟨ins,isz,ino,iod,ine,ien,inn,ivar,ink,ikid,iroot⟩,⟨gns,gsz,gno,god,gne,gen,gnn,gvar,gnk,gkid,groot⟩⟩:=c;simp only[CaR.av,DiR.cs,AH,AI] at*
 refine a0k AG okP g5y _ rfl fun E Sg hbs hS=> ?_;have e:=b2k hS;cbv
 repeat' (first|(refine a0v hS _ q1 ?_;cbv)|(refine a0v hS _ q2 ?_;cbv)|(refine a0v hS _ q3 ?_;cbv)|(refine a0v hS _ q4 ?_;cbv)|(refine a0v hS _ q5 ?_;cbv)|(refine a0v hS _ h80 ?_;cbv)|refine a1g hS (c3d hS) ?_)
 exact AA _
theorem k7d (c:CaR)(u:Int)(h48:a0j AB AF 48 [c.av] (bool AE)):a0j AB AF 12 [c.av,u8 u] (bool AF):=by
 have haw:=c4a;obtain⟨ns,sz,no,od,nl,lk,⟨ins,isz,ino,iod,ine,ien,inn,ivar,ink,ikid,iroot⟩,⟨gns,gsz,gno,god,gne,gen,gnn,gvar,gnk,gkid,groot⟩⟩:=c;simp only[CaR.av,DiR.cs,AH,AI] at*
 refine a1e (a0k AG okP k7s _ rfl fun E Sg hbs hS=> ?_);cbv;refine a0v hS _ h48 ?_;cbv;refine a0v hS _ haw ?_;cbv;exact AA _
theorem k7f (c:CaR)(u:Int)(h0:c.nl=0)(h48:a0j AB AF 48 [c.av] (bool AF)):a0j AB AF 12 [c.av,u8 u] (bool AF):=by
 have haw:=c4a;obtain⟨ns,sz,no,od,nl,lk,⟨ins,isz,ino,iod,ine,ien,inn,ivar,ink,ikid,iroot⟩,⟨gns,gsz,gno,god,gne,gen,gnn,gvar,gnk,gkid,groot⟩⟩:=c;simp only[CaR.av,DiR.cs,AH,AI] at*
 subst h0;refine a1e (a0k AG okP k7s _ rfl fun E Sg hbs hS=> ?_);have e:=b2k hS;have g1:Sg.ieq (Sg.ofNat 0) (AC 0)=AF:=by rw[e.ofNat,e.ieq];rfl
 cbv;refine a0v hS _ h48 ?_;cbv;simp only[g1];cbv;refine a0v hS _ haw ?_;cbv;exact AA _
theorem k7h (c:CaR)(u:Int)(h0:c.nl≠0)(h48:a0j AB AF 48 [c.av] (bool AF))(h28:a0j AB AE 28 [c.av] (.tuple [.d .nil,int 7]))(h20:a0j AB AE 20 [c.av] (.tuple [PlR.none.av,int 0,int 7])):a0j AB AF 12 [c.av,u8 u] (bool AF):=by
 have haw:=c4a;rw[PlR.none_av] at h20;obtain⟨C0,hC0⟩: ∃f:Nat->List DV,(fun _=>(VaR.mk 0 0).row)=f:=⟨_,rfl⟩;obtain⟨D0,hD0⟩: ∃f:Nat->List DV,(fun _=>d4k)=f:=⟨_,rfl⟩;rw[hC0,hD0] at h20;obtain⟨ns,sz,no,od,nl,lk,⟨ins,isz,ino,iod,ine,ien,inn,ivar,ink,ikid,iroot⟩,⟨gns,gsz,gno,god,gne,gen,gnn,gvar,gnk,gkid,groot⟩⟩:=c;simp only[CaR.av,DiR.cs,AH,AI] at*
 refine a1e (a0k AG okP k7s _ rfl fun E Sg hbs hS=> ?_);have e:=b2k hS;have g1:Sg.ieq (Sg.ofNat nl) (AC 0)=AE:=by rw[e.ofNat,e.ieq];exact beq_false_of_ne fun h=>h0 (Int.ofNat.inj h)
 cbv;refine a0v hS _ h48 ?_;cbv;simp only[g1];cbv;refine a0v hS _ h28 ?_;cbv;refine a0v hS _ h20 ?_;cbv;simp only[e.ieq,e.bnot,AM];cbv;simp only[e.ieq,e.bnot,AM];cbv;simp only[e.ieq,e.bnot,AM];cbv;refine a0v hS _ haw ?_;cbv;exact AA _
theorem k7g (c:CaR)(u:Int)(hu:0<=u/\u<=255)(hnl:c.nl<=4)(h0:c.nl≠0){r:PlR}{d:Nat}(hd:d<=4)(w:Nat->Int)(h48:a0j AB AF 48 [c.av] (bool AF))(h28:a0j AB AE 28 [c.av] (.tuple [isl c.nl w,int 0]))(h20:a0j AB AE 20 [c.av] (.tuple [r.av,int d,int 0]))
 (h23:a0j AB AF 23 [r.av] (bool AF)) (hw1: ∀i,i<c.nl-> -1<=w i) (h53: ∀i,i<c.nl->w i≠0->a0j AB AF 53 [r.av,int i,int 5] (bool AF))
 {k:Nat} (hk:k=u.toNat % c.nl) (h30:a0j AB AE 30 [c.av,int k] (c.wo k).av) {r':PlR} {d':Nat} {z:Bool} (h20':a0j AB AE 20 [(c.wo k).av] (.tuple [r'.av,int d',int (if z=AF then 0 else 7)])) (hd':d'<=4) (hwk:w k=if z=AF then (d':Int)-d else-1) (hwz:z=AF->d<=d'):
 a0j AB AF 12 [c.av,u8 u] (bool AF):=by
 have haw:=c4a;obtain⟨lk',nc,nn,C,D,h1,_⟩:=r.avX;rw[h1] at h20 h23;simp only[h1] at h53;clear h1;obtain⟨lk2,nc2,nn2,C2,D2,h1,_⟩:=r'.avX;rw[h1] at h20';clear h1;have hk0:k<c.nl:=by rw[hk];exact AX _ (by omega)
 obtain⟨ns,sz,no,od,nl',lk,⟨ins,isz,ino,iod,ine,ien,inn,ivar,ink,ikid,iroot⟩,⟨gns,gsz,gno,god,gne,gen,gnn,gvar,gnk,gkid,groot⟩⟩:=c;simp only[CaR.av,CaR.wo,DiR.cs,AH,AI] at*
 refine a1e (a0k AG okP k7s _ rfl fun E Sg hbs hS=> ?_);have e:=b2k hS;have g1:Sg.ieq (Sg.ofNat nl') (AC 0)=AE:=by rw[e.ofNat,e.ieq];exact beq_false_of_ne fun h=>h0 (Int.ofNat.inj h)
 have g2:Sg.ieq (Sg.ofNat nl') (Sg.ofNat nl')=AF:=by rw[e.ieq];exact beq_self_eq_true _
 have grem:Sg.irem (Sg.iwrap .i64 u) (Sg.ofNat nl')=AC k:=by rw[k7w hS hu,k7o hS hu.1,hk];rfl
 have gnz:Sg.nz (Sg.ofNat nl'):=k7t hS h0;clear hk;cbv;refine a0v hS _ h48 ?_;cbv;simp only[g1];cbv;refine a0v hS _ h28 ?_;cbv;refine a0v hS _ h20 ?_;cbv;simp only[e.ieq,e.bnot,AM];cbv;simp only[e.ieq,e.bnot,AM,g2];cbv;simp only[e.ieq,e.bnot,AM,g2];cbv;refine a0v hS _ h23 ?_;cbv;refine e4p AG okP hS (σ:=Nat×List Nat) (fun s=>s.1<=nl') (fun s=>nl'-s.1)
  (fun s=>⟨b5r [(1,u8 u),(2,.ptr 0 0),(5,isl nl' w),(7,.ptr 1 0),(8,int d),(10,int s.1)] 133,
    [.var [isl ns sz,isl no od,dsl nl' lk,isl ins isz,isl ino iod,vsl ine ien,bsl inn ivar ink ikid,int iroot,isl gns gsz,isl gno god,vsl gne gen,bsl gnn gvar gnk gkid,int groot],.var [int lk',.d (.sl 2 nc C),.d (.sl 3 nn D)]],s.2⟩) (0,[]) (AJ _) ?_ ?_
 ·exact b4w.le (a4c rfl ⟨AA _,AA _,AA _,AA _,AA _,a6c rfl,trivial⟩ (.cons (.refl _) (.cons (.refl _) (.nil _))) (by rw[hbs];exact AJ _) (.inl ⟨rfl,rfl⟩) (j7y _))
 rintro⟨i,mv⟩ hi N hN;simp only at hi;have en: ∀k:Nat,nat Sg (IX.v (AC k))=k:=fun k=>by show Sg.toNat (AC k)=k;rw[e.toNat];rfl
 cbv;split
 rotate_left
 ·cbv;refine a1g hS gnz ?_;simp only[grem];refine a0v hS _ h30 ?_;cbv;refine a0v hS _ h20' ?_;cases z
  ·have f1:Sg.ieq (w k) (AQ 0)=AF:=by rw[e.ieq,hwk];rfl
   cbv;refine a1g hS (a5p hS hk0) ?_;simp only[en,f1,e.ieq,AM];cbv;simp only[en,f1,e.ieq,AM];cbv;refine a0v hS _ haw ?_;cbv;exact AA _
  ·have hwk':w k=(d':Int)-d:=by rw[hwk];rfl
   have hdd:=hwz rfl;have f1:Sg.ieq (w k) (AQ 0)=AE:=by rw[e.ieq,hwk'];exact beq_false_of_ne (by omega)
   have f2:Sg.ile (AC 0) (w k)=AF:=by rw[e.ile,hwk'];exact decide_eq_true (by show (0:Int)<=_;omega)
   have f3:Sg.ieq (Sg.isub (AC d') (AC d)) (w k)=AF:=by rw[e.ieq,e.isub,hwk'];exact beq_self_eq_true _
   cbv;refine a1g hS (a5p hS hk0) ?_;simp only[en,f1];cbv;refine a1g hS (a5p hS hk0) ?_;simp only[en,f2];cbv;simp only[e.ieq,AM];cbv;refine a1g hS (a9o hS (by simp only[AD];omega)) ?_;refine a1g hS (a5p hS hk0) ?_;simp only[en,f3];cbv;refine a0v hS _ haw ?_;cbv;exact AA _
 rename_i h;have hil:i<nl':=d3r hS h;have f1:Sg.ilt (w i) (AQ 0)=AE:=by rw[e.ilt];exact decide_eq_false (by have:=hw1 i hil;show¬w i< -1;omega)
 by_cases hw0:w i=0
 ·have f2:Sg.ieq (w i) (AC 0)=AF:=by rw[e.ieq,hw0];rfl
  cbv;refine a1g hS (a5p hS hil) ?_;simp only[en,f1];cbv;refine a1g hS (a5p hS hil) ?_;simp only[en,f2,e.bnot];cbv;refine a1g hS (e1n hS (by omega)) ?_;exact hN (i+1,mv) _ hil (by simp only;omega) (b4w.le (a4c rfl ⟨AA _,AA _,AA _,AA _,AA _,b2s hS,trivial⟩ (.cons (.refl _) (.cons (.refl _) (.nil _))) (by rw[hbs];exact AJ _) (.inl ⟨rfl,rfl⟩) (j7y _)))
 ·have f2:Sg.ieq (w i) (AC 0)=AE:=by rw[e.ieq];exact beq_false_of_ne hw0
  have g5:=h53 i hil hw0;cbv;refine a1g hS (a5p hS hil) ?_;simp only[en,f1];cbv;refine a1g hS (a5p hS hil) ?_;simp only[en,f2,e.bnot];cbv;refine a0v hS _ g5 ?_;cbv;refine a1g hS (e1n hS (by omega)) ?_;exact hN (i+1,mv) _ hil (by simp only;omega) (b4w.le (a4c rfl ⟨AA _,AA _,AA _,AA _,AA _,b2s hS,trivial⟩ (.cons (.refl _) (.cons (.refl _) (.nil _))) (by rw[hbs];exact AJ _) (.inl ⟨rfl,rfl⟩) (j7y _)))
theorem k7m {c:CaR}(h:h6t c 0){i:Nat}(hi:i<c.nl):h6t (c.wo i) 0:=by
 rcases h with⟨h1,h2⟩|⟨h1,⟨_,h2⟩|⟨h2,h3⟩⟩
 ·exact absurd h2.symm h1
 ·cases h2
 ·rcases h3 with⟨j,a,b,d,e⟩|⟨a,⟨b,_⟩|⟨_,b⟩⟩
  ·exact absurd e.symm d
  ·refine .inr ⟨h1,.inr ⟨by show c.nl-1<=4;omega,.inr ⟨fun j hj=> ?_,.inl ⟨fun j hj=> ?_,rfl⟩⟩⟩⟩
   ·show h5o ((c.wo i).dg j)=0;rw[c.wo_dg hi];exact a _ (k4y hj hi)
   ·unfold CaR.same;rw[c.wo_dg hi];exact b _ (k4y hj hi)
  ·cases b
theorem k7i (c:CaR)(hw:c.wf)(u:Int)(hu:0<=u/\u<=255):a0j AB AF 12 [c.av,u8 u] (bool AF):=by
 classical
 by_cases ht:h6v c
 rotate_left
 ·exact k7d c u (k6u c (i3u c AE (by simp[ht])))
 have h18:=i3u c AF (by simp[ht]);have hf:=ht.fit hw;have hl: ∀i,i<c.nl->(c.lk i).fit:=fun i hi=>by have:=hf.dg i (by omega);rwa [c.dg_lk hi] at this
 have hi:c.inn.fit:=by have:=hf.dg c.nl (by omega);rwa [c.dg_in] at this
 have hg:c.goal.fit:=by have:=hf.dg (c.nl+1) (by omega);rwa [c.dg_goal] at this
 obtain⟨er,hE⟩:=i3o c;by_cases h0:er=0
 rotate_left
 ·exact k7d c u (k6t c h18 (i3r c (i2f c hf er hE) h0) (z:=AE) (beq_false_of_ne h0).symm)
 subst h0;obtain⟨T,h⟩:=CaR.ok_of hf hE;have hT:=h.T36 ht;obtain⟨a1,a2⟩:=i3p c (h.c42 hE) (h.places hT);rcases Nat.eq_zero_or_pos (c.P T).length with hpos|hpos
 ·exact k7d c u (k6t c h18 (a1 hpos) (z:=AE) rfl)
 have h21:=a2 hpos;have h108:=(i3a c.inn c.goal (h.read hE hT)).2 hpos;have h48:=k6t c h18 h21 (z:=AF) rfl;by_cases hn0:c.nl=0
 ·exact k7f c u hn0 h48
 have hlen:(c.P T).length<=T:=h8g _ T;have hne:c.P T≠[]:=List.length_pos_iff.1 hpos;have hmem: ∀p,p∈c.P T->p<T:=fun p hp=>((i0h _ T _).1 hp).1;have hcell: ∀i,i<c.nl-> ∀p,p∈c.P T->a1i (c.X i p)/\0<=(c.X i p).fault:=fun i hi p hp=>h.cell (by omega) (hmem p hp);have h110: ∀(a:Nat->Bool),(∀j,c.nl<=j->a j=AE)-> ∀z d r,(c.Kp a).res (c.P T) z d r->a0j AB AE 110 [.dptr (i0q c.ns c.sz c.no c.od c.nl (c.P T).length (fun j=>(c.W T j:Int)) c.X c.G) 0,.d (.sl 9 (c.P T).length fun j=>spR c.F c.G ((c.P T).getD j 0)),.agg [bool (a 0),bool (a 1),bool (a 2),bool (a 3)]] (.tuple [r.av,int d,bool z]):=fun a ha z d r hr=>by
  exact k3t h.nl (.sl 1 c.ns fun i=>[.int .i64 (.v (c.sz i))]) (.sl 1 c.no fun i=>[.int .i64 (.v (c.od i))]) [.sl 1 (c.P T).length fun j=>[.int .i64 (.v (c.W T j:Int))],.sl 9 (c.P T).length fun j=>spR c.F c.G ((c.P T).getD j 0)] c.F c.G _ a (c.P T) rfl ha hne (by omega) (fun i hi q hq=>by
   show a1i (cel c.nl c.X i q)/\0<=(cel c.nl c.X i q).fault;unfold cel;rw[if_pos hi];exact hcell i hi q hq) z d r hr
 obtain⟨z,d,r,hb⟩:=h.bst hT hpos h108;have hz:=hb.res;have hle:=hb.le;have h20:=k3m c hf.ns hf.no hf.nl hl hi hg hb.h73;have h109:=k3x _ _ _ _ _ _ (h110 _ (fun _ _=>rfl) _ _ _ ((c.K_same _).res.1 hz));cases z with
 |false=>obtain⟨h1,h2,_⟩:=hz.2 rfl;subst h1 h2;exact k7h c u hn0 h48 (k5a c hf.ns hf.no hf.nl hl hi hg (k5i _ _ h108 h109)) h20
 |true=>
  obtain⟨h1,h2⟩:=hz.1 rfl;obtain⟨tt,htt⟩:=Classical.axiomOfChoice (fun i=>(show∃t:Bool×Nat×PlR,(c.wo i).K.res ((c.wo i).P T) t.1 t.2.1 t.2.2 from by
   obtain⟨z,d,r,h⟩:=PbR.res_ex (c.wo i).K ((c.wo i).P T);exact⟨(z,d,r),h⟩))
  have hd4: ∀i,i<c.nl->(tt i).2.1<=4:=fun i hi=>Nat.le_trans (PbR.res_le (htt i)) (h.wo hi).nl;have hdel: ∀i,i<c.nl-> ∃r',(c.K.wo i).res (c.P T) (tt i).1 (tt i).2.1 r':=fun i hi=>by have h3:=htt i;rw[c.wo_K hi,c.wo_P hi] at h3;exact PbR.del_res (K:=c.K) hi h3
  have h28:=k5a c hf.ns hf.no hf.nl hl hi hg (k5j _ _ h.nl hle h108 h109 (fun i=>if (tt i).1=AF then ((tt i).2.1:Int)-d else-1) fun i hi=>by
   obtain⟨r',h4⟩:=hdel i hi;exact⟨_,_,r',hd4 i hi,h110 (fun j=>decide (j=i)) (fun j hj=>decide_eq_false (by omega)) _ _ _ ((c.K_wo_same i _).res.1 h4),rfl⟩)
  have hwo: ∀i,i<c.nl->((tt i).1=AF->d<=(tt i).2.1)/\(PlR.asks i 5 r=AE->(tt i).1=AF/\(tt i).2.1=d):=fun i hi=>by obtain⟨r',h4⟩:=hdel i hi;rw[h2];exact PbR.wo_worth h1 (by omega) h4
  obtain⟨k,hk⟩: ∃k,k=u.toNat % c.nl:=⟨_,rfl⟩;have hk0:k<c.nl:=by rw[hk];exact AX _ (by omega)
  have hwk:=h.wo hk0;have hPk:=c.wo_P hk0 T;have hEk:h6t (c.wo k) 0:=k7m hE hk0;have h131:=hwk.read hEk hT;obtain⟨o1,o2⟩:=i3a (c.wo k).inn (c.wo k).goal h131;have h108k:=o2 (by rw[hPk];exact hpos);obtain⟨z',d',r',hb'⟩:=hwk.bst hT (by rw[hPk];exact hpos) h108k;obtain⟨e1,e2,e3⟩:=PbR.res_uniq hb'.res (htt k);have hl': ∀i,i<(c.wo k).nl->((c.wo k).lk i).fit:=fun i hi=>by have:=hwk.fit.dg i (by omega);rwa [(c.wo k).dg_lk hi] at this
  have h20':=k3m (c.wo k) hwk.fit.ns hwk.fit.no hwk.fit.nl hl' hi hg hb'.h73;refine k7g c u hu h.nl hn0 hle _ h48 h28 h20 (e4c r hb.ok AF ⟨fun _=>hb.thin hT,fun _=>rfl⟩) (fun i hi=> ?_) (fun i hi hne0=> ?_) hk (k5g c hf.nl hk0) h20' hb'.le ?_ (fun e=> ?_)
  ·cases ez:(tt i).1 with
   |false=>simp
   |true=>have:=(hwo i hi).1 ez;simp only[if_pos];omega
  ·have ha:PlR.asks i 5 r=AF:=by
    cases ea:PlR.asks i 5 r with
    |true=>rfl
    |false=>obtain⟨q1,q2⟩:=(hwo i hi).2 ea;exact absurd (by rw[q1,q2,if_pos rfl];omega) hne0
   have:=k7p i 5 (by omega) r hb.ok
   rwa [ha] at this
  ·rw[e1,e2]
  ·rw[e2];exact (hwo k hk0).1 (by rw[<-e1];exact e)
end Go.Proofs.Tryz.Run
