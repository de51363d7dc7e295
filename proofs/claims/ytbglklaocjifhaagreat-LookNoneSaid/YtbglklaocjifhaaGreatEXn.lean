/- The reference's Decided, Within and Best. The reference's Within. Cells alike; plans alike; a plan with nothing in it. Conditions: none. -/
import Derived.Test.YtbglklaocjifhaaGreatEXc
open Go.Vf.a0x renaming refl->AA,any->AJ,nil0->AM,sl'->AR
open Go.Proofs.Tryz renaming prog->AB
open Go.Proofs.YtbglklaocjifhaaGreat.Tryz renaming mixed->AC
open List renaming getD_eq_getElem?_getD->AD,getElem?_eq_getElem->AE,getElem_of_mem->AL
open Int renaming ofNat->AF,ofNat_lt->AO,ofNat_le->AP
open Nat renaming not_lt_zero->AG,le_refl->AQ
open Bool renaming false->AH,true->AK
open Go.Vf.a3x renaming tuple->AI,agg->AN
set_option linter.unusedSimpArgs false
set_option linter.unusedVariables false
set_option maxHeartbeats 0
set_option maxRecDepth 100000
namespace Go.Proofs.Tryz.Run
open Go Go.Vf Go.Proofs
open Go.Proofs.YtbglklaocjifhaaGreat
def pll (l:List Nat):AV:=isl l.length fun j=>((l.getD j 0:Nat):Int)
theorem j9r {l:List Nat}{j:Nat}(h:j<l.length):l.getD j 0∈l:=by rw[AD,AE h];exact List.getElem_mem h
theorem k1q {G:Nat->Bool}{l:List Nat}:k1e G l↔ ∀j,j<l.length->G (l.getD j 0)=G (l.getD 0 0):=by
 constructor
 ·intro h j hj;exact h _ (j9r hj) _ (j9r (by omega))
 ·intro h p hp q hq;obtain⟨i,hi,e1⟩:=AL hp;obtain⟨j,hj,e2⟩:=AL hq;have h1:=h i hi;have h2:=h j hj;rw[AD,AE hi] at h1;rw[AD,AE hj] at h2;simp only[Option.getD_some] at h1 h2;rw[<-e1,<-e2,h1,h2]
theorem k2k {nl T:Nat}(hT:T<=1000000){X:Nat->Nat->VaR}{G:Nat->Bool}{l:List Nat}(hl:l.length<=1000000)(hW: ∀p,p∈l->p<T){r:Bool}(hr:r=AK↔k1e G l):
 a0j AB AK 60 [.agg (knC nl T X G),pll l] (bool r):=by
 rw[k1q] at hr;have hW2: ∀j,j<l.length->l.getD j 0<T:=fun j hj=>hW _ (j9r hj);unfold pll;obtain⟨W,hWe⟩: ∃W:Nat->Nat,∀j,l.getD j 0=W j:=⟨_,fun _=>rfl⟩;obtain⟨n,hn⟩: ∃n,l.length=n:=⟨_,rfl⟩;simp only[hWe,hn] at*
 unfold knC;refine a1e (a0k AC okP k4r _ rfl fun E Sg hbs hS=> ?_);have e:=b2k hS;have en: ∀k:Nat,nat Sg (IX.v (AF k))=k:=fun k=>by show Sg.toNat (AF k)=k;rw[e.toNat];rfl
 cbv;refine a7r AC okP hS (fun i=>i<=n/\ ∀j,j<i->G (W j)=G (W 0)) (fun i=>n-i)
  (fun i=>⟨b5r [(1,isl n fun j=>(W j:Int)),(2,.ptr 0 0),(5,int i)] 28,[.var [.d (.sl 1 nl fun i=>[.sl 2 T fun p=>(X i p).row]),.d (.sl 1 T fun p=>[.bool (G p)])]],[]⟩) 0 ⟨by omega,by omega⟩ ?_ ?_
 ·exact a4c rfl ⟨AA _,AA _,a6c rfl,trivial⟩ (.same _) (by simp;omega) (.inr rfl) rfl
 ·intro i hi N hN;cbv;split
  ·rename_i h;have hlt:i<n:=d3r hS h;have wi:=hW2 i hlt;have w0:=hW2 0 (by omega);cbv;have en0:nat Sg (IX.l (AF 0))=0:=rfl;simp only[en,en0];refine a1g hS (a5p hS hlt) (a1g hS (a5p hS (show 0<n by omega)) (a1g hS (a5p hS wi) (a1g hS (a5p hS w0) ?_)));simp only[e.bnot,e.beq];obtain⟨q,hq⟩: ∃q,(!(G (W i)==G (W 0)))=q:=⟨_,rfl⟩;rw[hq];cases q
   ·cbv;refine a1g hS (e1n hS (by omega)) ?_;refine hN (i+1) _ ⟨hlt,fun j hj=> ?_⟩ (by omega) (a4c rfl ⟨AA _,AA _,b2s hS,trivial⟩ (.same _) (by simp;omega) (.inr rfl) rfl);by_cases ej:j=i
    ·subst ej;simpa using hq
    ·exact hi.2 j (by omega)
   ·cbv;refine e8z hr fun hall=> ?_;rw[hall i hlt] at hq;simp at hq
  ·rename_i h;have hin:n<=i:=d3c hS h;cbv;exact h8e hr fun j hj=>hi.2 j (by omega)
theorem PlR.avX (r:PlR): ∃(lk:Int) (nc nn:Nat) (C D:Nat->List DV),r.av= .agg [int lk,.d (.sl 2 nc C),.d (.sl 3 nn D)]/\r.row=[.int .i64 (.v lk),.sl 2 nc C,.sl 3 nn D]:=⟨_,_,_,_,_,PlR.avE r,PlR.rowE r⟩
def PbR.wi (K:PbR)(l:List Nat)(d:Nat)(z:Bool)(r:PlR):Prop:=(z=AK->K.can d l/\r=K.bt d l)/\(z=AH-> ¬K.can d l/\r= .none)
theorem PbR.wi_ex (K:PbR)(l:List Nat)(d:Nat): ∃z r,K.wi l d z r:=by
 by_cases h:K.can d l
 ·exact⟨AK,K.bt d l,⟨fun _=>⟨h,rfl⟩,fun h=>(by cases h)⟩⟩
 ·exact⟨AH,.none,⟨fun h=>(by cases h),fun _=>⟨h,rfl⟩⟩⟩
theorem PlR.none_av:PlR.none.av= .agg [int 0,.d (.sl 2 0 fun _=>(VaR.mk 0 0).row),.d (.sl 3 0 fun _=>d4k)]:=rfl
theorem j8x:a0x (.agg [.d (.int .i64 (.l (.ofNat 0))),.d .nil,.d .nil]) PlR.none.av:=AN (.cons (a6c rfl) (.cons AM (.cons AM .nil)))
theorem k4b {nl T:Nat}{X:Nat->Nat->VaR}{G:Nat->Bool}{l:List Nat}{K:PbR}{most:Nat}(hm:most<=4)
 (hw: ∀d,d<=most->(∀m,m<d-> ¬K.can m l)-> ∀z r,K.wi l d z r->a0j AB AH 76 [.agg (knC nl T X G),pll l,int d] (.tuple [r.av,bool z])) (z:Bool) (r:PlR) (hz:K.wi l most z r):
 a0j AB AH 22 [.agg (knC nl T X G),pll l,int most] (.tuple [r.av,bool z]):=by
 unfold pll at*
 obtain⟨W,hWe⟩: ∃W:Nat->Nat,∀j,l.getD j 0=W j:=⟨_,fun _=>rfl⟩;obtain⟨n,hn⟩: ∃n,l.length=n:=⟨_,rfl⟩;simp only[hWe,hn] at*
 unfold knC at*
 have hwe:=fun d=>PbR.wi_ex K l d;obtain⟨RA,hRA⟩: ∃x,r.av=x:=⟨_,rfl⟩;rw[hRA];refine a0k AC okP k4u _ rfl fun E Sg hbs hS=> ?_;have e:=b2k hS;cbv;refine a7r AC okP hS (fun d=>d<=most+1/\ ∀m,m<d-> ¬K.can m l) (fun d=>most+1-d)
  (fun d=>⟨b5r [(1,isl n fun j=>(W j:Int)),(2,int most),(3,.ptr 0 0),(6,.ptr 1 0),(8,int d)] 26,[.var [.d (.sl 1 nl fun i=>[.sl 2 T fun p=>(X i p).row]),.d (.sl 1 T fun p=>[.bool (G p)])],.var [.any,.any,.any]],[]⟩) 0 ⟨by omega,fun m hm=>absurd hm (AG m)⟩ ?_ ?_
 ·exact a4c rfl ⟨AA _,AA _,AA _,AA _,a6c rfl,trivial⟩ (.cons (.refl _) (.cons (.var (.cons (AJ _) (.cons (AJ _) (.cons (AJ _) .nil)))) (.nil _))) (by simp;omega) (.inr rfl) rfl
 ·intro d hd N hN;cbv;split
  ·rename_i h;have hle:d<=most:=AP.1 (e3n hS h);obtain⟨zd,rd,hzr⟩:=hwe d;have h76:=hw d hle hd.2 zd rd hzr;obtain⟨lk,nc,nn,C,D,hav,_⟩:=rd.avX;rw[hav] at h76;cbv;refine a0v hS _ h76 ?_;cases zd
   ·cbv;refine a1g hS (e1n hS (by omega)) ?_;refine hN (d+1) _ ⟨by omega,fun m hm hc=> ?_⟩ (by omega) (a4c rfl ⟨AA _,AA _,AA _,AA _,b2s hS,trivial⟩ (.cons (.refl _) (.cons (.refl _) (.nil _))) (by simp;omega) (.inl ⟨rfl,rfl⟩) rfl);by_cases em:m=d
    ·subst em;exact (hzr.2 rfl).1 hc
    ·exact hd.2 m (by omega) hc
   ·have hrd:z=AK/\r=rd:=by
     obtain⟨g1,g2⟩:=hzr.1 rfl;cases z with
     |true=>obtain⟨_,g3⟩:=hz.1 rfl;exact⟨rfl,by rw[g3,g2,PbR.bt_le g1 hle]⟩
     |false=>exact absurd (PbR.can_le g1 hle) (hz.2 rfl).1
    have hRA2:RA= .agg [int lk,.d (.sl 2 nc C),.d (.sl 3 nn D)]:=by rw[<-hRA,hrd.2,hav]
    have hz1:=hrd.1;cbv;subst hRA2 hz1;exact AA _
  ·rename_i h;have hgt:most<d:=AO.1 (e3g hS h);have hrd:z=AH/\r= .none:=by
    cases z with
    |true=>exact absurd (hz.1 rfl).1 (hd.2 most hgt)
    |false=>exact⟨rfl,(hz.2 rfl).2⟩
   have hRA2:RA=PlR.none.av:=by rw[<-hRA,hrd.2]
   have hz1:=hrd.1;cbv;rw[hRA2,hz1];exact AI (.cons j8x (.cons (AA _) .nil))
def prt (K:PbR)(i:Nat)(l:List Nat):AV:= .d (.sl 1 (cellsOf (K.X i) l).length fun j=>[.sl 1 (K.pt i l j).length fun t=>[.int .i64 (.v (((K.pt i l j).getD t 0:Nat):Int))]])
structure W1 where
 j:Nat
 c:Nat
 e:Nat->List DV
theorem k2l {nl T:Nat}{X:Nat->Nat->VaR}{G:Nat->Bool}{l:List Nat}{K:PbR}(hK:K.nl=nl)(hKA: ∀i,i<nl->K.A i=AK)(hnl:nl<=4)(hl:l≠[])(hll:l.length<=1000000){d:Nat}(hd:d<=4)
 (hnot: ∀m,m<d-> ¬K.can m l) {dd:Bool} (hdd:dd=AK↔k1e K.G l) (h60:a0j AB AK 60 [.agg (knC nl T X G),pll l] (bool dd))
 (h61: ∀i,i<nl->a0j AB AH 61 [.agg (knC nl T X G),pll l,int i] (.tuple [vsl (cellsOf (K.X i) l).length fun j=>(cellsOf (K.X i) l).getD j ⟨0,0⟩,prt K i l]))
 (h22: ∀i,i<nl-> ∀j,j<(cellsOf (K.X i) l).length->0<d-> ∀z r,K.wi (K.pt i l j) (d-1) z r->a0j AB AH 22 [.agg (knC nl T X G),pll (K.pt i l j),int ((d:Int)-1)] (.tuple [r.av,bool z]))
 (z:Bool) (r:PlR) (hz:K.wi l d z r):a0j AB AH 76 [.agg (knC nl T X G),pll l,int d] (.tuple [r.av,bool z]):=by
 have hcl: ∀i,(cellsOf (K.X i) l).length<=1000000:=fun i=>Nat.le_trans (j9v _ _) hll;unfold pll prt at*
 obtain⟨W,hWe⟩: ∃W:Nat->Nat,∀j,l.getD j 0=W j:=⟨_,fun _=>rfl⟩;obtain⟨n,hn⟩: ∃n,l.length=n:=⟨_,rfl⟩;obtain⟨NN,hNN⟩: ∃f:Nat->Nat,∀i,(cellsOf (K.X i) l).length=f i:=⟨_,fun _=>rfl⟩;obtain⟨CE,hCE⟩: ∃f:Nat->Nat->List DV,∀i j,((cellsOf (K.X i) l).getD j ⟨0,0⟩).row=f i j:=⟨fun i j=>_,fun _ _=>rfl⟩;obtain⟨PN,hPN⟩: ∃f:Nat->Nat->Nat,∀i j,(K.pt i l j).length=f i j:=⟨fun i j=>_,fun _ _=>rfl⟩;obtain⟨PE,hPE⟩: ∃f:Nat->Nat->Nat->Nat,∀i j t,(K.pt i l j).getD t 0=f i j t:=⟨fun i j t=>_,fun _ _ _=>rfl⟩;simp only[hWe,hn,vsl,hNN,hCE,hPN,hPE] at h60 h61 h22 hcl⊢;obtain⟨kn,hkn⟩: ∃k,knC nl T X G=k:=⟨_,rfl⟩;have hkn2: ∃x0 x1,kn=[.d (.sl 1 nl x0),.d (.sl 1 T x1)]:=⟨_,_,hkn.symm⟩;rw[hkn] at h60 h61 h22⊢;obtain⟨x0,x1,rfl⟩:=hkn2;clear hkn;obtain⟨RA,hRA⟩: ∃x,r.av=x:=⟨_,rfl⟩;rw[hRA];refine a0k AC okP k4s _ rfl fun E Sg hbs hS=> ?_;have e:=b2k hS;have en: ∀k:Nat,nat Sg (IX.v (AF k))=k:=fun k=>by show Sg.toNat (AF k)=k;rw[e.toNat];rfl
 cbv;refine a0v hS _ h60 ?_;cases dd
 rotate_left
 ·have h0:k1e K.G l:=hdd.1 rfl;have hd0:d=0:=Nat.eq_zero_of_not_pos fun h=>hnot 0 h h0;subst hd0;have hr:z=AK/\r=k0p:=by
   cases z with
   |true=>exact⟨rfl,(hz.1 rfl).2⟩
   |false=>exact absurd h0 (hz.2 rfl).1
  have hRA2:RA=k0p.av:=by rw[<-hRA,hr.2]
  have hz1:=hr.1;cbv;rw[hRA2,hz1];exact AI (.cons (AN (.cons (a6c rfl) (.cons AM (.cons AM .nil)))) (.cons (AA _) .nil))
 have hnd: ¬k1e K.G l:=fun h=>by have:=hdd.2 h;cases this
 cbv;refine e4p AC okP hS (fun i=>i<=nl/\ ∀a,a<i->0<d-> ¬K.sp (d-1) l a) (fun i=>nl-i)
  (fun i=>⟨b5r [(1,isl n fun j=>(W j:Int)),(2,int d),(3,.ptr 0 0),(6,.ptr 1 0),(8,int i)] 72,[.var [.d (.sl 1 nl x0),.d (.sl 1 T x1)],.var [.any,.any,.any]],[3]⟩) 0 ⟨by omega,fun a ha=>absurd ha (AG a)⟩ ?_ ?_
 ·exact b4w.le (a4c rfl ⟨AA _,AA _,AA _,AA _,a6c rfl,trivial⟩ (.cons (.refl _) (.cons (.var (.cons (AJ _) (.cons (AJ _) (.cons (AJ _) .nil)))) (.nil _))) (by simp;omega) (.inr rfl) rfl)
 intro i ⟨hi,hsp⟩ N hN;have hfin:(i=nl\/d=0)->z=AH/\r= .none:=fun h=>by
  cases z with
  |false=>exact⟨rfl,(hz.2 rfl).2⟩
  |true=>
   exfalso;have hc:=(hz.1 rfl).1;rcases Nat.eq_zero_or_pos d with h0|h0
   ·subst h0;exact hnd hc
   ·obtain⟨m,rfl⟩: ∃m,d=m+1:=⟨d-1,by omega⟩;rcases hc with hc|⟨a,h1,h2,h3⟩
    ·exact hnd hc
    ·rcases h with h|h
     ·exact hsp a (by omega) h0 ⟨h2,h3⟩
     ·omega
 cbv;split
 rotate_left
 ·rename_i h;have hin:i=nl:=by have:=d3c hS h;omega
  obtain⟨hz1,hr1⟩:=hfin (.inl hin);have hRA2:RA=PlR.none.av:=by rw[<-hRA,hr1]
  cbv;rw[hRA2,hz1];exact AI (.cons j8x (.cons (AA _) .nil))
 rename_i h;have hil:i<nl:=d3r hS h;cbv;split
 rotate_left
 ·rename_i h;have hd0:d=0:=by have:=AP.1 (b3r hS h);omega
  obtain⟨hz1,hr1⟩:=hfin (.inr hd0);have hRA2:RA=PlR.none.av:=by rw[<-hRA,hr1]
  cbv;rw[hRA2,hz1];exact AI (.cons j8x (.cons (AA _) .nil))
 rename_i h;have hd0:0<d:=AO.1 (b3h hS h);have hq61:=h61 i hil;have hwe: ∀j,∃p:Bool×PlR,K.wi (K.pt i l j) (d-1) p.1 p.2:=fun j=>by obtain⟨z,r,h⟩:=PbR.wi_ex K (K.pt i l j) (d-1);exact⟨(z,r),h⟩
 obtain⟨f,hf⟩:=Classical.axiomOfChoice hwe;obtain⟨zf,hzf⟩: ∃g:Nat->Bool,∀j,(f j).1=g j:=⟨_,fun _=>rfl⟩;obtain⟨rf,hrf⟩: ∃g:Nat->PlR,∀j,(f j).2=g j:=⟨_,fun _=>rfl⟩;simp only[hzf,hrf] at hf;have hq22:=fun j (hj:j<NN i)=>h22 i hil j hj hd0 (zf j) (rf j) (hf j);obtain⟨lk,h1⟩: ∃g:Nat->Int,∀j,(rf j).look=g j:=⟨_,fun _=>rfl⟩;obtain⟨nc,h2⟩: ∃g:Nat->Nat,∀j,(rf j).nc=g j:=⟨_,fun _=>rfl⟩;obtain⟨nn,h3⟩: ∃g:Nat->Nat,∀j,(rf j).nn=g j:=⟨_,fun _=>rfl⟩;obtain⟨C,h4⟩: ∃g:Nat->Nat->List DV,∀j,(fun t=>((rf j).c t).row)=g j:=⟨fun j=>_,fun _=>rfl⟩;obtain⟨D,h5⟩: ∃g:Nat->Nat->List DV,∀j,(fun t=>if t<(rf j).nn then ((rf j).nx t).row else d4k)=g j:=⟨fun j=>_,fun _=>rfl⟩;have hrow: ∀j,(rf j).row=[.int .i64 (.v (lk j)),.sl 2 (nc j) (C j),.sl 3 (nn j) (D j)]:=fun j=>by rw[PlR.rowE,h1,h2,h3,h4,<-h3,h5]
 simp only[PlR.avE,h1,h2,h3,h4] at hq22;simp only[<-h3,h5] at hq22;simp only[h3] at hq22;clear h1 h2 h3 h4 h5 h22 h61 h60;obtain⟨N0,hN0⟩: ∃z,NN i=z:=⟨_,rfl⟩;obtain⟨C0,hC0⟩: ∃z,CE i=z:=⟨_,rfl⟩;have hN6:N0<=1000000:=by rw[<-hN0];exact hcl i
 rw[hN0] at hq61 hq22;cbv;refine a0v hS _ hq61 ?_;cbv;refine e4p AC okP hS (σ:=W1) (fun s=>s.j<=N0/\s.c<=s.j/\((∀t,t<s.j->zf t=AK)->s.c=s.j/\ ∀t,t<s.j->s.e t=(rf t).row)/\(¬(∀t,t<s.j->zf t=AK)->s.c<s.j)) (fun s=>N0-s.j)
  (fun s=>⟨b5r [(1,isl n fun j=>(W j:Int)),(2,int d),(3,.ptr 0 0),(6,.ptr 1 0),(8,int i),(9,.d (.sl 2 N0 (CE i))),(10,.d (.sl 1 N0 fun j=>[.sl 1 (PN i j) fun t=>[.int .i64 (.v (PE i j t))]])),(11,.ptr 2 0),(12,int s.j)] 72,[.var [.d (.sl 1 nl x0),.d (.sl 1 T x1)],.var [.any,.any,.any],.var [int i,.d (.sl 2 N0 (CE i)),.msl 3 3 none s.c AH],.arr 3 s.c s.e],[3]⟩) ⟨0,0,fun _=>[]⟩ ⟨Nat.zero_le _,AQ _,fun _=>⟨rfl,fun t ht=>absurd ht (AG t)⟩,fun h=>absurd (fun t ht=>absurd ht (AG t)) h⟩ ?_ ?_
 ·refine (b4w.gh 2 2 3 (fun _=>[]) rfl rfl).trans (b4w.le ?_);exact a4c rfl ⟨AA _,AA _,AA _,AA _,AA _,AA _,AA _,AA _,a6c rfl,trivial⟩ (.same _) (by simp;omega) (.inr rfl) (j7y _)
 rintro⟨j,c,ee⟩ ⟨hj,hc,hall,hnall⟩ N2 hN2;simp only at hj hc hall hnall;cbv;split
 ·rename_i h;have hjl:j<N0:=d3r hS h;have h22j:=hq22 j hjl;have g4:a0j AB AH 22 [.agg [.d (.sl 1 nl x0),.d (.sl 1 T x1)],isl (PN i j) fun t=>(PE i j t:Int),int (Sg.isub (AF d) (AF 1))] (.tuple [.agg [int (lk j),.d (.sl 2 (nc j) (C j)),.d (.sl 3 (nn j) (D j))],bool (zf j)]):=by rw[e.isub];exact h22j
  obtain⟨q,hq⟩: ∃q,zf j=q:=⟨_,rfl⟩;rw[hq] at g4;cbv;simp only[en];refine a1g hS (a5p hS hjl) ?_;refine a1g hS (a9o hS (by simp only[Int.ofNat_eq_natCast];omega)) ?_;refine a0v hS _ g4 ?_;cases q
  ·cbv;refine a1g hS (e1n hS (by omega)) ?_;refine hN2 ⟨j+1,c,ee⟩ _ ⟨hjl,by simp only;omega,fun h=>absurd (h j (Nat.lt_succ_self j)) (by rw[hq];decide),fun _=>by simp only;omega⟩ (by simp only;omega) (b4w.le (a4c rfl ⟨AA _,AA _,AA _,AA _,AA _,AA _,AA _,AA _,b2s hS,trivial⟩ (.cons (.refl _) (.cons (.refl _) (.cons (.refl _) (.cons (.refl _) (.nil _))))) (by simp;omega) (.inl ⟨rfl,rfl⟩) (j7y _)))
  ·cbv;refine a1g hS trivial (a1g hS (f1i hS (by omega)) ?_);refine a1g hS (e1n hS (by omega)) ?_;refine hN2 ⟨j+1,c+1,fun t=>if t<c then ee t else (rf j).row⟩ _ ⟨hjl,by simp only;omega,fun h=> ?_,fun h=> ?_⟩ (by simp only;omega) (b4w.le (a4c rfl ⟨AA _,AA _,AA _,AA _,AA _,AA _,AA _,AA _,b2s hS,trivial⟩ (.cons (.refl _) (.cons (.refl _) (.cons (.var (.cons (AA _) (.cons (AA _) (.cons (d8n hS) .nil)))) (.cons (d7h hS (fun t ht=> ?_) ?_) (.nil _))))) (by simp;omega) (.inl ⟨rfl,rfl⟩) (j7y _)))
   ·obtain⟨g1,g2⟩:=hall fun t ht=>h t (by simp only;omega);refine⟨by simp only;omega,fun t ht=> ?_⟩;simp only at ht⊢;by_cases et:t=j
    ·subst et;rw[if_neg (by omega)]
    ·rw[if_pos (by omega)];exact g2 t (by omega)
   ·have: ¬ ∀t,t<j->zf t=AK:=fun h'=>h fun t ht=>by
     by_cases et:t=j
     ·rw[et];exact hq
     ·exact h' t (by simp only at ht;omega)
    have:=hnall this;simp only;omega
   ·simp only[if_pos ht];exact RL.refl _
   ·simp only[if_neg (Nat.lt_irrefl c)];rw[hrow];exact RL.refl _
 ·rename_i h;have hjn:j=N0:=by have:=d3c hS h;omega
  subst hjn;by_cases ha: ∀t,t<j->zf t=AK
  ·obtain⟨g1,g2⟩:=hall ha;subst g1;have hb:Sg.ieq (Sg.ofNat c) (Sg.ofNat c)=AK:=by rw[e.ieq];simp
   cbv;simp only[hb];cbv;have hs:K.sp (d-1) l i:=⟨hKA i hil,fun v hv=>by
    obtain⟨t,ht,rfl⟩:=k1f hv;exact ((hf t).1 (ha t (by rw[hNN,hN0] at ht;exact ht))).1⟩
   obtain⟨m,rfl⟩: ∃m,d=m+1:=⟨d-1,by omega⟩;simp only[Nat.add_sub_cancel] at hs hsp hf;have hm:K.mind (m+1) l:=⟨.inr ⟨i,by omega,hs.1,hs.2⟩,hnot⟩;obtain⟨f1,f2,f3⟩:=hm.fst;have hfi:j9f (K.sp m l) K.nl=i:=k1g (by omega) hs fun a ha=>hsp a ha (by omega);rw[hfi] at f3;have hr:z=AK/\r=K.bt (m+1) l:=by
    cases z with
    |true=>exact⟨rfl,(hz.1 rfl).2⟩
    |false=>exact absurd hm.1 (hz.2 rfl).1
   rw[<-hRA,hr.1,hr.2,f3];refine a1g hS (e8l hS (AQ _)) ?_;refine AI (.cons ?_ (.cons (AA _) .nil));rw[PlR.avE];simp only[j8y,PlR.look,PlR.nc,PlR.nn,PlR.c,PlR.nx];refine AN (.cons (AA _) (.cons ?_ (.cons ?_ .nil)))
   ·rw[hNN,hN0];exact AR rfl fun t ht=>(hCE i t).symm
   ·rw[hNN,hN0];refine AR rfl fun t ht=> ?_;rw[if_pos ht,if_pos ht,g2 t ht,((hf t).1 (ha t ht)).2]
  ·have g1:=hnall ha;have hb:Sg.ieq (Sg.ofNat c) (Sg.ofNat j)=AH:=by rw[e.ieq,e.ofNat,e.ofNat];exact beq_false_of_ne (by omega)
   cbv;simp only[hb];cbv;refine a1g hS (e1n hS (by omega)) ?_;refine hN (i+1) _ ⟨hil,fun a ha2 h0=> ?_⟩ (by omega) (b4w.le (a4c rfl ⟨AA _,AA _,AA _,AA _,b2s hS,trivial⟩ (.cons (.refl _) (.cons (.refl _) (.nil _))) (by simp;omega) (.inl ⟨rfl,rfl⟩) (j7y _)));by_cases ea:a=i
   ·subst ea;intro hs;refine ha fun t ht=> ?_;cases hzt:zf t with
    |true=>rfl
    |false=>exact absurd (PbR.pt_can hs (by rw[hNN,hN0];exact ht)) ((hf t).2 hzt).1
   ·exact hsp a (by omega) h0
end Go.Proofs.Tryz.Run
