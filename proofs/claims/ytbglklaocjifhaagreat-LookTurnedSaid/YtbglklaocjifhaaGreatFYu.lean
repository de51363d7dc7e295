/- Parts of the proof. Conditions: none. -/
import Derived.Test.YtbglklaocjifhaaGreatFXo
open Go.Vf.a0x renaming refl->AA,sl'->AO,nil0->Aa
open Nat renaming not_lt_zero->AB,zero_le->AE,le_trans->AF,le_refl->AU
open Bool renaming false->AC,true->AJ
open Go.Proofs.Tryz renaming prog->AD
open Int renaming ofNat->AG,ofNat_eq_natCast->AQ,ofNat_lt->AT
open Go.Proofs.YtbglklaocjifhaaGreat.Tryz renaming mixed->AH
open Go.Vf.a3x renaming tuple->AI,agg->AS,same->AZ
open Go.Proofs.Tryz.Run.PbR renaming res_uniq->AK,res_ex->AW,pt_can->AX,bt_le->AY
open List renaming range->AM,length_filter_le->AN,length_pos_iff->AP,mem_range->AR
set_option linter.unusedSimpArgs false
set_option linter.unusedVariables false
set_option maxHeartbeats 0
set_option maxRecDepth 100000
namespace Go.Proofs.Tryz.Run
open Go Go.Vf Go.Proofs
open Go.Proofs.YtbglklaocjifhaaGreat
structure P1 where
 i:Nat
 is:Bool
 dep:Nat
 bj:Nat
 bn:Nat
 be:Nat->List DV
 bp:Nat->List DV
 mv:List Nat
def P1.ok (K:PbR)(l:List Nat)(s:P1):Prop:=
 s.i<=K.nl/\ ∃d j,K.upto l s.i s.is d j/\(s.is=AC->s.dep=0/\s.bj=0/\s.bn=0)/\
  (s.is=AJ->d<=4/\s.dep=d+1/\s.bj=j/\s.bn=(cellsOf (K.X j) l).length/\(∀t,t<s.bn->s.be t=((cellsOf (K.X j) l).getD t ⟨0,0⟩).row)/\ ∀t,t<s.bn->s.bp t=(K.bt d (K.pt j l t)).row)
def k3g (i:Nat):Nat:=if i<3 then i else i+8
theorem k3a {nl:Nat}(hnl:nl<=4)(x0 x1:DV)(tl:List DV)(F:Nat->Nat->VaR)(g:Nat->Bool)(a:Nat->Bool)(ha: ∀j,nl<=j->a j=AC){l:List Nat}(hl0:l≠[])(hll:l.length<=1000000)
 (hok: ∀i,i<nl-> ∀q,q∈l->a1i (F q i)/\0<=(F q i).fault) {K:PbR} (hK:K=⟨nl,fun j=>!(a j),fun i q=>F q i,g⟩)
 (ih: ∀i,i<nl->a i=AC-> ∀v,v∈cellsOf (K.X i) l-> ∀z d r,K.res (j7u (K.X i) v l) z d r->d<=4/\a0j AD AC 110 [.dptr (x0::x1:: .int .i64 (.v nl)::tl) 0,.d (.sl 9 (j7u (K.X i) v l).length fun j=>spR F g ((j7u (K.X i) v l).getD j 0)),.agg [bool (a 0||decide (0=i)),bool (a 1||decide (1=i)),bool (a 2||decide (2=i)),bool (a 3||decide (3=i))]] (.tuple [r.av,int d,bool z]))
 (z:Bool) (d:Nat) (r:PlR) (hz:K.res l z d r):
 a0j AD AC 110 [.dptr (x0::x1:: .int .i64 (.v nl)::tl) 0,.d (.sl 9 l.length fun j=>spR F g (l.getD j 0)),.agg [bool (a 0),bool (a 1),bool (a 2),bool (a 3)]] (.tuple [r.av,int d,bool z]):=by
 have hKnl:K.nl=nl:=by rw[hK]
 have hKX: ∀i q,K.X i q=F q i:=fun i q=>by rw[hK]
 have hKA: ∀i,K.A i=!(a i):=fun i=>by rw[hK]
 have hKG:K.G=g:=by rw[hK]
 have hpos:0<l.length:=AP.2 hl0;obtain⟨dd,hdd⟩: ∃dd:Bool,dd=AJ↔ ∃i,i<l.length/\g (l.getD i 0)≠g (l.getD 0 0):=by classical exact⟨decide _,decide_eq_true_iff⟩
 have hdec:k1e K.G l↔dd=AC:=by
  rw[hKG,k1q];constructor
  ·intro h;cases hd:dd with
   |false=>rfl
   |true=>obtain⟨i,h1,h2⟩:=hdd.1 hd;exact absurd (h i h1) h2
  ·intro h j hj;cases he:(g (l.getD j 0)==g (l.getD 0 0)) with
   |true=>simpa using he
   |false=>have:=hdd.2 ⟨j,hj,by simpa using he⟩;rw[h] at this;cases this
 have h130:=a1e (k2h hpos hll (fun j=>spR F g (l.getD j 0)) (fun i k=>(F (l.getD i 0) k).fault) (fun i k=>(F (l.getD i 0) k).n) (fun i=>g (l.getD i 0)) (fun i=>rfl) dd hdd);have h147:=k3k hnl x0 x1 tl;obtain⟨n,hn⟩: ∃n,l.length=n:=⟨_,rfl⟩;obtain⟨se,hse⟩: ∃f:Nat->List DV,(fun j=>spR F g (l.getD j 0))=f:=⟨_,rfl⟩;obtain⟨trow,htr⟩: ∃t:List DV,(x0::x1:: .int .i64 (.v nl)::tl)=t:=⟨_,rfl⟩;rw[hn,hse] at h130;have hsl:AV.d (.sl 9 l.length fun j=>spR F g (l.getD j 0))= .d (.sl 9 n se):=by rw[hn,hse]
 rw[hsl];obtain⟨a0,ha0⟩: ∃b,a 0=b:=⟨_,rfl⟩;obtain⟨a1,ha1⟩: ∃b,a 1=b:=⟨_,rfl⟩;obtain⟨a2,ha2⟩: ∃b,a 2=b:=⟨_,rfl⟩;obtain⟨a3,ha3⟩: ∃b,a 3=b:=⟨_,rfl⟩;obtain⟨q0,hq0⟩: ∃b,decide (0<nl)=b:=⟨_,rfl⟩;obtain⟨q1,hq1⟩: ∃b,decide (1<nl)=b:=⟨_,rfl⟩;obtain⟨q2,hq2⟩: ∃b,decide (2<nl)=b:=⟨_,rfl⟩;obtain⟨q3,hq3⟩: ∃b,decide (3<nl)=b:=⟨_,rfl⟩;simp only[k4m,hq0,hq1,hq2,hq3] at h147;rw[ha0,ha1,ha2,ha3];rw[ha0,ha1,ha2,ha3] at ih;have hall:(a0==q0&&(a1==q1&&(a2==q2&&(a3==q3&&AJ))))=AJ↔ ∀j,j<nl->a j=AJ:=by
  rw[<-ha0,<-ha1,<-ha2,<-ha3,<-hq0,<-hq1,<-hq2,<-hq3];simp only[Bool.and_eq_true,beq_iff_eq,Bool.and_true];constructor
  ·rintro⟨h0,h1,h2,h3⟩ j hj;obtain rfl|rfl|rfl|rfl:j=0\/j=1\/j=2\/j=3:=by omega
   ·rw[h0];exact decide_eq_true hj
   ·rw[h1];exact decide_eq_true hj
   ·rw[h2];exact decide_eq_true hj
   ·rw[h3];exact decide_eq_true hj
  ·intro h;have key: ∀j,a j=decide (j<nl):=fun j=>by
    by_cases hj:j<nl
    ·rw[h j hj,decide_eq_true hj]
    ·rw[ha j (by omega),decide_eq_false hj]
   exact⟨key 0,key 1,key 2,key 3⟩
 obtain⟨RA,hRA⟩: ∃x,r.av=x:=⟨_,rfl⟩;rw[hRA];refine a0k AH okP f0t _ rfl fun E Sg hbs hS=> ?_;have e:=b2k hS;have en: ∀k:Nat,nat Sg (IX.v (AG k))=k:=fun k=>by show Sg.toNat (AG k)=k;rw[e.toNat];rfl
 cbv;refine a1g hS (by subst hS;rfl) ?_;refine a0v hS _ h130 ?_;cases dd
 ·have hd0:K.can 0 l:=hdec.2 rfl;have hzz:z=AJ/\d=0/\r=k0p:=by obtain⟨g1,g2,g3⟩:=AK hz (K:=K) (z':=AJ) (d':=0) (r':=k0p) ⟨fun _=>⟨⟨hd0,fun m hm=>absurd hm (AB m)⟩,rfl⟩,fun h=>(by cases h)⟩;exact⟨g1,g2,g3⟩
  have hRA2:RA=k0p.av:=by rw[<-hRA,hzz.2.2]
  cbv;refine a0v hS _ k4a ?_;cbv;rw[hRA2,hzz.1,hzz.2.1];exact AI (.cons (AS (.cons (AA _) (.cons Aa (.cons Aa .nil)))) (.cons (a6c rfl) (.cons (AA _) .nil)))
 have hnd: ¬k1e K.G l:=fun h=>by have:=hdec.1 h;cases this
 cbv;refine a0v hS _ h147 ?_;cbv;simp only[e.band,e.beq];obtain⟨qa,hqa⟩: ∃q,(a0==q0&&(a1==q1&&(a2==q2&&(a3==q3&&AJ))))=q:=⟨_,rfl⟩;rw[hqa] at hall⊢;cases qa
 rotate_left
 ·have hzz:z=AC/\d=0/\r= .none:=by
   have hno: ∀n,¬K.can n l:=fun n hc=>by
    cases n with
    |zero=>exact hnd hc
    |succ n=>
     rcases hc with hc|⟨i,h1,h2,_⟩
     ·exact hnd hc
     ·rw[hKA,hall.1 rfl i (by rw[<-hKnl];exact h1)] at h2;cases h2
   exact AK (z':=AC) (d':=0) (r':= .none) hz ⟨fun h=>(by cases h),fun _=>⟨rfl,rfl,hno⟩⟩
  have hRA2:RA=PlR.none.av:=by rw[<-hRA,hzz.2.2]
  cbv;refine a1g hS (c3d hS) ?_;rw[hRA2,hzz.1,hzz.2.1];exact AI (.cons j8x (.cons (a6c rfl) (.cons (AA _) .nil)))
 cbv;refine a1g hS (c3d hS) ?_;refine e4p AH okP hS (σ:=P1) (fun s=>s.ok K l) (fun s=>nl-s.i)
  (fun s=>⟨b5r [(1,.d (.sl 9 n se)),(3,.ptr 0 0),(5,.ptr 1 0),(6,.ptr 2 0),(7,int s.dep),(8,bool s.is),(29,int nl),(30,int s.i)] 86,[.var [.dptr (x0::x1:: .int .i64 (.v nl)::tl) 0],.var [bool a0,bool a1,bool a2,bool a3],.var [int s.bj,.msl 3 2 none s.bn AC,.msl 4 3 none s.bn AC],.arr 2 s.bn s.be,.arr 3 s.bn s.bp],s.mv⟩) ⟨0,AC,0,0,0,fun _=>[],fun _=>[],[]⟩ ?_ ?_ ?_
 ·exact⟨AE _,0,0,PbR.upto0 K l,fun _=>⟨rfl,rfl,rfl⟩,fun h=>(by cases h)⟩
 ·refine (b4w.gh 2 1 2 (fun _=>[]) rfl rfl).trans ((b4w.gh 2 2 3 (fun _=>[]) rfl rfl).trans (b4w.le ?_));exact a4c rfl ⟨AA _,AA _,AA _,AA _,a6c rfl,AA _,AA _,a6c rfl,trivial⟩ (.cons (.refl _) (.cons (.refl _) (.cons (.var (.cons (a6c rfl) (.cons (AA _) (.cons (AA _) .nil)))) (.cons (.refl _) (.cons (.refl _) (.nil _)))))) (by rw[hbs];exact AE _) (.inr rfl) rfl
 rintro⟨i,is,dep,bj,bn,be,bp,mv⟩ ⟨hi,d0,j0,hup,hno,hyes⟩ N hN;simp only at hi hup hno hyes;rw[hKnl] at hi;have hskip:(∀n,¬K.sp n l i)->i<nl-> ∀mv',P1.ok K l ⟨i+1,is,dep,bj,bn,be,bp,mv'⟩:=fun h hil mv'=>⟨by rw[hKnl];exact hil,d0,j0,PbR.upto_no hup h,hno,hyes⟩;cbv;split
 rotate_left
 ·rename_i h;have hin:i=nl:=by have:=Int.ofNat_le.1 (b3r hS h);omega
  cbv;refine a1g hS (e8l hS (AU _)) (a1g hS (e8l hS (AU _)) ?_);rw[hin,<-hKnl] at hup;obtain⟨hf,ht⟩:=PbR.upto_end hup hnd;cases is
  ·obtain⟨g1,g2,g3⟩:=hno rfl;obtain⟨k1,k2,k3⟩:=AK (z':=AC) (d':=0) (r':= .none) hz ⟨fun h=>(by cases h),fun _=>⟨rfl,rfl,hf rfl⟩⟩;rw[<-hRA,k1,k2,k3,g1,g2,g3];exact AI (.cons (AS (.cons (b0a rfl) (.cons (AO rfl fun i hi=>absurd hi (AB i)) (.cons (AO rfl fun i hi=>absurd hi (AB i)) .nil)))) (.cons (b0a rfl) (.cons (AA _) .nil)))
  ·obtain⟨g0,g1,g2,g3,g4,g5⟩:=hyes rfl;obtain⟨h1,h2⟩:=ht rfl;obtain⟨k1,k2,k3⟩:=AK (z':=AJ) (d':=d0+1) (r':=K.bt (d0+1) l) hz ⟨fun _=>⟨h1,rfl⟩,fun h=>(by cases h)⟩;rw[<-hRA,k1,k2,k3,h2,g1,g2,g3,PlR.avE];simp only[j8y,PlR.look,PlR.nc,PlR.nn,PlR.c,PlR.nx];rw[g3] at g4 g5;refine AI (.cons (AS (.cons (AA _) (.cons (AO rfl fun t ht=>g4 t ht) (.cons (AO rfl fun t ht=> ?_) .nil)))) (.cons (AA _) (.cons (AA _) .nil)));rw[if_pos ht,if_pos ht];exact g5 t ht
 rename_i h;have hil:i<nl:=AT.1 (b3h hS h);have hga:a1a (α:=AV) [.d (.bool a0),.d (.bool a1),.d (.bool a2),.d (.bool a3)] (Sg.nadd 0 (Sg.nmul (Sg.toNat (AG i)) 1))=some (.d (.bool (a i))):=by
  rw[e.nadd,e.nmul,e.toNat,<-ha0,<-ha1,<-ha2,<-ha3];obtain rfl|rfl|rfl|rfl:i=0\/i=1\/i=2\/i=3:=by omega
  ·rfl
  ·rfl
  ·rfl
  ·rfl
 have hpa:b7y (α:=AV) [.d (.bool a0),.d (.bool a1),.d (.bool a2),.d (.bool a3)] (Sg.nadd 0 (Sg.nmul (Sg.toNat (AG i)) 1)) [.d (.bool AJ)]=some [.d (.bool (a0||decide (0=i))),.d (.bool (a1||decide (1=i))),.d (.bool (a2||decide (2=i))),.d (.bool (a3||decide (3=i)))]:=by
  rw[e.nadd,e.nmul,e.toNat];obtain rfl|rfl|rfl|rfl:i=0\/i=1\/i=2\/i=3:=by omega
  ·simp[b7y]
  ·simp[b7y]
  ·simp[b7y]
  ·simp[b7y]
 have ihi:=fun hai=>ih i hil hai;obtain⟨b0,hb0⟩: ∃b,(a0||decide (0=i))=b:=⟨_,rfl⟩;obtain⟨b1,hb1⟩: ∃b,(a1||decide (1=i))=b:=⟨_,rfl⟩;obtain⟨b2,hb2⟩: ∃b,(a2||decide (2=i))=b:=⟨_,rfl⟩;obtain⟨b3,hb3⟩: ∃b,(a3||decide (3=i))=b:=⟨_,rfl⟩;rw[hb0,hb1,hb2,hb3] at hpa ihi;cbv;simp only[j7f,hga];refine a1g hS (a5p hS (show i<4 by omega)) ?_;obtain⟨ai,hai⟩: ∃b,a i=b:=⟨_,rfl⟩;rw[hai];cases ai
 rotate_left
 ·cbv;refine a1g hS (e1n hS (by omega)) ?_;exact hN _ _ (hskip (fun n h=>by have:=h.1;rw[hKA,hai] at this;cases this) hil _) (by simp only;omega) (b4w.le (a4c rfl ⟨AA _,AA _,AA _,AA _,AA _,AA _,AA _,b2s hS,trivial⟩ (.same _) (by rw[hbs];exact AE _) (.inr rfl) (j7y _)))
 have ihv:=ihi hai;clear ihi ih;cbv;simp only[j7g,hpa];refine a1g hS (a5p hS (show i<4 by omega)) ?_;cbv;refine h3v hS (a1h.frame (k2q (.sl 9 n se) .nil i ⟨n,se,rfl⟩) [] rfl rfl trivial) ?_;rintro pg v H' ⟨pg0,v0,h0,⟨rfl,rfl,rfl⟩,rfl,rfl,rfl⟩;cbv;refine i0x hS rfl ?_;have hXi: ∀q,F q i=K.X i q:=fun q=>(hKX i q).symm;obtain⟨Xi,hXe⟩: ∃X,K.X i=X:=⟨_,rfl⟩;obtain⟨NN,hNN⟩: ∃z,(cellsOf (K.X i) l).length=z:=⟨_,rfl⟩;obtain⟨SS,hSS⟩: ∃f:Nat->VaR,∀p,(cellsOf (K.X i) l).getD p ⟨0,0⟩=f p:=⟨_,fun _=>rfl⟩;have hNl:NN<=1000000:=by rw[<-hNN];exact AF (j9v _ _) hll
 obtain⟨tt,htt⟩:=Classical.axiomOfChoice (fun p=>(show∃t:Bool×Nat×PlR,K.res (K.pt i l p) t.1 t.2.1 t.2.2 from by
  obtain⟨z,d,r,h⟩:=AW K (K.pt i l p);exact⟨(z,d,r),h⟩))
 obtain⟨zf,hzf⟩: ∃f:Nat->Bool,∀p,(tt p).1=f p:=⟨_,fun _=>rfl⟩;obtain⟨df,hdf⟩: ∃f:Nat->Nat,∀p,(tt p).2.1=f p:=⟨_,fun _=>rfl⟩;obtain⟨rf,hrf⟩: ∃f:Nat->PlR,∀p,(tt p).2.2=f p:=⟨_,fun _=>rfl⟩;simp only[hzf,hdf,hrf] at htt;have hpt: ∀p,K.pt i l p=j7u (K.X i) (SS p) l:=fun p=>by rw[PbR.pt,hSS]
 have hcall: ∀p,p<NN->df p<=4/\a0j AD AC 110 [.dptr trow 0,.d (.sl 9 (j7u (K.X i) (SS p) l).length fun j=>spR F g ((j7u (K.X i) (SS p) l).getD j 0)),.agg [bool b0,bool b1,bool b2,bool b3]] (.tuple [(rf p).av,int (df p),bool (zf p)]):=fun p hp=>by rw[<-htr];exact ihv (SS p) (by rw[<-hSS];exact j8e (by omega)) (zf p) (df p) (rf p) (by rw[<-hpt];exact htt p)
 obtain⟨mx,hmx⟩: ∃f:Nat->Nat,∀p,mxP df p=f p:=⟨_,fun _=>rfl⟩;have hmx0:mx 0=0:=(hmx 0).symm;have hmxs: ∀p,mx (p+1)=max (mx p) (df p):=fun p=>by rw[<-hmx,<-hmx];rfl
 have hg:=k3v (k:=13) (y:=10) (a:=8) (b:=9) (by decide) (by decide) (by decide)
  (fun p=>k0z trow a0 a1 a2 a3 bj bn be bp b0 b1 b2 b3 i (mx p) n se (k1j .ready) p (fun t=>(SS t).row) (fun t=>(rf t).row))
  (fun p=>k0z trow a0 a1 a2 a3 bj bn be bp b0 b1 b2 b3 i (mx p) n se (k1j (.done (.exit 1))) p (fun t=>(SS t).row) (fun t=>(rf t).row))
  (fun _=>rfl) (fun _=>rfl) (fun _=>rfl) (fun _=>rfl) l hl0 hll i (by omega) F g (fun q hq=>hok i hil q hq) (by rw[hsl];rfl) rfl (K.X i) hXi SS hSS NN hNN zf [11,12] (by simp) ?_
 ·refine a1h.nilH 2 (fun _=>[]) ?_ (b1c _ _ _) (c2f (m:=6) (i:=1) rfl rfl);refine a1h.nilH 3 (fun _=>[]) ?_ (b1c _ _ _) (c2f (m:=6) (i:=2) rfl rfl);refine a1h.heap (a1h.mono ?_ hg) (.cons (.var (.cons (by rw[<-htr];exact AA _) .nil)) (.cons (.refl _) (.cons (.refl _) (.cons (.refl _) (.cons (.refl _) (.cons (.refl _) (.cons (.refl _) (.cons (.var (.cons (a6c (by rw[hmx0];rfl)) .nil)) (.cons (.refl _) (.cons (.refl _) (.cons (a9v.loop (d2w rfl ⟨AA _,AA _,AA _,AA _,trivial⟩) fun a b h=>h) (.cons (.arr fun i hi=>absurd hi (AB i)) (.cons (.arr fun i hi=>absurd hi (AB i)) (.nil _)))))))))))))) rfl;rintro pg v H' ⟨rfl,rfl,hcase⟩;refine⟨show (10:Nat)∉[11,12] by decide,?_⟩;rcases hcase with⟨hallz,rfl⟩|⟨p,hp,hz1,hz2,rfl⟩
  ·have hm: ∀t,t<NN->K.mind (df t) (K.pt i l t):=fun t ht=>((htt t).1 (hallz t ht)).1;obtain⟨s1,s2⟩:=PbR.sp_max hl0 (K:=K) (i:=i) (by rw[hKA,hai];rfl) (D:=df) (by rw[hNN];exact hm);rw[hNN,hmx] at s1 s2;have hm4:mx NN<=4:=by rw[<-hmx];exact k3l fun j hj=>(hcall j hj).1
   have hnew:(is=AJ->mx NN<d0)-> ∀mv',P1.ok K l ⟨i+1,AJ,mx NN+1,i,NN,fun t=>(SS t).row,fun t=>(rf t).row,mv'⟩:=fun hb mv'=>
    ⟨by rw[hKnl];exact hil,mx NN,i,PbR.upto_new hup s1 s2 hb,fun h=>(by cases h),fun _=>⟨hm4,rfl,rfl,hNN.symm,fun t ht=>by rw[hSS],fun t ht=>by
      have h1:=(htt t).1 (hallz t ht);simp only;have h2:=AY h1.1.1 (show df t<=mx NN by rw[<-hmx];exact k2n ht);rw[h1.2,h2]⟩⟩
   have hold:is=AJ->d0<=mx NN-> ∀mv',P1.ok K l ⟨i+1,is,dep,bj,bn,be,bp,mv'⟩:=fun h1 h2 mv'=>
    ⟨by rw[hKnl];exact hil,d0,j0,by subst h1;exact PbR.upto_old hup s2 h2,hno,hyes⟩
   refine⟨_,_,_,_,rfl,?_⟩;cbv;cases is
   ·cbv;refine a1g hS (e1n hS (by omega)) (a1g hS (c3d hS) (a1g hS (e1n hS (by omega)) ?_));refine hN _ _ (hnew (fun h=>(by cases h)) _) (by simp only;omega) ((b4w.le (a4c (l:=[(1,.d (.sl 9 n se)),(3,.ptr 0 0),(5,.ptr 1 0),(6,.ptr 2 0),(7,int (mx NN+1:Nat)),(8,bool AJ),(29,int nl),(30,int (i+1:Nat))]) (n:=86) rfl ⟨AA _,AA _,AA _,AA _,b2s hS,AA _,AA _,b2s hS,trivial⟩ (.same _) (by rw[hbs];exact AE _) (.inr rfl) (j7y _))).trans
     (b4w.pack k3g (fun i hi=>by rw[hbs] at hi;exact absurd hi (AB i)) (by rw[hbs];exact AE _) (fun i j _ _ h=>by unfold k3g at h;split at h<;>split at h<;>omega) (AZ _) (fun j o ho=> ?_) rfl rfl))
    match j,ho with
    |0,ho=>cases ho;exact⟨_,rfl,.var (.cons (by rw[htr];exact AA _) .nil)⟩
    |1,ho=>cases ho;exact⟨_,rfl,.refl _⟩
    |2,ho=>cases ho;exact⟨_,rfl,.refl _⟩
    |3,ho=>cases ho;exact⟨_,rfl,.refl _⟩
    |4,ho=>cases ho;exact⟨_,rfl,.refl _⟩
    |j+5,ho=>simp at ho
   ·have hb:Sg.ilt (Sg.iadd (AG (mx NN)) (AG 1)) (AG dep)=decide (mx NN<d0):=by rw[e.iadd,e.ilt,(hyes rfl).2.1];exact decide_eq_decide.2 ⟨fun h=>by simp only[AQ] at h;omega,fun h=>by simp only[AQ];omega⟩
    obtain⟨q,hq⟩: ∃q,decide (mx NN<d0)=q:=⟨_,rfl⟩;rw[hq] at hb;cbv;refine a1g hS (e1n hS (by omega)) ?_;simp only[hb];cases q
    ·have hge:d0<=mx NN:=by have:=of_decide_eq_false hq;omega
     cbv;refine a1g hS (e1n hS (by omega)) ?_;refine hN _ _ (hold rfl hge _) (by simp only;omega) (b4w.le (a4c rfl ⟨AA _,AA _,AA _,AA _,AA _,AA _,AA _,b2s hS,trivial⟩ (.cons (.var (.cons (by rw[htr];exact AA _) .nil)) (.cons (.refl _) (.cons (.refl _) (.cons (.refl _) (.cons (.refl _) (.nil _)))))) (by rw[hbs];exact AE _) (.inl ⟨rfl,rfl⟩) (j7y _)))
    ·have hlt:mx NN<d0:=of_decide_eq_true hq;cbv;refine a1g hS (e1n hS (by omega)) (a1g hS (c3d hS) (a1g hS (e1n hS (by omega)) ?_));refine hN _ _ (hnew (fun _=>hlt) _) (by simp only;omega) ((b4w.le (a4c (l:=[(1,.d (.sl 9 n se)),(3,.ptr 0 0),(5,.ptr 1 0),(6,.ptr 2 0),(7,int (mx NN+1:Nat)),(8,bool AJ),(29,int nl),(30,int (i+1:Nat))]) (n:=86) rfl ⟨AA _,AA _,AA _,AA _,b2s hS,AA _,AA _,b2s hS,trivial⟩ (.same _) (by rw[hbs];exact AE _) (.inr rfl) (j7y _))).trans
      (b4w.pack k3g (fun i hi=>by rw[hbs] at hi;exact absurd hi (AB i)) (by rw[hbs];exact AE _) (fun i j _ _ h=>by unfold k3g at h;split at h<;>split at h<;>omega) (AZ _) (fun j o ho=> ?_) rfl rfl))
     match j,ho with
     |0,ho=>cases ho;exact⟨_,rfl,.var (.cons (by rw[htr];exact AA _) .nil)⟩
     |1,ho=>cases ho;exact⟨_,rfl,.refl _⟩
     |2,ho=>cases ho;exact⟨_,rfl,.refl _⟩
     |3,ho=>cases ho;exact⟨_,rfl,.refl _⟩
     |4,ho=>cases ho;exact⟨_,rfl,.refl _⟩
     |j+5,ho=>simp at ho
  ·refine⟨_,_,_,_,rfl,?_⟩;cbv;refine a1g hS (e1n hS (by omega)) ?_;refine hN _ _ (hskip (fun m hm=>((htt p).2 hz2).2.2 m (AX hm (by rw[hNN];exact hp))) hil _) (by simp only;omega) (b4w.le (a4c rfl ⟨AA _,AA _,AA _,AA _,AA _,AA _,AA _,b2s hS,trivial⟩ (.cons (.var (.cons (by rw[htr];exact AA _) .nil)) (.cons (.refl _) (.cons (.refl _) (.cons (.refl _) (.cons (.refl _) (.nil _)))))) (by rw[hbs];exact AE _) (.inl ⟨rfl,rfl⟩) (j7y _)))
 ·intro p nn pe hp hzz hlen hpe;obtain⟨h4,h110⟩:=hcall p hp;obtain⟨lk,nc,n3,Cc,Ee,hav,hrow⟩:=(rf p).avX;rw[hav] at h110;refine k3b trow a0 a1 a2 a3 bj bn be bp b0 b1 b2 b3 i (mx p) (mx (p+1)) n se p _ _ _ _ nn pe (SS p).fault (SS p).n lk (df p) nc n3 Cc Ee (zf p) (by omega) (h110.like (.cons (AA _) (.cons (AO hlen.symm fun j hj=>hpe j hj) (.cons (AA _) .nil)))) (fun j _=> .refl _) rfl (fun j _=> .refl _) (fun _=>by rw[hrow];exact .refl _) (fun _=> ?_);rw[hmxs];split<;>omega
theorem PbR.mind_le {K:PbR}{l:List Nat}{d:Nat}(h:K.mind d l):d<=K.nl:=by have:=PbR.can_left K (AM K.nl) l d (fun i hi _ hn=>absurd (AR.2 hi) hn) h.1;rw[List.length_range] at this;exact Nat.le_of_not_lt fun hlt=>h.2 _ hlt this
theorem PbR.res_le {K:PbR}{l:List Nat}{z:Bool}{d:Nat}{r:PlR}(h:K.res l z d r):d<=K.nl:=by
 cases z with
 |true=>exact PbR.mind_le (h.1 rfl).1
 |false=>rw[(h.2 rfl).1];exact AE _
theorem k3t {nl:Nat}(hnl:nl<=4)(x0 x1:DV)(tl:List DV)(F:Nat->Nat->VaR)(g:Nat->Bool): ∀(m:Nat) (a:Nat->Bool) (l:List Nat),((AM nl).filter fun j=>!(a j)).length=m->(∀j,nl<=j->a j=AC)->l≠[]->l.length<=1000000->
 (∀i,i<nl-> ∀q,q∈l->a1i (F q i)/\0<=(F q i).fault)-> ∀z d r,PbR.res ⟨nl,fun j=>!(a j),fun i q=>F q i,g⟩ l z d r->
 a0j AD AC 110 [.dptr (x0::x1:: .int .i64 (.v nl)::tl) 0,.d (.sl 9 l.length fun j=>spR F g (l.getD j 0)),.agg [bool (a 0),bool (a 1),bool (a 2),bool (a 3)]] (.tuple [r.av,int d,bool z]):=by
 intro m
 induction m using Nat.strongRecOn with
 |ind m ih=>
  intro a l hm ha hl0 hll hok z d r hz;refine k3a hnl x0 x1 tl F g a ha hl0 hll hok (K:=⟨nl,fun j=>!(a j),fun i q=>F q i,g⟩) rfl (fun i hi hai v hv z d r hr=> ?_) z d r hz;have hwo:PbR.wo ⟨nl,fun j=>!(a j),fun i q=>F q i,g⟩ i=⟨nl,fun j=>!(a j||decide (j=i)),fun i q=>F q i,g⟩:=by unfold PbR.wo;congr 1;funext j;by_cases e:j=i<;>simp[e]
  have hr2:=(PbR.res_wo (i:=i) k0v).2 hr;have hle:=PbR.res_le hr;refine⟨AF hle hnl,?_⟩;rw[hwo] at hr2;refine ih _ ?_ (fun j=>a j||decide (j=i)) (j7u _ v l) rfl (fun j hj=>by rw[ha j hj,decide_eq_false (by omega)];rfl) (j9e hv) (AF (AN _ _) hll) (fun i hi q hq=>hok i hi q (j8c.1 hq).1) z d r hr2;rw[<-hm];have e1:((AM nl).filter fun j=>!(a j||decide (j=i)))=((AM nl).filter fun j=>!(a j)).filter fun j=>!(decide (j=i)):=by rw[List.filter_filter];congr 1;funext j;cases a j<;>simp
  rw[e1];exact List.length_filter_lt_length_iff_exists.2 ⟨i,List.mem_filter.2 ⟨AR.2 hi,by simp[hai]⟩,by simp⟩
theorem k3x (x0 x1 x2 x3:DV)(n:Nat)(e4:Nat->List DV){r:PlR}{d:Int}{z:Bool}(h110:a0j AD AC 110 [.dptr [x0,x1,x2,x3,.sl 9 n e4] 0,.d (.sl 9 n e4),.agg [bool AC,bool AC,bool AC,bool AC]] (.tuple [r.av,int d,bool z])):
 a0j AD AC 109 [.dptr [x0,x1,x2,x3,.sl 9 n e4] 0] (.tuple [r.av,int d,bool z]):=by
 obtain⟨lk,nc,nn,C,D,h1,_⟩:=r.avX;rw[h1] at h110⊢;refine a0k AH okP e9w _ rfl fun E Sg hbs hS=> ?_;cbv;refine a0v hS _ h110 ?_;cbv;exact AA _
theorem k4f (A B:DiR){ns no nl n:Nat}{sz od:Nat->Int}{lk:Nat->DiR}{x0 x1 x2 x3:DV}{e4:Nat->List DV}{r:PlR}{d:Int}{z:Bool}(hz:z=AC->r= .none/\d=0)
 (h108:a0j AD AC 108 [isl ns sz,isl no od,dsl nl lk,A.av,B.av] (.tuple [.dptr [x0,x1,x2,x3,.sl 9 n e4] 0,int 0])) (h109:a0j AD AC 109 [.dptr [x0,x1,x2,x3,.sl 9 n e4] 0] (.tuple [r.av,int d,bool z])):
 a0j AD AC 73 [isl ns sz,isl no od,dsl nl lk,A.av,B.av] (.tuple [r.av,int d,int (if z=AJ then 0 else 7)]):=by
 obtain⟨ins,isz,ino,iod,ine,ien,inn,ivar,ink,ikid,iroot⟩:=A;obtain⟨gns,gsz,gno,god,gne,gen,gnn,gvar,gnk,gkid,groot⟩:=B;obtain⟨lk',nc,nn,C,D,h1,_⟩:=r.avX;have h2:z=AC->a0x (.agg [.d (.int .i64 (.l (.ofNat 0))),.d .nil,.d .nil]) r.av/\d=0:=fun h=>by obtain⟨h1,h2⟩:=hz h;rw[h1];exact⟨j8x,h2⟩
 rw[h1] at h109 h2⊢;clear h1 hz;cases z
 ·obtain⟨g1,g2⟩:=h2 rfl;refine a0k AH okP h2b _ rfl fun E Sg hbs hS=> ?_;have e:=b2k hS;cbv;refine a0v hS _ h108 ?_;cbv;simp only[e.ieq,e.bnot];cbv;refine a0v hS _ h109 ?_;cbv;exact AI (.cons g1 (.cons (a6c g2.symm) (.cons (a6c rfl) .nil)))
 ·refine a0k AH okP h2b _ rfl fun E Sg hbs hS=> ?_;have e:=b2k hS;cbv;refine a0v hS _ h108 ?_;cbv;simp only[e.ieq,e.bnot];cbv;refine a0v hS _ h109 ?_;cbv;exact AI (.cons (AA _) (.cons (AA _) (.cons (a6c rfl) .nil)))
theorem k3m (c:CaR)(hns:c.ns<=8)(hno:c.no<=8)(hnl:c.nl<=6)(hl: ∀i,i<c.nl->(c.lk i).fit)(hi:c.inn.fit)(hg:c.goal.fit){r:PlR}{d er:Int}(h73:a0j AD AC 73 [isl c.ns c.sz,isl c.no c.od,dsl c.nl c.lk,c.inn.av,c.goal.av] (.tuple [r.av,int d,int er])):
 a0j AD AC 20 [c.av] (.tuple [r.av,int d,int er]):=by
 have q1:=h7c (n:=c.ns) (by omega) c.sz;have q2:=h7c (n:=c.no) (by omega) c.od;have q3:=h9z c.nl (by omega) c.lk hl;have q4:=h8i c.inn hi;have q5:=h8i c.goal hg;obtain⟨lk',nc,nn',C,D,h1,_⟩:=r.avX;rw[h1] at h73⊢;obtain⟨ns,sz,no,od,nl,lk,⟨ins,isz,ino,iod,ine,ien,inn,ivar,ink,ikid,iroot⟩,⟨gns,gsz,gno,god,gne,gen,gnn,gvar,gnk,gkid,groot⟩⟩:=c;simp only[CaR.av,DiR.cs,List.cons_append,List.nil_append] at*
 refine a0k AH okP g7i _ rfl fun E Sg hbs hS=> ?_;have e:=b2k hS;cbv
 repeat' (first|(refine a0v hS _ q1 ?_;cbv)|(refine a0v hS _ q2 ?_;cbv)|(refine a0v hS _ q3 ?_;cbv)|(refine a0v hS _ q4 ?_;cbv)|(refine a0v hS _ q5 ?_;cbv)|(refine a0v hS _ h73 ?_;cbv)|refine a1g hS (c3d hS) ?_)
 exact AA _
theorem i6l.cellAt {d:DiR}(hd:i6l d)(hf:d.fit){T:Nat}(hT:(T:Int)=prod d.sz d.ns){p:Nat}(hp:p<T): ∃i,i<d.ne/\d.cell p=d.en i:=by obtain⟨_,h2,_⟩:=h4s hd.fr;have hpl:=(h5s (n:=d.ns) (fun j hj=>(h2 j hj).1) p (by rw[<-hT];exact AT.2 hp)).1;have hw:=(i6j d hd.loose hf (h5j d.sz d.ns p) fun j hj=>hpl j hj).1;exact⟨(-1-wayE d (h5j d.sz d.ns p) d.root).toNat,by have:=hw.1;have:=hw.2 (by omega);omega,rfl⟩
theorem CaR.ok.cell {c:CaR}{T:Nat}(h:c.ok T){i:Nat}(hi:i<c.nl+2){p:Nat}(hp:p<T):a1i (c.X i p)/\0<=(c.X i p).fault:=by obtain⟨j,hj,e⟩:=(h.di i hi).cellAt (h.fit.dg i hi) (h.Td i hi) hp;unfold CaR.X;rw[e];exact⟨(h.di i hi).loose.1 j hj,h.fit.flt i hi j hj⟩
theorem k3f:k0p.ok:=⟨⟨by decide,by decide⟩,by decide,by decide,fun i hi=>absurd hi (AB i),fun i hi=>absurd hi (AB i)⟩
theorem PbR.ok_bt (K:PbR)(h4:K.nl<=4): ∀(n:Nat) (l:List Nat),K.can n l->l.length<=1000000->(∀i,i<K.nl-> ∀p,p∈l->a1i (K.X i p)/\0<=(K.X i p).fault)->(K.bt n l).ok:=by
 intro n
 induction n with
 |zero=>intro l _ _ _;exact k3f
 |succ n ih=>
  intro l h hl hok;by_cases hc:K.can n l
  ·rw[AY hc (by omega)];exact ih l hc hl hok
  have hm:K.mind (n+1) l:=⟨h,fun m hm hc'=>hc (PbR.can_le hc' (by omega))⟩;obtain⟨f1,f2,f3⟩:=hm.fst;rw[f3];generalize j9f (K.sp n l) K.nl=i at f1 f2 f3⊢;have hcl:(cellsOf (K.X i) l).length<=1000000:=AF (j9v _ _) hl;refine⟨⟨by omega,by omega⟩,by omega,by omega,fun j hj=> ?_,fun j hj=> ?_⟩
  ·obtain⟨p,hp,hx⟩:=j7x.1 (j8e (show j<(cellsOf (K.X i) l).length from hj));show (0<=((cellsOf (K.X i) l).getD j ⟨0,0⟩).fault/\((cellsOf (K.X i) l).getD j ⟨0,0⟩).fault<=255)/\c5t ((cellsOf (K.X i) l).getD j ⟨0,0⟩).n;rw[<-hx];obtain⟨g1,g2⟩:=hok i f1 p hp;exact g1.bd g2
  ·show PlR.ok (if j<(cellsOf (K.X i) l).length then K.bt n (K.pt i l j) else .none);rw[if_pos hj];exact ih _ (AX f2 hj) (AF (AN _ _) hl) fun i' hi' p hp=>hok i' hi' p (j8c.1 hp).1
noncomputable def CaR.K (c:CaR):PbR:=⟨c.nl,fun _=>AJ,c.X,c.G⟩
def CaR.F (c:CaR)(q k:Nat):VaR:=cel c.nl c.X k q
noncomputable def CaR.Kp (c:CaR)(a:Nat->Bool):PbR:=⟨c.nl,fun j=>!(a j),fun i q=>c.F q i,c.G⟩
theorem CaR.K_same (c:CaR)(l:List Nat):c.K.same (c.Kp fun _=>AC) l:=
 ⟨rfl,fun _ _=>rfl,fun i hi p _=>by show c.X i p=cel c.nl c.X i p;unfold cel;rw[if_pos (show i<c.nl from hi)],fun _ _ _ _=>Iff.rfl⟩
structure CaR.bst (c:CaR)(T:Nat)(z:Bool)(d:Nat)(r:PlR):Prop where
 res:c.K.res (c.P T) z d r
 le:d<=4
 ok:r.ok
 h73:a0j AD AC 73 [isl c.ns c.sz,isl c.no c.od,dsl c.nl c.lk,c.inn.av,c.goal.av] (.tuple [r.av,int d,int (if z=AJ then 0 else 7)])
theorem CaR.ok.bst {c:CaR}{T:Nat}(h:c.ok T)(hT:T<=36)(hpos:0<(c.P T).length)
 (h108:a0j AD AC 108 [isl c.ns c.sz,isl c.no c.od,dsl c.nl c.lk,c.inn.av,c.goal.av] (.tuple [.dptr (i0q c.ns c.sz c.no c.od c.nl (c.P T).length (fun j=>(c.W T j:Int)) c.X c.G) 0,int 0])): ∃z d r,c.bst T z d r:=by
 obtain⟨z,d,r,hz⟩:=AW c.K (c.P T);have hlen:(c.P T).length<=T:=h8g _ T;have hmem: ∀p,p∈c.P T->p<T:=fun p hp=>((i0h _ T _).1 hp).1;have hle:d<=4:=AF (PbR.res_le hz) h.nl;have hcell: ∀i,i<c.nl-> ∀p,p∈c.P T->a1i (c.X i p)/\0<=(c.X i p).fault:=fun i hi p hp=>h.cell (by omega) (hmem p hp);refine⟨z,d,r,hz,hle,?_,?_⟩
 ·cases z with
  |true=>obtain⟨h1,h2⟩:=hz.1 rfl;rw[h2];exact PbR.ok_bt c.K h.nl d _ h1.1 (by omega) hcell
  |false=>rw[(hz.2 rfl).2.1];exact trivial
 ·have h110:=k3t h.nl (.sl 1 c.ns fun i=>[.int .i64 (.v (c.sz i))]) (.sl 1 c.no fun i=>[.int .i64 (.v (c.od i))]) [.sl 1 (c.P T).length fun j=>[.int .i64 (.v (c.W T j:Int))],.sl 9 (c.P T).length fun j=>spR c.F c.G ((c.P T).getD j 0)] c.F c.G _ (fun _=>AC) (c.P T) rfl (fun _ _=>rfl) (AP.1 hpos) (by omega) (fun i hi q hq=>by
   show a1i (cel c.nl c.X i q)/\0<=(cel c.nl c.X i q).fault;unfold cel;rw[if_pos hi];exact hcell i hi q hq) z d r ((c.K_same _).res.1 hz)
  exact k4f _ _ (fun e=>⟨(hz.2 e).2.1,by rw[(hz.2 e).1];rfl⟩) h108 (k3x _ _ _ _ _ _ h110)
theorem CaR.bst.thin {c:CaR}{T d:Nat}{r:PlR}(h:c.bst T AJ d r)(hT:T<=36):PlR.cnt 6 r<300:=by obtain⟨h1,h2⟩:=h.res.1 rfl;have h3:=PbR.cnt_bt c.K d 6 (c.P T) h1.1;rw[<-h2] at h3;have hlen:(c.P T).length<=T:=h8g _ T;have:=h.le;have:2*d*(c.P T).length<=8*36:=Nat.mul_le_mul (by omega) (by omega);omega
end Go.Proofs.Tryz.Run
