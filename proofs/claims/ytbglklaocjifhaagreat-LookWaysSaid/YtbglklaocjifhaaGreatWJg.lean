/- LookWays: the program's way of a place in a plan. Conditions: none. -/
import Derived.Test.YtbglklaocjifhaaGreatWLr
import Derived.Test.YtbglklaocjifhaaGreatWNb
import Derived.Test.YtbglklaocjifhaaGreatWNe
import Derived.Test.YtbglklaocjifhaaGreatWQd
import Derived.Test.YtbglklaocjifhaaGreatWQf
import Derived.Test.YtbglklaocjifhaaGreatWQi
import Derived.Test.YtbglklaocjifhaaGreatWSd
import Derived.Test.YtbglklaocjifhaaGreatWHe
import Derived.Test.YtbglklaocjifhaaGreatWHl
import Derived.Test.YtbglklaocjifhaaGreatWHr
import Derived.Test.YtbglklaocjifhaaGreatWJa
import Derived.Test.YtbglklaocjifhaaGreatWJd
import Derived.Test.YtbglklaocjifhaaGreatWJf
set_option linter.unusedSimpArgs false
set_option linter.unusedVariables false
set_option maxHeartbeats 0
set_option maxRecDepth 100000
namespace Go.Proofs.Tryz.Run
open Go Go.Vf Go.Proofs
open Go.Proofs.YtbglklaocjifhaaGreat
theorem PlR.wayO_step {nl:Nat}{V:Nat->VaR}{d:Nat}{p:PlR}(h:p.isP (d+1))(h0:0<=p.look):
 (nl:Int)<=p.look/\p.wayO nl V (d+1)=([],false)\/ ∃l:Nat,p.look=l/\l<nl/\((fnd p.c (V l) p.nc= .none/\p.wayO nl V (d+1)=([],false))\/
   ∃i,i<p.nn/\fnd p.c (V l) p.nc= .some i/\(p.nx i).isP d/\p.wayO nl V (d+1)=((l:Int)::((p.nx i).wayO nl V d).1,((p.nx i).wayO nl V d).2)):=by
 obtain⟨h1,h2,h3,h4,h5⟩:=h
 by_cases hn:(nl:Int)<=p.look
 ·exact .inl ⟨hn,by rw[PlR.wayO,if_neg (by omega),if_pos hn]⟩
 obtain⟨l,hl⟩: ∃l:Nat,p.look=l:=⟨p.look.toNat,by omega⟩
 refine .inr ⟨l,hl,by omega,?_⟩
 have e1:p.look.toNat=l:=by omega
 cases hf:fnd p.c (V l) p.nc with
 |none=>exact .inl ⟨rfl,by rw[PlR.wayO,if_neg (by omega),if_neg (by omega),e1,hf]⟩
 |some i=>
  have hi:=(j5m hf).1
  exact .inr ⟨i,by omega,rfl,((h5 (by omega)).2.2 i hi).2.2,by rw[PlR.wayO,if_neg (by omega),if_neg (by omega),e1,hf];simp only[hl]⟩
theorem j6l {ns no nl np:Nat}{sz od pc:Nat->Int}{lk:Nat->DiR}(p:PlR)(hp:p.slim 4)(hns:ns<=1000000)(hnp:np<=1000000)(hnl:nl<=6)(V:Nat->VaR){e35 e119 e98:Int}
 (h35:a0j Tryz.prog true 35 [p.av] (int e35)) (hP:e35=0->p.isP 4) (h119:a0j Tryz.prog true 119 [isl ns sz,isl no od] (int e119))
 (h120:e119=0->a0j Tryz.prog false 120 [isl ns sz,isl no od,.d .nil] (.tuple [(j4r ns no sz od).av,int 0]))
 (h98:e119=0->a0j Tryz.prog true 98 [isl ns sz,isl no od,dsl nl lk,(j4r ns no sz od).av,(j4r ns no sz od).av] (int e98))
 (h121:e98=0->j4u ns sz np pc-> ∀l,l<nl->a0j Tryz.prog false 121 [(lk l).av,isl np pc] (.tuple [(V l).av,int 0]))
 (N:Nat) (W:Nat->Int) (er:Int) (c1:e35≠0->N=0/\er=e35) (c2:e35=0->e119≠0->N=0/\er=e119) (c3:e35=0->e119=0->e98≠0->N=0/\er=e98)
 (c4:e35=0->e119=0->e98=0-> ¬j4u ns sz np pc->N=0/\er=3)
 (c5:e35=0->e119=0->e98=0->j4u ns sz np pc->((p.wayO nl V 4).2=true->N=(p.wayO nl V 4).1.length/\(∀j,j<N->W j=(p.wayO nl V 4).1.getD j 0)/\er=0)/\((p.wayO nl V 4).2=false->N=0/\er=7)):
 a0j Tryz.prog false 84 [p.av,isl ns sz,isl no od,dsl nl lk,isl np pc] (.tuple [isl N W,int er]):=by
 have h122:=fun (q:PlR) (hq:q.nc<=300) (v:VaR) r hr=>j5r (n:=q.nc) (by omega) q.c v r hr
 have hstep:=fun d q h h0=>PlR.wayO_step (nl:=nl) (V:=V) (d:=d) (p:=q) h h0
 obtain⟨LK,hLK⟩: ∃f:PlR->Int,∀q,q.look=f q:=⟨_,fun _=>rfl⟩
 obtain⟨NC,hNC⟩: ∃f:PlR->Nat,∀q,q.nc=f q:=⟨_,fun _=>rfl⟩
 obtain⟨NN,hNN⟩: ∃f:PlR->Nat,∀q,q.nn=f q:=⟨_,fun _=>rfl⟩
 obtain⟨NX,hNX⟩: ∃f:PlR->Nat->PlR,∀q,q.nx=f q:=⟨_,fun _=>rfl⟩
 obtain⟨CC,hCC⟩: ∃f:PlR->Nat->List DV,∀q,(fun j=>(q.c j).row)=f q:=⟨fun q j=>(q.c j).row,fun _=>rfl⟩
 obtain⟨EE,hEE⟩: ∃f:PlR->Nat->List DV,∀q,(fun j=>if j<q.nn then (q.nx j).row else d4k)=f q:=⟨fun q j=>if j<q.nn then (q.nx j).row else d4k,fun _=>rfl⟩
 have hrow: ∀q i,i<NN q->EE q i=[.int .i64 (.v (LK (NX q i))),.sl 2 (NC (NX q i)) (CC (NX q i)),.sl 3 (NN (NX q i)) (EE (NX q i))]:=fun q i hi=>by
  rw[<-hEE q]
  simp only[hNN,if_pos hi,hNX]
  rw[PlR.rowE,hLK,hNC,hNN,hCC,<-hEE]
  simp only[hNN,hNX]
 have hpav:p.av= .agg [int (LK p),.d (.sl 2 (NC p) (CC p)),.d (.sl 3 (NN p) (EE p))]:=by rw[PlR.avE,hEE,hLK,hNC,hNN,hCC]
 have hvsl: ∀q:PlR,vsl q.nc q.c= .d (.sl 2 (NC q) (CC q)):=fun q=>by rw[<-hCC,<-hNC];rfl
 obtain⟨WA,hWA⟩: ∃f:PlR->Nat->List Int×Bool,∀q d,q.wayO nl V d=f q d:=⟨_,fun _ _=>rfl⟩
 obtain⟨FN,hFN⟩: ∃f:PlR->Nat->Option Nat,∀q l,fnd q.c (V l) q.nc=f q l:=⟨_,fun _ _=>rfl⟩
 obtain⟨IP,hIP⟩: ∃f:Nat->PlR->Prop,∀d q,PlR.isP d q=f d q:=⟨_,fun _ _=>rfl⟩
 obtain⟨SL,hSL⟩: ∃f:Nat->PlR->Prop,∀d q,PlR.slim d q=f d q:=⟨_,fun _ _=>rfl⟩
 obtain⟨VF,hVF⟩: ∃f:Nat->Int,∀l,(V l).fault=f l:=⟨_,fun _=>rfl⟩
 obtain⟨VN,hVN⟩: ∃f:Nat->Int,∀l,(V l).n=f l:=⟨_,fun _=>rfl⟩
 have hVav: ∀l,(V l).av= .agg [u8 (VF l),int (VN l)]:=fun l=>by rw[VaR.av,hVF,hVN]
 have h122: ∀q l r,SL 0 q->((∀i,FN q l=some i->r=(i:Int))/\(FN q l=none->r= -1))->a0j Tryz.prog true 122 [.d (.sl 2 (NC q) (CC q)),.agg [u8 (VF l),int (VN l)]] (int r):=fun q l r hs hr=>by
  rw[<-hvsl,<-hVav]
  refine h122 q ?_ (V l) r (by rw[hFN];exact hr)
  rw[<-hSL] at hs;exact hs.1
 have hslk: ∀d q i,SL (d+1) q->i<NN q->SL d (NX q i):=fun d q i h hi=>by
  rw[<-hSL] at h⊢;rw[<-hNX];exact h.2.2 i (by rw[hNN];exact hi)
 have hsl0: ∀d q,SL d q->SL 0 q:=fun d q h=>by
  rw[<-hSL] at h⊢
  cases d with
  |zero=>exact h
  |succ d=>exact⟨h.1,h.2.1⟩
 have hip: ∀d q,IP d q-> -1<=LK q/\(0<=LK q->0<d):=fun d q h=>by
  rw[<-hIP] at h;rw[<-hLK]
  cases d with
  |zero=>exact⟨h.1,fun h0=>(h.2.2.2.2 (by omega)).1⟩
  |succ d=>exact⟨h.1,fun _=>by omega⟩
 have hend: ∀d q,LK q= -1->WA q d=([],true):=fun d q h=>by
  rw[<-hWA];rw[<-hLK] at h
  cases d with
  |zero=>rfl
  |succ d=>rw[PlR.wayO,if_pos h]
 simp only[hFN,hWA,hIP] at hstep
 simp only[hLK,hNC,hNN,hNX,hWA,hFN,hIP,hSL,hVav] at hstep hP h121 c5 hp
 have hD:(j4r ns no sz od).av= .agg [isl ns sz,isl no od,vsl 1 fun _=>⟨0,1⟩,bsl 0 (fun _=>0) (fun _=>0) (fun _ _=>0),int (-1)]:=rfl
 rw[hD] at h120 h98
 rw[hpav] at h35⊢
 obtain⟨PL,hPL⟩: ∃P:Prop,j4u ns sz np pc=P:=⟨_,rfl⟩
 have hPL2:PL↔np=ns/\ ∀i,i<np->0<=pc i/\pc i<sz i:=by rw[<-hPL];exact Iff.rfl
 rw[hPL] at h121 c4 c5
 clear hLK hNC hNN hNX hCC hEE hpav hvsl hWA hFN hIP hSL hVF hVN hVav hD hPL
 obtain⟨LN,hLN⟩: ∃f:List Int->Nat,∀l,l.length=f l:=⟨_,fun _=>rfl⟩
 obtain⟨GD,hGD⟩: ∃f:List Int->Nat->Int,∀l j,l.getD j 0=f l j:=⟨_,fun _ _=>rfl⟩
 have hLN0:LN []=0:=by rw[<-hLN];rfl
 have hLN1: ∀l x,LN (l++[x])=LN l+1:=fun l x=>by rw[<-hLN,<-hLN];simp
 have hGD0: ∀l x j,j<LN l->GD (l++[x]) j=GD l j:=fun l x j hj=>by
  rw[<-hLN] at hj;rw[<-hGD,<-hGD,List.getD_eq_getElem?_getD,List.getD_eq_getElem?_getD,List.getElem?_append_left hj]
 have hGD1: ∀l x,GD (l++[x]) (LN l)=x:=fun l x=>by
  rw[<-hGD,<-hLN,List.getD_eq_getElem?_getD,List.getElem?_append_right (Nat.le_refl _)];simp
 simp only[hLN,hGD] at c5
 refine a0k Tryz.mixed okP g4z _ rfl fun E Sg hb hS=> ?_
 have e:=b2k hS
 have hfail: ∀z:Int,N=0/\er=z->a3x [.d .nil,int z] [isl N W,int er]:=fun z h=>by
  rw[h.1,h.2];exact .cons a0x.nil0 (.cons (.refl _) .nil)
 cbv
 refine a0v hS _ h35 ?_
 cbv
 split
 ·rename_i h
  have h5:e35≠0:=e8q hS h
  cbv
  exact a3x.tuple (hfail _ (c1 h5))
 rename_i h
 have h5:e35=0:=e8o hS h
 subst h5
 cbv
 refine a0v hS _ h119 ?_
 cbv
 split
 ·rename_i h
  have h5:e119≠0:=e8q hS h
  cbv
  exact a3x.tuple (hfail _ (c2 rfl h5))
 rename_i h
 have h5:e119=0:=e8o hS h
 subst h5
 cbv
 refine a0v hS _ (h120 rfl) ?_
 cbv
 split
 ·rename_i h;exact absurd rfl (e8q hS h)
 cbv
 refine a0v hS _ (h98 rfl) ?_
 cbv
 split
 ·rename_i h
  have h5:e98≠0:=e8q hS h
  cbv
  exact a3x.tuple (hfail _ (c3 rfl rfl h5))
 rename_i h
 have h5:e98=0:=e8o hS h
 subst h5
 have c4:=c4 rfl rfl rfl
 have c5:=c5 rfl rfl rfl
 have h121:=h121 rfl
 cbv
 split
 ·rename_i h
  have h5:np≠ns:=fun h'=>e8q hS h (by rw[h'])
  cbv
  exact a3x.tuple (.cons (by rw[(c4 fun h=>h5 (hPL2.1 h).1).1];exact a0x.nil0) (.cons (by rw[(c4 fun h=>h5 (hPL2.1 h).1).2];exact a6c rfl) .nil))
 rename_i h
 have h5:np=ns:=by have:=e8o hS h;simp only[e.ofNat] at this;omega
 subst h5
 cbv
 refine a7r Tryz.mixed okP hS (fun i=>i<=np/\ ∀j,j<i->0<=pc j/\pc j<sz j) (fun i=>np-i)
  (fun i=>⟨b5r [(1,isl np sz),(3,dsl nl lk),(4,isl np pc),(5,.ptr 0 0),(57,isl np pc),(58,int np),(59,int i)] 110,[.var [int (LK p),.d (.sl 2 (NC p) (CC p)),.d (.sl 3 (NN p) (EE p))],.var [.any,.any,.any,.any,.any]],[]⟩) 0 ⟨by omega,by omega⟩ ?_ ?_
 ·exact a4c rfl ⟨a0x.refl _,a0x.refl _,a0x.refl _,a0x.refl _,a0x.refl _,b0a (e.ofNat _),a6c rfl,trivial⟩ (.cons (.refl _) (.cons (.var (.cons (.any _) (.cons (.any _) (.cons (.any _) (.cons (.any _) (.cons (.any _) .nil)))))) (.nil _))) (by simp;omega) (.inr rfl) rfl
 rintro i ⟨hi,hz⟩ K hK
 cbv
 split
 ·rename_i h
  have hlt:i<np:=Int.ofNat_lt.1 (b3h hS h)
  cbv
  simp only[nat,e.toNat,Int.ofNat_eq_natCast,Int.toNat_natCast]
  refine a1g hS (a5p hS hlt) ?_
  have hbad: ¬(0<=pc i/\pc i<sz i)->N=0/\er=3:=fun h=>c4 fun h'=>h ((hPL2.1 h').2 i hlt)
  obtain⟨z,hz1⟩: ∃z,Sg.ilt (pc i) ((0:Nat):Int)=z:=⟨_,rfl⟩
  have hzz:z=true↔pc i<0:=by rw[<-hz1];simp[e.ilt]
  simp only[hz1]
  cases z with
  |true=>
   cbv
   have:=hzz.1 rfl
   exact a3x.tuple (.cons (by rw[(hbad (by omega)).1];exact a0x.nil0) (.cons (by rw[(hbad (by omega)).2];exact a6c rfl) .nil))
  |false=>
   have h0:0<=pc i:=by have:=hzz.2;simp at this;omega
   cbv
   have en: ∀k:Nat,nat Sg (IX.v (Int.ofNat k))=k:=fun k=>by simp only[nat,e.toNat,Int.ofNat_eq_natCast,Int.toNat_natCast]
   simp only[en]
   refine a1g hS (a5p hS hlt) ?_
   split
   ·rename_i h
    have h6:=e3n hS h
    cbv
    exact a3x.tuple (.cons (by rw[(hbad (by omega)).1];exact a0x.nil0) (.cons (by rw[(hbad (by omega)).2];exact a6c rfl) .nil))
   ·rename_i h
    have h6:=e3g hS h
    cbv
    refine a1g hS (e1n hS (by omega)) ?_
    refine hK (i+1) _ ⟨by omega,fun j hj=> ?_⟩ (by omega) (a4c rfl ⟨a0x.refl _,a0x.refl _,a0x.refl _,a0x.refl _,a0x.refl _,a0x.refl _,b2s hS,trivial⟩ (.cons (.refl _) (.cons (.refl _) (.nil _))) (by simp;omega) (.inr rfl) rfl)
    by_cases ej:j=i
    ·rw[ej];omega
    ·exact hz j (by omega)
 ·rename_i h
  have hin:i=np:=by have:=Int.ofNat_le.1 (b3r hS h);omega
  subst hin
  have hpl:PL:=hPL2.2 ⟨rfl,hz⟩
  have c5:=c5 hpl
  have h121:=h121 hpl
  clear hz c4 hPL2
  cbv
  refine e4p Tryz.mixed okP hS (σ:=Nat×PlR×List Int) (fun st=>IP st.1 st.2.1/\SL st.1 st.2.1/\st.1+LN st.2.2<=4/\WA p 4=(st.2.2++(WA st.2.1 st.1).1,(WA st.2.1 st.1).2)) (fun st=>st.1)
   (fun st=>⟨b5r [(3,dsl nl lk),(4,isl i pc),(5,.ptr 0 0),(19,.msl 2 1 none (LN st.2.2) false)] 110,[.var [int (LK st.2.1),.d (.sl 2 (NC st.2.1) (CC st.2.1)),.d (.sl 3 (NN st.2.1) (EE st.2.1))],.var [.any,.any,.any,.any,.any],.arr 1 (LN st.2.2) fun j=>[.int .i64 (.v (GD st.2.2 j))]],[2]⟩) (4,p,[]) ⟨hP rfl,hp,by simp[hLN0],by simp⟩ ?_ ?_
  ·refine (b4w.gt 19 1 (fun _=>[]) rfl).trans (b4w.le (a4c rfl ⟨a0x.refl _,a0x.refl _,a0x.refl _,?_,trivial⟩ (.cons (.refl _) (.cons (.refl _) (.cons (a9v.arrr hLN0.symm fun j hj=> ?_) (.nil _)))) (by simp;omega) (.inr rfl) rfl))
   ·simp only[hLN0];exact a0x.refl _
   ·omega
  rintro⟨d,q,so⟩ ⟨hq1,hq2,hq3,hq4⟩ K2 hK2
  simp only at hq1 hq2 hq3 hq4 hK2
  dsimp only
  obtain⟨g1,g2⟩:=hip d q hq1
  cbv
  split
  rotate_left
  ·rename_i h
   have h6:LK q= -1:=by have:=e3g hS h;simp only[Int.ofNat_eq_natCast] at this;omega
   rw[hend d q h6,List.append_nil] at hq4
   simp only[hq4] at c5
   obtain⟨r1,r2,r3⟩:=c5.1 trivial
   subst r1 r3
   cbv
   refine a1g hS (e8l hS (Nat.le_refl _)) ?_
   exact a3x.tuple (.cons (a0x.sl' rfl fun j hj=>by rw[r2 j hj]) (.cons (a6c rfl) .nil))
  ·rename_i h
   have h6:0<=LK q:=e3n hS h
   obtain⟨d,rfl⟩: ∃k,d=k+1:=⟨d-1,by have:=g2 h6;omega⟩
   have hst:=hstep d q hq1 h6
   cbv
   split
   ·rename_i h
    have h7:(nl:Int)<=LK q:=by have:=e3n hS h;simp only[e.ofNat] at this;exact this
    rcases hst with⟨_,h8⟩|⟨l,h8,h9,_⟩
    ·rw[h8,List.append_nil] at hq4
     simp only[hq4] at c5
     obtain⟨r1,r2⟩:=c5.2 trivial
     cbv
     exact a3x.tuple (.cons (by rw[r1];exact a0x.nil0) (.cons (by rw[r2];exact a6c rfl) .nil))
    ·have h8':LK q=(l:Int):=h8
     omega
   ·rename_i h
    have h7:LK q<(nl:Int):=by have:=e3g hS h;simp only[e.ofNat] at this;exact this
    rcases hst with⟨h8,_⟩|⟨l,h8,h9,hst⟩
    ·have h8':(nl:Int)<=LK q:=h8
     omega
    obtain⟨LQ,hLQ⟩: ∃z,LK q=z:=⟨_,rfl⟩
    simp only[hLQ] at h8⊢
    subst h8
    cbv
    have en: ∀k:Nat,nat Sg (IX.v (Int.ofNat k))=k:=fun k=>by simp only[nat,e.toNat,Int.ofNat_eq_natCast,Int.toNat_natCast]
    simp only[en]
    refine a1g hS (a5p hS h9) ?_
    refine a0v hS _ (h121 l h9) ?_
    cbv
    obtain⟨r,hr⟩: ∃r:Int,(∀i,FN q l=some i->r=(i:Int))/\(FN q l=none->r= -1):=by
     cases FN q l with
     |none=>exact⟨-1,by simp⟩
     |some i=>exact⟨i,by simp⟩
    refine a0v hS _ (h122 q l r (hsl0 _ _ hq2) hr) ?_
    cbv
    split
    ·rename_i h
     have h10:r<0:=b3h hS h
     rcases hst with⟨_,h11⟩|⟨k,_,h11,_⟩
     ·rw[h11,List.append_nil] at hq4
      simp only[hq4] at c5
      obtain⟨r1,r2⟩:=c5.2 trivial
      cbv
      exact a3x.tuple (.cons (by rw[r1];exact a0x.nil0) (.cons (by rw[r2];exact a6c rfl) .nil))
     ·have h12:r=(k:Int):=hr.1 k h11
      omega
    ·rename_i h
     have h10:0<=r:=b3r hS h
     rcases hst with⟨h11,_⟩|⟨k,h12,h11,h13,h14⟩
     ·have:=hr.2 h11;omega
     obtain rfl:=hr.1 k h11
     cbv
     simp only[en,hrow q k h12]
     cbv
     refine a1g hS trivial (a1g hS (f1i hS (by omega)) (a1g hS (a5p hS h12) ?_))
     rw[h14] at hq4
     refine hK2 (d,NX q k,so++[(l:Int)]) _ ⟨h13,hslk d q k hq2 h12,by simp only[hLN1];omega,by simpa using hq4⟩ (by simp only;omega)
      (b4w.le (a4c rfl ⟨a0x.refl _,a0x.refl _,a0x.refl _,?_,trivial⟩ (.cons (.refl _) (.cons (.refl _) (.cons ?_ (.nil _)))) (by simp;omega) (.inl ⟨by cbv,by cbv⟩) rfl))
     ·simp only[hLN1];exact d8n hS
     ·simp only[hLN1];exact d7h hS (fun j hj=> .one (.int (hGD0 _ _ j hj).symm)) (.one (.int (hGD1 _ _).symm))
end Go.Proofs.Tryz.Run
