/- Cells alike. Conditions: none. -/
import Derived.Test.YtbglklaocjifhaaGreatFXj
open Go.Vf.a0x renaming refl->AA,nil0->Av
open Nat renaming zero_add->AB,succ_eq_add_one->AC,succ_ne_zero->AD,not_lt_zero->AF,add_zero->AH,reduceAdd->AI,lt_trichotomy->AP,lt_irrefl->Af,sub_self->Ag,zero_le->Aj,blt_eq->An,le_trans->At
open Int renaming ofNat->AE,le_refl->Ac,natCast_nonneg->Ao,ofNat_le->Au
open Bool renaming false->AG,false_eq_true->AK,true->AY,and_eq_true->Ab,and_true->Ae,true_and->As
open List renaming getD_eq_getElem?_getD->AJ,getElem?_eq_getElem->AM,cons_append->AQ,nil_append->AU,map_cons->AX,map_nil->AZ,length_singleton->Ah,getElem_of_mem->Ak,length_append->Am,length_take->Ap
open Go.Vf.AV renaming forgetL_low->AN,forgetL->AO,lowL_mono->AW,lowL->Ai,low->Aq,forget->Ar
open Option renaming none->AR,some->AT,getD_some->Al
open Go.Proofs.YtbglklaocjifhaaGreat.Tryz renaming mixed->AS
open Go.Vf renaming rowAt->Aa
open Ne renaming symm->Ad
set_option linter.unusedSimpArgs false
set_option linter.unusedVariables false
set_option maxHeartbeats 0
set_option maxRecDepth 100000
namespace Go.Proofs.Tryz.Run
open Go Go.Vf Go.Proofs
open Go.Proofs.YtbglklaocjifhaaGreat
def pll (l:List Nat):AV:=isl l.length fun j=>((l.getD j 0:Nat):Int)
theorem j9r {l:List Nat}{j:Nat}(h:j<l.length):l.getD j 0∈l:=by rw[AJ,AM h];exact List.getElem_mem h
theorem k1q {G:Nat->Bool}{l:List Nat}:k1e G l↔ ∀j,j<l.length->G (l.getD j 0)=G (l.getD 0 0):=by
 constructor
 ·intro h j hj;exact h _ (j9r hj) _ (j9r (by omega))
 ·intro h p hp q hq;obtain⟨i,hi,e1⟩:=Ak hp;obtain⟨j,hj,e2⟩:=Ak hq;have h1:=h i hi;have h2:=h j hj;rw[AJ,AM hi] at h1;rw[AJ,AM hj] at h2;simp only[Al] at h1 h2;rw[<-e1,<-e2,h1,h2]
theorem k2k {nl T:Nat}(hT:T<=1000000){X:Nat->Nat->VaR}{G:Nat->Bool}{l:List Nat}(hl:l.length<=1000000)(hW: ∀p,p∈l->p<T){r:Bool}(hr:r=AY↔k1e G l):
 a0j Tryz.prog AY 60 [.agg (knC nl T X G),pll l] (bool r):=by
 rw[k1q] at hr;have hW2: ∀j,j<l.length->l.getD j 0<T:=fun j hj=>hW _ (j9r hj);unfold pll;obtain⟨W,hWe⟩:=xB fun j:Nat=>l.getD j 0;obtain⟨n,hn⟩:=xA l.length;simp only[hWe,hn] at*
 unfold knC;refine a1e (a0k AS okP k4r _ rfl fun E Sg hbs hS=> ?_);have e:=b2k hS;have en: ∀k:Nat,nat Sg (IX.v (AE k))=k:=fun k=>by show Sg.toNat (AE k)=k;rw[e.toNat];rfl
 cbv;refine a7r AS okP hS (fun i=>i<=n/\ ∀j,j<i->G (W j)=G (W 0)) (fun i=>n-i)
  (fun i=>⟨b5r [(1,isl n fun j=>(W j:Int)),(2,.ptr 0 0),(5,int i)] 28,[.var [.d (.sl 1 nl fun i=>[.sl 2 T fun p=>(X i p).row]),.d (.sl 1 T fun p=>[.bool (G p)])]],[]⟩) 0 ⟨by omega,by omega⟩ ?_ ?_
 ·exact a4c rfl ⟨AA _,AA _,a6c rfl,trivial⟩ (.same _) (by simp;omega) (.inr rfl) rfl
 ·intro i hi N hN;cbv;split
  ·rename_i h;have hlt:i<n:=d3r hS h;have wi:=hW2 i hlt;have w0:=hW2 0 (by omega);cbv;have en0:nat Sg (IX.l (AE 0))=0:=rfl;simp only[en,en0];refine a1g hS (a5p hS hlt) (a1g hS (a5p hS (show 0<n by omega)) (a1g hS (a5p hS wi) (a1g hS (a5p hS w0) ?_)));simp only[e.bnot,e.beq];obtain⟨q,hq⟩:=xA (!(G (W i)==G (W 0)));rw[hq];cases q
   ·cbv;refine a1g hS (e1n hS (by omega)) ?_;refine hN (i+1) _ ⟨hlt,fun j hj=> ?_⟩ (by omega) (a4c rfl ⟨AA _,AA _,b2s hS,trivial⟩ (.same _) (by simp;omega) (.inr rfl) rfl);by_cases ej:j=i
    ·subst ej;simpa using hq
    ·exact hi.2 j (by omega)
   ·cbv;refine e8z hr fun hall=> ?_;rw[hall i hlt] at hq;simp at hq
  ·rename_i h;have hin:n<=i:=d3c hS h;cbv;exact h8e hr fun j hj=>hi.2 j (by omega)
theorem PlR.avX (r:PlR): ∃(lk:Int) (nc nn:Nat) (C D:Nat->List DV),r.av= .agg [int lk,.d (.sl 2 nc C),.d (.sl 3 nn D)]/\r.row=[.int .i64 (.v lk),.sl 2 nc C,.sl 3 nn D]:=⟨_,_,_,_,_,PlR.avE r,PlR.rowE r⟩
theorem j8x:a0x (.agg [.d (.int .i64 (.l (.ofNat 0))),.d .nil,.d .nil]) PlR.none.av:=a3x.agg (.cons (a6c rfl) (.cons Av (.cons Av .nil)))
def prt (K:PbR)(i:Nat)(l:List Nat):AV:= .d (.sl 1 (cellsOf (K.X i) l).length fun j=>[.sl 1 (K.pt i l j).length fun t=>[.int .i64 (.v (((K.pt i l j).getD t 0:Nat):Int))]])
structure S1 where
 i:Nat
 H:List a0f
 mv:List Nat
 A:Nat
 B:Nat
 Q:Nat->Nat
def S1.cs (X:Nat->VaR)(l:List Nat)(s:S1):List VaR:=cellsOf X (l.take s.i)
def S1.pt (X:Nat->VaR)(l:List Nat)(s:S1)(j:Nat):List Nat:=j7u X ((s.cs X l).getD j ⟨0,0⟩) (l.take s.i)
structure S1.ok (l:List Nat)(X:Nat->VaR)(k0 k1:DV)(s:S1):Prop where
 hi:s.i<=l.length
 hk:a1a s.H 0=AT (.var [.d k0,.d k1])
 h0:s.i=0->s.H=[.var [.d k0,.d k1]]
 hA:s.i≠0->0<s.A/\ ∃ce:Nat->List DV,a1a s.H s.A=AT (.arr 2 (s.cs X l).length ce)/\ ∀j,j<(s.cs X l).length->ce j=((s.cs X l).getD j ⟨0,0⟩).row
 hB:s.i≠0->0<s.B/\s.B≠s.A/\ ∃V:List AV,a1a s.H s.B=AT (.arrv V)/\a3q V=(s.cs X l).length/\ ∀j,j<(s.cs X l).length->a1a V j=AT (.msl (s.Q j) 1 AR (s.pt X l j).length AG)
 hQ: ∀j,j<(s.cs X l).length->0<s.Q j/\s.Q j≠s.A/\s.Q j≠s.B/\ ∃ee:Nat->List DV,a1a s.H (s.Q j)=AT (.arr 1 (s.pt X l j).length ee)/\ ∀t,t<(s.pt X l j).length->ee t=[.int .i64 (.v (((s.pt X l j).getD t 0:Nat):Int))]
 hinj: ∀j j',j<(s.cs X l).length->j'<(s.cs X l).length->s.Q j=s.Q j'->j=j'
 hlow:d5i (a3q s.H) s.H=AY
def S1.T8 (X:Nat->VaR)(l:List Nat)(s:S1):AV:=if s.i=0 then .d .nil else .msl s.A 2 AR (s.cs X l).length AG
def S1.T9 (X:Nat->VaR)(l:List Nat)(s:S1):AV:=if s.i=0 then .d .nil else .msl s.B 1 AR (s.cs X l).length AG
section
variable {l:List Nat} {X:Nat->VaR} {k0 k1:DV} {i:Nat} {H H':List a0f} {mv mv':List Nat} {A B A' B' Qn q p:Nat} {Q:Nat->Nat} {KS:List VaR}
theorem S1.ok_ins (hR:S1.ok l X k0 k1 ⟨i,H,mv,A,B,Q⟩)(hi:i<l.length)(hq:l.getD i 0=q)(hKS:cellsOf X (l.take i)=KS)(hp:j8z (X q) KS=p)(hnot: ¬(p<KS.length/\KS.getD p ⟨0,0⟩=X q))
 (fl:d5i (a3q H') H'=AY) (f0:a1a H' 0=AT (.var [.d k0,.d k1])) (fA0:0<A') (fB0:0<B') (fQ0:0<Qn) (fBA:B'≠A') (fQA:Qn≠A') (fQB:Qn≠B')
 (fA: ∃ce:Nat->List DV,a1a H' A'=AT (.arr 2 (KS.length+1) ce)/\(∀j,j<p->ce j=(KS.getD j ⟨0,0⟩).row)/\ce p=(X q).row/\ ∀j,p<j->j<KS.length+1->ce j=(KS.getD (j-1) ⟨0,0⟩).row)
 (fB: ∃V:List AV,a1a H' B'=AT (.arrv V)/\a3q V=KS.length+1/\(∀j,j<p->a1a V j=AT (.msl (Q j) 1 AR (j7u X (KS.getD j ⟨0,0⟩) (l.take i)).length AG))/\a1a V p=AT (.msl Qn 1 AR 1 AG)/\ ∀j,p<j->j<KS.length+1->a1a V j=AT (.msl (Q (j-1)) 1 AR (j7u X (KS.getD (j-1) ⟨0,0⟩) (l.take i)).length AG))
 (fQ: ∃en:Nat->List DV,a1a H' Qn=AT (.arr 1 1 en)/\en 0=[.int .i64 (.v (q:Int))]) (fK: ∀j,j<KS.length->a1a H' (Q j)=a1a H (Q j)) (fd: ∀j,j<KS.length->Q j≠A'/\Q j≠B'/\Q j≠Qn):
 S1.ok l X k0 k1 ⟨i+1,H',mv',A',B',fun j=>if j<p then Q j else if j=p then Qn else Q (j-1)⟩:=by
 obtain⟨_,_,_,_,_,hQ,hinj,_⟩:=hR;simp only[S1.cs,S1.pt,hKS] at hQ hinj;have hpl:p<=KS.length:=by rw[<-hp];exact k0i
 have hasc:KS.Pairwise vlt:=by rw[<-hKS];exact j8b _ _
 have hin:X q∉KS:=fun h=>hnot (by have:=(k1r hasc).1 h;rwa [hp] at this);have ht:l.take (i+1)=l.take i++[q]:=by rw[j8k hi,hq]
 have hcs:cellsOf X (l.take (i+1))=k1d (X q) KS:=by rw[ht,j8d,hKS]
 have hnot2: ¬(j8z (X q) KS<KS.length/\KS.getD (j8z (X q) KS) ⟨0,0⟩=X q):=by rw[hp];exact hnot
 have hlen:(k1d (X q) KS).length=KS.length+1:=k0y hnot2;have hget:=k3d hnot2;rw[hp] at hget;have hpo: ∀j,j<KS.length->j7u X (KS.getD j ⟨0,0⟩) (l.take (i+1))=j7u X (KS.getD j ⟨0,0⟩) (l.take i):=fun j hj=>by rw[ht,j8i,if_neg fun e=>hin (by rw[e];exact j8e hj)]
 have hpn:j7u X (X q) (l.take (i+1))=[q]:=by
  have e2:j7u X (X q) (l.take i)=[]:=Classical.byContradiction fun h=>by obtain⟨p,hp⟩:=List.exists_mem_of_ne_nil _ h;obtain⟨p1,p2⟩:=j8c.1 hp;exact hin (by rw[<-hKS];exact j7x.2 ⟨p,p1,p2⟩)
  rw[ht,j8i,if_pos rfl,e2];rfl
 obtain⟨ce,a1,a2,a3,a4⟩:=fA;obtain⟨V,b1,b2,b3,b4,b5⟩:=fB;obtain⟨en,c1,c2⟩:=fQ;refine⟨hi,f0,fun h=>absurd h (AD i),fun _=>⟨fA0,ce,?_,fun j hj=> ?_⟩,fun _=>⟨fB0,fBA,V,b1,?_,fun j hj=> ?_⟩,fun j hj=> ?_,fun j j' hj hj' he=> ?_,fl⟩
 ·simp only[S1.cs,hcs,hlen];exact a1
 ·simp only[S1.cs,hcs,hlen] at hj⊢;rw[hget];rcases AP j p with h|h|h
  ·simp only[if_pos h];exact a2 j h
  ·have h1: ¬j<p:=by omega
   simp only[if_neg h1,if_pos h];rw[h];exact a3
  ·have h1: ¬j<p:=by omega
   have h2: ¬j=p:=by omega
   simp only[if_neg h1,if_neg h2];exact a4 j h hj
 ·simp only[S1.cs,hcs,hlen];exact b2
 ·simp only[S1.cs,S1.pt,hcs,hlen] at hj⊢;rw[hget];rcases AP j p with h|h|h
  ·simp only[if_pos h];rw[hpo j (by omega)];exact b3 j h
  ·have h1: ¬j<p:=by omega
   simp only[if_neg h1,if_pos h];rw[hpn,h];exact b4
  ·have h1: ¬j<p:=by omega
   have h2: ¬j=p:=by omega
   simp only[if_neg h1,if_neg h2];rw[hpo (j-1) (by omega)];exact b5 j h hj
 ·simp only[S1.cs,S1.pt,hcs,hlen] at hj⊢;rw[hget];have old: ∀k,k<KS.length->0<Q k/\Q k≠A'/\Q k≠B'/\ ∃ee:Nat->List DV,a1a H' (Q k)=AT (.arr 1 (j7u X (KS.getD k ⟨0,0⟩) (l.take (i+1))).length ee)/\ ∀t,t<(j7u X (KS.getD k ⟨0,0⟩) (l.take (i+1))).length->ee t=[.int .i64 (.v (((j7u X (KS.getD k ⟨0,0⟩) (l.take (i+1))).getD t 0:Nat):Int))]:=fun k hk=>by obtain⟨g1,_,_,ee,g4,g5⟩:=hQ k hk;obtain⟨d1,d2,_⟩:=fd k hk;rw[hpo k hk];exact⟨g1,d1,d2,ee,by rw[fK k hk];exact g4,g5⟩
  rcases AP j p with h|h|h
  ·simp only[if_pos h];exact old j (by omega)
  ·have h1: ¬j<p:=by omega
   simp only[if_neg h1,if_pos h];rw[hpn];refine⟨fQ0,fQA,fQB,en,c1,fun t ht=> ?_⟩;obtain rfl:t=0:=by simpa using ht
   exact c2
  ·have h1: ¬j<p:=by omega
   have h2: ¬j=p:=by omega
   simp only[if_neg h1,if_neg h2];exact old (j-1) (by omega)
 ·simp only[S1.cs,hcs,hlen] at hj hj';simp only at he;rcases AP j p with h|h|h<;>rcases AP j' p with h'|h'|h'
  ·rw[if_pos h,if_pos h'] at he;exact hinj j j' (by omega) (by omega) he
  ·rw[if_pos h,if_neg (by omega),if_pos h'] at he;exact absurd he (fd j (by omega)).2.2
  ·rw[if_pos h,if_neg (by omega),if_neg (by omega)] at he;have:=hinj j (j'-1) (by omega) (by omega) he;omega
  ·rw[if_neg (by omega),if_pos h,if_pos h'] at he;exact absurd he.symm (fd j' (by omega)).2.2
  ·omega
  ·rw[if_neg (by omega),if_pos h,if_neg (by omega),if_neg (by omega)] at he;exact absurd he.symm (fd (j'-1) (by omega)).2.2
  ·rw[if_neg (by omega),if_neg (by omega),if_pos h'] at he;have:=hinj (j-1) j' (by omega) (by omega) he;omega
  ·rw[if_neg (by omega),if_neg (by omega),if_neg (by omega),if_pos h'] at he;exact absurd he (fd (j-1) (by omega)).2.2
  ·rw[if_neg (by omega),if_neg (by omega),if_neg (by omega),if_neg (by omega)] at he;have:=hinj (j-1) (j'-1) (by omega) (by omega) he;omega
theorem S1.ok_upd (hR:S1.ok l X k0 k1 ⟨i,H,mv,A,B,Q⟩)(hi:i<l.length)(hi0:i≠0)(hq:l.getD i 0=q)(hKS:cellsOf X (l.take i)=KS)(hpl:p<KS.length)(hpe:KS.getD p ⟨0,0⟩=X q)
 (fl:d5i (a3q H') H'=AY) (f0:a1a H' 0=AT (.var [.d k0,.d k1])) (fA:a1a H' A=a1a H A)
 (fB: ∃V V':List AV,a1a H B=AT (.arrv V)/\a1a H' B=AT (.arrv V')/\a3q V'=a3q V/\(∀j,j≠p->a1a V' j=a1a V j)/\a1a V' p=AT (.msl (Q p) 1 AR ((j7u X (X q) (l.take i)).length+1) AG))
 (fQ: ∃ee:Nat->List DV,a1a H' (Q p)=AT (.arr 1 ((j7u X (X q) (l.take i)).length+1) ee)/\(∀e0,a1a H (Q p)=AT (.arr 1 (j7u X (X q) (l.take i)).length e0)-> ∀t,t<(j7u X (X q) (l.take i)).length->ee t=e0 t)/\ee (j7u X (X q) (l.take i)).length=[.int .i64 (.v (q:Int))])
 (fK: ∀j,j<KS.length->j≠p->a1a H' (Q j)=a1a H (Q j)):
 S1.ok l X k0 k1 ⟨i+1,H',mv',A,B,Q⟩:=by
 obtain⟨_,_,_,hA,hB,hQ,hinj,_⟩:=hR;simp only[S1.cs,S1.pt,hKS] at hA hB hQ hinj;have hmem:X q∈KS:=by rw[<-hpe];exact j8e hpl
 have hnd:KS.Nodup:=by rw[<-hKS];exact j9u (j8b _ _)
 have ht:l.take (i+1)=l.take i++[q]:=by rw[j8k hi,hq]
 have hcs:cellsOf X (l.take (i+1))=KS:=by rw[ht,j8d,hKS];have h:=(k1r (v:=X q) (cs:=KS) (by rw[<-hKS];exact j8b _ _)).1 hmem;exact k1v h.1 h.2
 have hne: ∀j,j<KS.length->j≠p->X q≠KS.getD j ⟨0,0⟩:=fun j hj hjc e=>by
  rw[<-hpe,AJ,AJ,AM hpl,AM hj] at e;simp only[Al] at e;have hp:=List.pairwise_iff_getElem.1 hnd;rcases AP p j with h|h|h
  ·exact hp p j hpl hj h e
  ·exact hjc h.symm
  ·exact hp j p hj hpl h e.symm
 have hpo: ∀j,j<KS.length->j≠p->j7u X (KS.getD j ⟨0,0⟩) (l.take (i+1))=j7u X (KS.getD j ⟨0,0⟩) (l.take i):=fun j hj hjc=>by rw[ht,j8i,if_neg (hne j hj hjc)]
 have hpn:j7u X (KS.getD p ⟨0,0⟩) (l.take (i+1))=j7u X (X q) (l.take i)++[q]:=by rw[hpe,ht,j8i,if_pos rfl]
 obtain⟨V,V',b1,b2,b3,b4,b5⟩:=fB;obtain⟨ee,c1,c2,c3⟩:=fQ;refine⟨hi,f0,fun h=>absurd h (AD i),fun _=> ?_,fun _=> ?_,fun j hj=> ?_,fun j j' hj hj' he=> ?_,fl⟩
 ·obtain⟨g1,ce,g2,g3⟩:=hA hi0;simp only[S1.cs,hcs];exact⟨g1,ce,by rw[fA];exact g2,g3⟩
 ·obtain⟨g1,g2,V0,g3,g4,g5⟩:=hB hi0;rw[b1] at g3;cases g3;simp only[S1.cs,S1.pt,hcs];refine⟨g1,g2,V',b2,by rw[b3];exact g4,fun j hj=> ?_⟩;by_cases ej:j=p
  ·subst ej;rw[hpn,Am,Ah];exact b5
  ·rw[hpo j hj ej,b4 j ej];exact g5 j hj
 ·simp only[S1.cs,S1.pt,hcs] at hj⊢;obtain⟨g1,g2,g3,e0,g4,g5⟩:=hQ j hj;refine⟨g1,g2,g3,?_⟩;by_cases ej:j=p
  ·subst ej;rw[hpn,Am,Ah];refine⟨ee,c1,fun t ht=> ?_⟩;rw[hpe] at g4 g5;by_cases et:t=(j7u X (X q) (l.take i)).length
   ·subst et;rw[c3,k0a]
   ·rw[c2 e0 g4 t (by omega),g5 t (by omega),k0b (by omega)]
  ·rw[hpo j hj ej,fK j hj ej];exact⟨e0,g4,g5⟩
 ·simp only[S1.cs,hcs] at hj hj';exact hinj j j' hj hj' he
end
theorem k3w {nl T:Nat}(hnl:nl<=4)(hT:T<=1000000){X:Nat->Nat->VaR}{G:Nat->Bool}{l:List Nat}(hl0:l≠[])(hll:l.length<=1000000)(hW: ∀p,p∈l->p<T){look:Nat}(hlook:look<nl):
 a0j Tryz.prog AG 61 [.agg (knC nl T X G),pll l,int look] (.tuple [.d (.sl 2 (cellsOf (X look) l).length fun j=>((cellsOf (X look) l).getD j ⟨0,0⟩).row),
  .d (.sl 1 (cellsOf (X look) l).length fun j=>[.sl 1 (j7u (X look) ((cellsOf (X look) l).getD j ⟨0,0⟩) l).length fun t=>[.int .i64 (.v (((j7u (X look) ((cellsOf (X look) l).getD j ⟨0,0⟩) l).getD t 0:Nat):Int))]])]):=by
 refine a0j.deep ?_;have hW2: ∀j,j<l.length->l.getD j 0<T:=fun j hj=>hW _ (j9r hj);unfold pll knC;obtain⟨W,hWe⟩:=xB fun j:Nat=>l.getD j 0;obtain⟨n,hn⟩:=xA l.length;simp only[hWe,hn] at hW2⊢;have hn6:n<=1000000:=by rw[<-hn];exact hll
 obtain⟨CA,hCA⟩:=xB fun p:Nat=>(X look p).fault;obtain⟨CB,hCB⟩:=xB fun p:Nat=>(X look p).n;obtain⟨gg,hgg⟩: ∃f:Nat->List DV,(fun p=>[DV.bool (G p)])=f:=⟨_,rfl⟩;obtain⟨xx,hxx⟩: ∃f:Nat->List DV,(fun i=>[DV.sl 2 T fun p=>(X i p).row])=f:=⟨_,rfl⟩;have hxl:xx look=[.sl 2 T fun p=>[.int .u8 (.v (CA p)),.int .i64 (.v (CB p))]]:=by rw[<-hxx];simp only[VaR.row,hCA,hCB]
 rw[hgg,hxx];refine h3w AS okP k4v rfl fun E Sg hbs hS Fk hFk=> ?_;have e:=b2k hS;have en: ∀k:Nat,nat Sg (IX.v (AE k))=k:=fun k=>by show Sg.toNat (AE k)=k;rw[e.toNat];rfl
 have etn: ∀k:Nat,Sg.toNat (AE k)=k:=fun k=>by rw[e.toNat];rfl
 cbv;refine e4p AS okP hS (σ:=S1) (fun s=>s.ok l (X look) (.sl 1 nl xx) (.sl 1 T gg)) (fun s=>n-s.i)
  (fun s=>⟨b5r [(1,isl n fun j=>(W j:Int)),(2,int look),(3,.ptr 0 0),(8,s.T8 (X look) l),(9,s.T9 (X look) l),(10,int s.i)] 94,s.H,s.mv⟩) ⟨0,[.var [.d (.sl 1 nl xx),.d (.sl 1 T gg)]],[],0,0,fun _=>0⟩ ?_ ?_ ?_
 ·exact⟨Aj _,rfl,fun _=>rfl,fun h=>absurd rfl h,fun h=>absurd rfl h,fun j hj=>absurd hj (AF j),fun j j' hj=>absurd hj (AF j),rfl⟩
 ·exact b4w.le (a4c rfl ⟨AA _,AA _,AA _,AA _,AA _,a6c rfl,trivial⟩ (.same _) (by rw[hbs];simp) (.inr rfl) rfl)
 rintro⟨i,H,mv,A,B,Q⟩ hR N hN;by_cases hi0:i=0
 ·subst hi0;have hH:=hR.h0 rfl;simp only at hH;subst hH;simp only[S1.T8,S1.T9,if_pos];cbv;split
  rotate_left
  ·rename_i h;exact absurd (d3c hS h) (by have:=List.length_pos_iff.2 hl0;omega)
  rename_i h;have hlt:0<n:=d3r hS h;have hw0:=hW2 0 hlt;have hc1:(cellsOf (X look) (l.take 1)).length=1:=by rw[j8k (i:=0) (by rw[hn];exact hlt)];rfl
  have el1:Sg.ilt (AE 0) 0=AG:=by rw[e.ilt];rfl
  have eq1:Sg.ieq (AE 0) 0=AY:=by rw[e.ieq];rfl
  cbv;simp only[en,hxl];refine a1g hS (a5p hS hlt) (a1g hS (a5p hS hlook) ?_);cbv;simp only[en];refine a1g hS (a5p hS hw0) ?_;cbv;refine i5z AS okP hS 1 ?_;cbv;simp only[el1];cbv;simp only[e.nadd,AB,AH]
  repeat (first|refine a1g hS trivial ?_|refine a1g hS rfl ?_|refine a1g hS (c3d hS) ?_|refine a1g hS (e8l hS (by decide)) ?_|refine a1g hS (a5p hS hlt) ?_|refine a1g hS (a5p hS (show 0<1 by decide)) ?_|refine a1g hS (i2h hS (by decide)) ?_|refine a1g hS (e1n hS (by decide)) ?_)
  refine hN ⟨1,_,_,2,3,fun j=>if j<0 then Q j else if j=0 then 4 else Q (j-1)⟩ _ (S1.ok_ins (q:=W 0) (p:=0) (Qn:=4) (KS:=[]) hR (by rw[hn];exact hlt) (hWe 0) rfl rfl (by simp) rfl rfl (by decide) (by decide) (by decide) (by decide) (by decide) (by decide)
   ⟨_,rfl,fun j hj=>absurd hj (AF j),?_,fun j h1 h2=>by simp at h2;omega⟩ ⟨_,rfl,rfl,fun j hj=>absurd hj (AF j),rfl,fun j h1 h2=>by simp at h2;omega⟩ ⟨_,rfl,?_⟩ (fun j hj=>absurd hj (AF j)) (fun j hj=>absurd hj (AF j))) (by simp only;omega)
   (b4w.le (a4c rfl ⟨AA _,AA _,AA _,?_,?_,b2s hS,trivial⟩ (.same _) (by rw[hbs];simp) (.inr rfl) (j7y _)))
  ·simp only[e.app];rw[VaR.row,hCA,hCB];rfl
  ·rw[en];rfl
  ·show a0x (.msl 2 2 AR 1 AG) (S1.T8 (X look) l _);rw[S1.T8,if_neg (AD 0)];simp only[S1.cs,hc1];exact AA _
  ·show a0x (.msl 3 1 AR 1 AG) (S1.T9 (X look) l _);rw[S1.T9,if_neg (AD 0)];simp only[S1.cs,hc1];exact AA _
 ·have hR0:=hR;obtain⟨hi,hk,_,hA,hB,hQ,hinj,hlow⟩:=hR0;simp only[S1.cs,S1.pt] at hi hk hA hB hQ hinj hlow;obtain⟨hA0,CE,hA,hCE⟩:=hA hi0;obtain⟨hB0,hBA,V,hB,hVl,hVg⟩:=hB hi0;obtain⟨KS,hKS⟩:=xA (cellsOf (X look) (l.take i));simp only[S1.T8,S1.T9,if_neg hi0,S1.cs];rw[hKS] at hA hCE hVl hVg hQ hinj⊢;obtain⟨m,hm⟩:=xA KS.length;rw[hm] at hA hCE hVl hVg hQ hinj⊢;obtain⟨M,hMN⟩:=xA (a3q H);cbv;split
  rotate_left
  ·rename_i h;have hin:i=n:=by have:=d3c hS h;omega
   have htk:l.take i=l:=by rw[hin,<-hn,List.take_length]
   rw[htk] at hKS hVg hQ;rw[hKS] at hFk;cbv;refine⟨[],fun _ h _=>absurd h (AF _),hFk (a4k.same _) (AA _) (Aj _) (.inr rfl) (.inr ⟨A,B,V,Q,CE,?_,?_,fun j hj=>hCE j (by rw[<-hm];exact hj),hB,?_,fun j hj=> ?_⟩)⟩
   ·rw[hm];rfl
   ·rw[hm];exact hA
   ·rw[hm,<-a0u];exact hVl
   ·rw[hm] at hj;obtain⟨_,_,_,ee,g4,g5⟩:=hQ j hj;exact⟨by rw[<-a0i];exact hVg j hj,ee,g4,g5⟩
  rename_i h;have hlt:i<n:=d3r hS h;have hwi:=hW2 i hlt;have hM0:0<M:=by rw[<-hMN];exact j8l hk
  have hAM:A<M:=by rw[<-hMN];exact j8l hA
  have hBM:B<M:=by rw[<-hMN];exact j8l hB
  have hL0: ∀X,a1a (a2u H X) M=a1a X 0:=fun X=>by rw[<-hMN];exact j9i H X
  have hL1: ∀X,a1a (a2u H X) (M+1)=a1a X 1:=fun X=>by rw[<-hMN];exact j9x H X
  have hS0: ∀X x,a2x (a2u H X) M x=a2u H (a2x X 0 x):=fun X x=>by rw[<-hMN];exact j9j H X x
  have hS1: ∀X x,a2x (a2u H X) (M+1) x=a2u H (a2x X 1 x):=fun X x=>by rw[<-hMN];exact j9z H X x
  rw[hMN] at hlow;have hF: ∀x,M<=x->a2n x AG H=H:=fun x hx=>k0g hx hlow;have hF1:=hF (M+1) (by omega);have hF2:=hF (M+2) (by omega);have hF3:=hF (M+3) (by omega);have hVlow:Ai M V=AY:=by have:=c1k hlow (by rw[<-a0i];exact hB);simpa only[a0f.low] using this
  have hL2: ∀X,a1a (a2u H X) (M+2)=a1a X 2:=fun X=>j9k hMN X;have hL3: ∀X,a1a (a2u H X) (M+3)=a1a X 3:=fun X=>by rw[<-hMN,j8n (by omega),Nat.add_sub_cancel_left]
  have hS2: ∀X x,a2x (a2u H X) (M+2) x=a2u H (a2x X 2 x):=fun X x=>by rw[<-hMN];exact k2g H X x
  have hS3: ∀X x,a2x (a2u H X) (M+3) x=a2u H (a2x X 3 x):=fun X x=>by rw[<-hMN];exact k1x H X x
  have hLk:=fun X=>j7r (m:=X) hk;have hLA:=fun X=>j7r (m:=X) hA;have hLB:=fun X=>j7r (m:=X) hB;cbv;simp only[j7f,j7i,j7k,j7h,j7e,j7d,j7j,j7g,j7o,hMN,hL0,hL1,hS0,hS1,hLk,hLA,hLB,j7n,a2u,a2x,a1a];refine a1g hS (a5p hS hlt) ?_;simp (disch:=omega) only[j7t,j7q,AK,↓reduceIte];cbv;simp only[j7f,j7i,j7k,j7h,j7e,j7d,j7j,j7g,j7o,hMN,hL0,hL1,hS0,hS1,hLk,hLA,hLB,j7n,a2u,a2x,a1a,en,etn,hxl];cbv;simp only[j7f,j7i,j7k,j7h,j7e,j7d,j7j,j7g,j7o,hMN,hL0,hL1,hS0,hS1,hLk,hLA,hLB,j7n,a2u,a2x,a1a,en,etn,hxl];refine a1g hS (a5p hS hlook) ?_
  try simp (disch:=omega) only[j7t,j7q,AK,↓reduceIte]
  cbv;simp only[j7f,j7i,j7k,j7h,j7e,j7d,j7j,j7g,j7o,hMN,hL0,hL1,hS0,hS1,hLk,hLA,hLB,j7n,a2u,a2x,a1a,en,etn,hxl];refine a1g hS (a5p hS hwi) ?_;cbv;simp only[j7f,j7i,j7k,j7h,j7e,j7d,j7j,j7g,j7o,hMN,hL0,hL1,hS0,hS1,hLk,hLA,hLB,j7n,a2u,a2x,a1a,en,etn,hxl];obtain⟨KA,hKA⟩: ∃f:Nat->Int,∀j,(KS.getD j ⟨0,0⟩).fault=f j:=⟨fun j=>_,fun _=>rfl⟩;obtain⟨KB,hKB⟩: ∃f:Nat->Int,∀j,(KS.getD j ⟨0,0⟩).n=f j:=⟨fun j=>_,fun _=>rfl⟩;have hCE2: ∀j,j<m->CE j=[.int .u8 (.v (KA j)),.int .i64 (.v (KB j))]:=fun j hj=>by rw[hCE j hj,VaR.row,hKA,hKB]
  obtain⟨zl,hzl⟩: ∃f:Nat->Bool,∀j,f j=AY↔vlt (KS.getD j ⟨0,0⟩) (X look (W i)):=by classical exact⟨fun j=>decide _,fun j=>decide_eq_true_iff⟩
  have h79:=fun j=>e2y (KS.getD j ⟨0,0⟩) (X look (W i)) (zl j) (hzl j);simp only[VaR.av,hKA,hKB,hCA,hCB] at h79;obtain⟨vf,hvf⟩:=xA (CA (W i));obtain⟨vn,hvn⟩:=xA (CB (W i));simp only[hvf,hvn] at h79⊢;have hm6:m<=1000000:=by rw[<-hm,<-hKS];refine At (j9v _ _) ?_;rw[Ap];omega
  refine a7r AS okP hS (fun a=>a<=m/\ ∀j,j<a->zl j=AY) (fun a=>m-a)
   (fun a=>⟨b5r [(1,isl n fun j=>(W j:Int)),(2,int look),(3,.ptr 0 0),(8,.msl A 2 AR m AG),(9,.msl B 1 AR m AG),(10,int i),(11,.ptr M 0),(12,int a)] 94,a2u H [.var [u8 vf,int vn]],mv⟩) 0 ⟨Aj _,fun j hj=>absurd hj (AF j)⟩ ?_ ?_
  ·exact a4c rfl ⟨AA _,AA _,AA _,AA _,AA _,AA _,AA _,a6c rfl,trivial⟩ (.same _) (by rw[hbs];simp) (.inr rfl) (j7y _)
  intro a ⟨ha,hza⟩ N2 hN2;cbv;simp only[j7f,j7i,j7k,j7h,j7e,j7d,j7j,j7g,j7o,hMN,hL0,hL1,hS0,hS1,hLk,hLA,hLB,j7n,a2u,a2x,a1a,en,etn,hxl];split
  ·rename_i h;have hal:a<m:=d3r hS h;cbv;simp only[j7f,j7i,j7k,j7h,j7e,j7d,j7j,j7g,j7o,hMN,hL0,hL1,hS0,hS1,hLk,hLA,hLB,j7n,a2u,a2x,a1a,en,etn,hxl,hCE2 a hal];refine a1g hS (a5p hS hal) ?_;cbv;simp only[j7f,j7i,j7k,j7h,j7e,j7d,j7j,j7g,j7o,hMN,hL0,hL1,hS0,hS1,hLk,hLA,hLB,j7n,a2u,a2x,a1a,en,etn,hxl,hCE2 a hal];refine a1g hS (i2h hS hal) ?_;cbv;simp only[j7f,j7i,j7k,j7h,j7e,j7d,j7j,j7g,j7o,hMN,hL0,hL1,hS0,hS1,hLk,hLA,hLB,j7n,a2u,a2x,a1a,en,etn,hxl,hCE2 a hal];refine a0v hS _ (h79 a) ?_;obtain⟨zz,hzz⟩:=xA (zl a);rw[hzz];cases zz
   ·have hb:Sg.ieq (AE a) (Sg.ofNat m)=AG:=j6f hS (by omega);have hbn: ∀q,(!(KA a==vf&&(KB a==vn&&AY)))=q->Sg.bnot (Sg.band (Sg.ieq (KA a) vf) (Sg.band (Sg.ieq (KB a) vn) AY))=q:=fun q hq=>by rw[<-hq,e.bnot,e.band,e.band,e.ieq,e.ieq]
    have heq:(!(KA a==vf&&(KB a==vn&&AY)))=AG↔KS.getD a ⟨0,0⟩=X look (W i):=by
     rw[<-hKA,<-hKB,<-hvf,<-hvn,<-hCA,<-hCB];constructor
     ·intro h;simp only[Ae,Bool.not_eq_false',Ab,beq_iff_eq] at h;cases h1:KS.getD a ⟨0,0⟩;cases h2:X look (W i);rw[h1,h2] at h;simp only at h;rw[h.1,h.2]
     ·intro h;rw[h];simp
    cbv;simp only[j7f,j7i,j7k,j7h,j7e,j7d,j7j,j7g,j7o,hMN,hL0,hL1,hL2,hL3,hS0,hS1,hS2,hS3,hF1,hF2,hF3,j7m,j7l,a3q,AB,AH,AC,AI,hLk,hLA,hLB,j7n,a2u,a2x,a1a,en,etn,hxl,hb];cbv;simp only[j7f,j7i,j7k,j7h,j7e,j7d,j7j,j7g,j7o,hMN,hL0,hL1,hL2,hL3,hS0,hS1,hS2,hS3,hF1,hF2,hF3,j7m,j7l,a3q,AB,AH,AC,AI,hLk,hLA,hLB,j7n,a2u,a2x,a1a,en,etn,hxl,hCE2 a hal];refine a1g hS (a5p hS hal) ?_;cbv;simp only[j7f,j7i,j7k,j7h,j7e,j7d,j7j,j7g,j7o,hMN,hL0,hL1,hL2,hL3,hS0,hS1,hS2,hS3,hF1,hF2,hF3,j7m,j7l,a3q,AB,AH,AC,AI,hLk,hLA,hLB,j7n,a2u,a2x,a1a,en,etn,hxl,hCE2 a hal];refine a1g hS (i2h hS hal) ?_;cbv;simp only[j7f,j7i,j7k,j7h,j7e,j7d,j7j,j7g,j7o,hMN,hL0,hL1,hL2,hL3,hS0,hS1,hS2,hS3,hF1,hF2,hF3,j7m,j7l,a3q,AB,AH,AC,AI,hLk,hLA,hLB,j7n,a2u,a2x,a1a,en,etn,hxl,hCE2 a hal];obtain⟨qq,hqq⟩:=xA (!(KA a==vf&&(KB a==vn&&AY)));simp only[hbn qq hqq];rw[hqq] at heq;have hps:j8z (X look (W i)) KS=a:=k1l (by omega) (fun j hj=>(hzl j).1 (hza j hj)) (fun _ h=>by rw[(hzl a).2 h] at hzz;cases hzz);cases qq
    ·have hke:=heq.1 rfl;cbv;obtain⟨Qa,hQae⟩:=xA (Q a);obtain⟨ca,hca⟩:=xA ((j7u (X look) (KS.getD a ⟨0,0⟩) (l.take i)).length);have hVa:a1a V a=AT (.msl Qa 1 AR ca AG):=by rw[hVg a hal,hQae,hca]
     obtain⟨hQ1,hQ2,hQ3,ee,hQ4,_⟩:=hQ a hal;rw[hQae,hca] at hQ4;rw[hQae] at hQ1 hQ2 hQ3;have hQM:Qa<M:=by rw[<-hMN];exact j8l hQ4
     have hLQ:=fun X=>j7r (m:=X) hQ4;have hSQ: ∀X x,a2x (a2u H X) Qa x=a2u (a2x H Qa x) X:=fun X x=>j8j (by omega);have hca6:ca<=1000000:=by rw[<-hca];refine At (List.length_filter_le _ _) ?_;rw[Ap];omega
     obtain⟨c1,hc1⟩:=xA (ca+1);have hna1:Sg.nadd ca 1=c1:=by rw[e.nadd,hc1]
     iterate 6
      cbv
      try simp only[j7f,j7i,j7k,j7h,j7e,j7d,j7j,j7g,j7o,hMN,hL0,hL1,hL2,hL3,hS0,hS1,hS2,hS3,hF1,hF2,hF3,j7m,j7l,a3q,AB,AH,AC,AI,hLk,hLA,hLB,j7n,a2u,a2x,a1a,en,etn,hxl,hVa,hSQ,hLQ,hna1]
      try simp (disch:=omega) only[a7a,a4g,a1u,a6n,a3u,e4t,a1c.uses,b2h,IOp.opds,a9t,AU,AQ,AX,AZ,a1a,j7t,j7q,AK,↓reduceIte]
      repeat (first|refine a1g hS trivial ?_|refine a1g hS (c3d hS) ?_|refine a1g hS (e8l hS (by omega)) ?_|refine a1g hS (i2h hS (by omega)) ?_|refine a1g hS (a5p hS (by omega)) ?_|refine a1g hS rfl ?_)
     obtain⟨H1,hH1⟩:=xA (a2n Qa AG (a2x H Qa (.arr 1 c1 (Sg.app ca ee (Aa [[.int .i64 (.v (AE (W i)))]])))));simp only[hH1];have h1M:a3q H1=M:=by rw[<-hH1,j9b,j8f,hMN]
     obtain⟨V1,hV1⟩:=xA (AO Qa AG V);have h1B:a1a H1 B=AT (.arrv V1):=by rw[<-hH1,j8a (by rw[j7w hQ3];exact hB)];simp only[a0f.forget,hV1]
     have h1LB:=fun X=>j7r (m:=X) h1B;have h1SB: ∀X x,a2x (a2u H1 X) B x=a2u (a2x H1 B x) X:=fun X x=>j8j (by omega);have hV1l:a3q V1=m:=by rw[<-hV1,j8v];exact hVl
     iterate 4
      cbv
      try simp only[j7f,j7i,j7k,j7h,j7e,j7d,j7j,j7g,j7o,hMN,hL0,hL1,hL2,hL3,hS0,hS1,hS2,hS3,hF1,hF2,hF3,j7m,j7l,a3q,AB,AH,AC,AI,hLk,hLA,hLB,j7n,a2u,a2x,a1a,en,etn,hxl,hVa,hSQ,hLQ,hna1,h1LB,h1SB,h1M,hV1l]
      try simp (disch:=omega) only[a7a,a4g,a1u,a6n,a3u,e4t,a1c.uses,b2h,IOp.opds,a9t,AU,AQ,AX,AZ,a1a,j7t,j7q,AK,↓reduceIte]
      repeat (first|refine a1g hS trivial ?_|refine a1g hS (c3d hS) ?_|refine a1g hS (e8l hS (by omega)) ?_|refine a1g hS (i2h hS (by omega)) ?_|refine a1g hS (a5p hS (by omega)) ?_|refine a1g hS rfl ?_)
     refine a1g hS (e1n hS (by omega)) ?_;have hcl:(cellsOf (X look) (l.take (i+1))).length=m:=by rw[j8k (by omega),hWe,j8d,hKS,k1v (by rw[hps];omega) (by rw[hps];exact hke),hm]
     have hca2:(j7u (X look) (X look (W i)) (l.take i)).length=ca:=by rw[<-hke];exact hca
     have ho: ∀x o,x≠Qa->x≠B->a1a H x=AT o->o.forget Qa AG=o->a1a (a2u (a2x H1 B (.arrv (a2x V1 a (.msl Qa 1 AR c1 AG)))) [.var [.d (.int .u8 (.v vf)),.d (.int .i64 (.v vn))]]) x=AT o:=fun x o h1 h2 h3 h4=>by refine j7r ((j7w (Ad h2)).trans ?_);rw[<-hH1,j8a ((j7w (Ad h1)).trans h3),h4]
     have hupd:=S1.ok_upd (H':=a2u (a2x H1 B (.arrv (a2x V1 a (.msl Qa 1 AR c1 AG)))) [.var [.d (.int .u8 (.v vf)),.d (.int .i64 (.v vn))]]) (mv':=Qa::mv) (q:=W i) (p:=a) hR (by omega) hi0 (hWe i) hKS (by omega) hke ?_ (ho 0 _ (by omega) (by omega) hk rfl) ((ho A _ (Ad hQ2) (Ad hBA) hA rfl).trans hA.symm)
      ⟨V,a2x V1 a (.msl Qa 1 AR c1 AG),hB,j7r (j7z (by omega)),by rw[j8f,hV1l,hVl],fun j hj=> ?_,?_⟩ ⟨Sg.app ca ee (Aa [[.int .i64 (.v (AE (W i)))]]),?_,fun e0 he0 t ht=> ?_,?_⟩ (fun j hj hja=> ?_)
     ·refine hN _ _ hupd (by simp only;omega) (b4w.le (a4c rfl ⟨AA _,AA _,AA _,?_,?_,b2s hS,trivial⟩ (.same _) (by rw[hbs];simp) (.inr rfl) (j7y _)))
      ·show a0x (.msl A 2 AR m AG) (S1.T8 (X look) l _);rw[S1.T8,if_neg (AD i)];simp only[S1.cs,hcl];exact AA _
      ·show a0x (.msl B 1 AR m AG) (S1.T9 (X look) l _);rw[S1.T9,if_neg (AD i)];simp only[S1.cs,hcl];exact AA _
     ·rw[j7l,j8f,h1M];change d5i (M+1) _=AY;refine j9q (k0q ?_ (j9s (n:=M) (by omega) (by rw[<-hH1];exact k0e (k0q rfl hlow)))) rfl;simp only[a0f.low];refine k1b (by simp only[Aq,An];omega) (AW (n:=M) (by omega) V1 (by rw[<-hV1];exact AV.lowL_forget V hVlow))
     ·rw[j7w (Ad hj),<-hV1,a0i,j9n,<-a0i];by_cases hjm:j<m
      ·rw[hVg j hjm];have hne:Qa≠Q j:=fun h=>hj (hinj j a hjm hal (by rw[<-h,hQae]));simp only[Option.map_some,Ar,AK,if_false,j7t hne]
      ·have:a1a V j=AR:=by rw[a0i];exact List.getElem?_eq_none (by rw[<-a0u];omega)
       rw[this];rfl
     ·rw[j7z (by omega),hQae,hca2,hc1]
     ·rw[hQae,hca2,hc1];refine j7r ((j7w (Ad hQ3)).trans ?_);rw[<-hH1,j8a (j7z (by omega))];rfl
     ·rw[hca2] at ht he0;rw[hQae,hQ4] at he0;cases he0;simp only[e.app,if_pos ht]
     ·rw[hca2];simp only[e.app,if_neg (Af ca),Ag];rfl
     ·have hjm:j<m:=by omega
      obtain⟨_,_,g3,eo,g4,_⟩:=hQ j hjm;exact (ho (Q j) _ (fun h=>hja (hinj j a hjm hal (by rw[h,hQae]))) g3 g4 rfl).trans g4.symm
    ·have hnew: ¬(a<KS.length/\KS.getD a ⟨0,0⟩=X look (W i)):=fun h=>by have:=heq.2 h.2;cases this
     have hp00:Sg.pile 0 0:=i0n hS (Ac _);have hp0a:Sg.pile 0 (AE a):=i0n hS (Ao a);have hpam:Sg.pile (AE a) (Sg.ofNat m):=i0n hS (by rw[e.ofNat];exact Au.2 (by omega));have hpmm:Sg.pile (Sg.ofNat m) (Sg.ofNat m):=i0n hS (Ac _);cbv;obtain⟨m2,hm2⟩:=xA (m-a);obtain⟨C1,hC1,hC1l,hC1g⟩:=j9t (l:=V) (i:=0) (n:=a) (by omega);obtain⟨C2,hC2,hC2l,hC2g⟩:=j9t (l:=V) (i:=a) (n:=m2) (by omega);have etm2:Sg.toNat (Sg.ofNat m)=m:=by rw[e.ofNat,e.toNat];rfl
     have etm:nat Sg (IX.v (Sg.ofNat m))=m:=etm2;have hns0: ∀x,Sg.nsub x 0=x:=fun x=>by rw[e.nsub];rfl
     have hns1:Sg.nsub m a=m2:=by rw[e.nsub,hm2]
     obtain⟨a1,ha1⟩:=xA (a+1);obtain⟨m1,hm1⟩:=xA (m+1);have hna0: ∀x,Sg.nadd 0 x=x:=fun x=>by rw[e.nadd,AB]
     have hna1:Sg.nadd a 1=a1:=by rw[e.nadd,ha1]
     have hna2:Sg.nadd a1 m2=m1:=by rw[e.nadd];omega
     have hna3:Sg.nadd a m2=m:=by rw[e.nadd];omega
     have hna4:a+1=a1:=ha1;have hna5:a1+m2=m1:=by omega
     have hC1f:AO (M+2) AG C1=C1:=AN (by omega) C1 (j8g hVlow hC1);have hC2f:AO (M+2) AG C2=C2:=AN (by omega) C2 (j8g hVlow hC2);have hC1f3:AO (M+1) AG C1=C1:=AN (by omega) C1 (j8g hVlow hC1);have hC2f3:AO (M+1) AG C2=C2:=AN (by omega) C2 (j8g hVlow hC2);have hMM1:M+1+1=M+2:=rfl;have hMM2:M+2+1=M+3:=rfl;have hLa: ∀X,a1a (a2u C1 X) a=a1a X 0:=fun X=>j8t hC1l X;have hSa: ∀X x,a2x (a2u C1 X) a x=a2u C1 (a2x X 0 x):=fun X x=>j9h hC1l X x;have hof1:=(b5z.eq_def C1).symm;have hof2:=(b5z.eq_def C2).symm;have hon1:b5z C1=AY:=j8u fun j hj=>⟨_,(hC1g j (by omega)).trans (hVg _ (by omega)),rfl⟩;have hon2:b5z C2=AY:=j8u fun j hj=>⟨_,(hC2g j (by omega)).trans (hVg _ (by omega)),rfl⟩
     iterate 23
      cbv
      try simp only[j7f,j7i,j7k,j7h,j7e,j7d,j7j,j7g,j7o,hMN,hL0,hL1,hL2,hL3,hS0,hS1,hS2,hS3,hF1,hF2,hF3,j7m,j7l,a3q,AB,AH,AC,AI,hLk,hLA,hLB,j7n,a2u,a2x,a1a,en,etn,hxl,hC1,hC2,hns0,hns1,etm,etm2,hna0,hna1,hna2,hna3,hna4,hna5,hC1l,hC2l,hof1,hof2,hMM1,hMM2,hLa,hSa,AO,Ar,j7p,hC1f,hC2f,hC1f3,hC2f3]
      try simp (disch:=omega) only[a7a,a4g,a1u,a6n,a3u,e4t,a1c.uses,b2h,IOp.opds,a9t,AU,AQ,AX,AZ,a1a,j7t,j7q,AK,↓reduceIte]
      repeat (first|refine a1g hS trivial ?_|refine a1g hS (c3d hS) ?_|refine a1g hS (e8l hS (by omega)) ?_|refine a1g hS (i2h hS (by omega)) ?_|refine a1g hS (a5p hS (by omega)) ?_|refine a1g hS hp00 ?_|refine a1g hS hp0a ?_|refine a1g hS hpam ?_|refine a1g hS hpmm ?_|refine a1g hS rfl ?_|refine a1g hS hon1 ?_|refine a1g hS hon2 ?_)
     refine a1g hS (e1n hS (by omega)) ?_;have hcl:(cellsOf (X look) (l.take (i+1))).length=m1:=by rw[j8k (by omega),hWe,j8d,hKS,k0y (by rw[hps];exact hnew),hm,hm1]
     have hQM: ∀j,j<m->Q j<M:=fun j hj=>by obtain⟨_,_,_,ee,g4,_⟩:=hQ j hj;rw[<-hMN];exact j8l g4
     have hin:=S1.ok_ins (H':=a2u H [.var [.d (.int .u8 (.v vf)),.d (.int .i64 (.v vn))],.arr 2 m1 (Sg.app a1 (Sg.app a (Sg.app 0 (fun _=>[]) CE) (Aa [[.int .u8 (.v vf),.int .i64 (.v vn)]])) (Sg.shift CE a)),.arrv (a2u C1 (.msl (M+3) 1 AR 1 AG::C2)),.arr 1 1 (Aa [[.int .i64 (.v (AE (W i)))]])]) (mv':=(M+2)::(M+2)::(M+2)::(M+1)::(M+1)::(M+1)::mv) (A':=M+1) (B':=M+2) (Qn:=M+3) (q:=W i) (p:=a) hR (by omega) (hWe i) hKS hps hnew ?_ (j7r hk) (by omega) (by omega) (by omega) (by omega) (by omega) (by omega)
      ⟨_,by rw[hL1,hm,hm1];rfl,fun j hj=> ?_,?_,fun j h1 h2=> ?_⟩ ⟨_,(hL2 _).trans rfl,?_,fun j hj=> ?_,?_,fun j h1 h2=> ?_⟩ ⟨_,(hL3 _).trans rfl,rfl⟩ (fun j hj=>j8s (by have:=hQM j (by omega);omega)) (fun j hj=>by have:=hQM j (by omega);omega)
     ·refine hN _ _ hin (by simp only;omega) (b4w.le (a4c rfl ⟨AA _,AA _,AA _,?_,?_,b2s hS,trivial⟩ (.same _) (by rw[hbs];simp) (.inr rfl) (j7y _)))
      ·show a0x (.msl (M+1) 2 AR m1 AG) (S1.T8 (X look) l _);rw[S1.T8,if_neg (AD i)];simp only[S1.cs,hcl];exact AA _
      ·show a0x (.msl (M+2) 1 AR m1 AG) (S1.T9 (X look) l _);rw[S1.T9,if_neg (AD i)];simp only[S1.cs,hcl];exact AA _
     ·rw[j7l,hMN];refine j9q (j9s (by omega) hlow) ?_;simp only[d5i,a0f.low,Ai,Aq,Ae,As,a3q,AB];refine k0o (AW (by omega) C1 (j8g hVlow hC1)) ?_;simp only[Ai,Aq,Ab,An];exact⟨by omega,AW (by omega) C2 (j8g hVlow hC2)⟩
     ·simp only[e.app];rw[if_pos (by omega),if_pos hj,if_neg (AF j)];exact hCE j (by omega)
     ·simp only[e.app];rw[if_pos (by omega),if_neg (Af a),Ag,VaR.row,hCA,hCB,hvf,hvn];rfl
     ·simp only[e.app,e.shift];rw[if_neg (by omega),show a+(j-a1)=j-1 by omega];exact hCE (j-1) (by omega)
     ·simp only[j7l,a3q];omega
     ·rw[j8s (by omega),hC1g j hj,AB,hVg j (by omega)]
     ·rw[hLa];rfl
     ·rw[j8n (by omega),hC1l,show j-a=(j-a-1)+1 by omega];show a1a C2 (j-a-1)=_;rw[hC2g _ (by omega),show a+(j-a-1)=j-1 by omega,hVg _ (by omega)]
   ·cbv;simp only[j7f,j7i,j7k,j7h,j7e,j7d,j7j,j7g,j7o,hMN,hL0,hL1,hL2,hL3,hS0,hS1,hS2,hS3,hF1,hF2,hF3,j7m,j7l,a3q,AB,AH,AC,AI,hLk,hLA,hLB,j7n,a2u,a2x,a1a,en,etn,hxl];refine a1g hS (e1n hS (by omega)) ?_;refine hN2 (a+1) _ ⟨hal,fun j hj=> ?_⟩ (by omega) (a4c rfl ⟨AA _,AA _,AA _,AA _,AA _,AA _,AA _,b2s hS,trivial⟩ (.same _) (by rw[hbs];simp) (.inr rfl) (j7y _));by_cases ej:j=a
    ·rw[ej];exact hzz
    ·exact hza j (by omega)
  ·rename_i h;have ham:a=m:=by have:=d3c hS h;omega
   have hb:Sg.ieq (AE a) (Sg.ofNat m)=AY:=j6i hS ham;have hps:j8z (X look (W i)) KS=a:=k1l (by omega) (fun j hj=>(hzl j).1 (hza j hj)) (fun h=>by omega);have hnew: ¬(a<KS.length/\KS.getD a ⟨0,0⟩=X look (W i)):=fun h=>by omega
   cbv;simp only[j7f,j7i,j7k,j7h,j7e,j7d,j7j,j7g,j7o,hMN,hL0,hL1,hL2,hL3,hS0,hS1,hS2,hS3,hF1,hF2,hF3,j7m,j7l,a3q,AB,AH,AC,AI,hLk,hLA,hLB,j7n,a2u,a2x,a1a,en,etn,hxl,hb];have hp00:Sg.pile 0 0:=i0n hS (Ac _);have hp0a:Sg.pile 0 (AE a):=i0n hS (Ao a);have hpam:Sg.pile (AE a) (Sg.ofNat m):=i0n hS (by rw[e.ofNat];exact Au.2 (by omega));have hpmm:Sg.pile (Sg.ofNat m) (Sg.ofNat m):=i0n hS (Ac _);cbv;obtain⟨m2,hm2⟩:=xA (m-a);obtain⟨C1,hC1,hC1l,hC1g⟩:=j9t (l:=V) (i:=0) (n:=a) (by omega);obtain⟨C2,hC2,hC2l,hC2g⟩:=j9t (l:=V) (i:=a) (n:=m2) (by omega);have etm2:Sg.toNat (Sg.ofNat m)=m:=by rw[e.ofNat,e.toNat];rfl
   have etm:nat Sg (IX.v (Sg.ofNat m))=m:=etm2;have hns0: ∀x,Sg.nsub x 0=x:=fun x=>by rw[e.nsub];rfl
   have hns1:Sg.nsub m a=m2:=by rw[e.nsub,hm2]
   obtain⟨a1,ha1⟩:=xA (a+1);obtain⟨m1,hm1⟩:=xA (m+1);have hna0: ∀x,Sg.nadd 0 x=x:=fun x=>by rw[e.nadd,AB]
   have hna1:Sg.nadd a 1=a1:=by rw[e.nadd,ha1]
   have hna2:Sg.nadd a1 m2=m1:=by rw[e.nadd];omega
   have hna3:Sg.nadd a m2=m:=by rw[e.nadd];omega
   have hna4:a+1=a1:=ha1;have hna5:a1+m2=m1:=by omega
   have hC1f:AO (M+2) AG C1=C1:=AN (by omega) C1 (j8g hVlow hC1);have hC2f:AO (M+2) AG C2=C2:=AN (by omega) C2 (j8g hVlow hC2);have hC1f3:AO (M+1) AG C1=C1:=AN (by omega) C1 (j8g hVlow hC1);have hC2f3:AO (M+1) AG C2=C2:=AN (by omega) C2 (j8g hVlow hC2);have hMM1:M+1+1=M+2:=rfl;have hMM2:M+2+1=M+3:=rfl;have hLa: ∀X,a1a (a2u C1 X) a=a1a X 0:=fun X=>j8t hC1l X;have hSa: ∀X x,a2x (a2u C1 X) a x=a2u C1 (a2x X 0 x):=fun X x=>j9h hC1l X x;have hof1:=(b5z.eq_def C1).symm;have hof2:=(b5z.eq_def C2).symm;have hon1:b5z C1=AY:=j8u fun j hj=>⟨_,(hC1g j (by omega)).trans (hVg _ (by omega)),rfl⟩;have hon2:b5z C2=AY:=j8u fun j hj=>⟨_,(hC2g j (by omega)).trans (hVg _ (by omega)),rfl⟩
   iterate 23
    cbv
    try simp only[j7f,j7i,j7k,j7h,j7e,j7d,j7j,j7g,j7o,hMN,hL0,hL1,hL2,hL3,hS0,hS1,hS2,hS3,hF1,hF2,hF3,j7m,j7l,a3q,AB,AH,AC,AI,hLk,hLA,hLB,j7n,a2u,a2x,a1a,en,etn,hxl,hC1,hC2,hns0,hns1,etm,etm2,hna0,hna1,hna2,hna3,hna4,hna5,hC1l,hC2l,hof1,hof2,hMM1,hMM2,hLa,hSa,AO,Ar,j7p,hC1f,hC2f,hC1f3,hC2f3]
    try simp (disch:=omega) only[a7a,a4g,a1u,a6n,a3u,e4t,a1c.uses,b2h,IOp.opds,a9t,AU,AQ,AX,AZ,a1a,j7t,j7q,AK,↓reduceIte]
    repeat (first|refine a1g hS trivial ?_|refine a1g hS (c3d hS) ?_|refine a1g hS (e8l hS (by omega)) ?_|refine a1g hS (i2h hS (by omega)) ?_|refine a1g hS (a5p hS (by omega)) ?_|refine a1g hS hp00 ?_|refine a1g hS hp0a ?_|refine a1g hS hpam ?_|refine a1g hS hpmm ?_|refine a1g hS rfl ?_|refine a1g hS hon1 ?_|refine a1g hS hon2 ?_)
   refine a1g hS (e1n hS (by omega)) ?_;have hcl:(cellsOf (X look) (l.take (i+1))).length=m1:=by rw[j8k (by omega),hWe,j8d,hKS,k0y (by rw[hps];exact hnew),hm,hm1]
   have hQM: ∀j,j<m->Q j<M:=fun j hj=>by obtain⟨_,_,_,ee,g4,_⟩:=hQ j hj;rw[<-hMN];exact j8l g4
   have hin:=S1.ok_ins (H':=a2u H [.var [.d (.int .u8 (.v vf)),.d (.int .i64 (.v vn))],.arr 2 m1 (Sg.app a1 (Sg.app a (Sg.app 0 (fun _=>[]) CE) (Aa [[.int .u8 (.v vf),.int .i64 (.v vn)]])) (Sg.shift CE a)),.arrv (a2u C1 (.msl (M+3) 1 AR 1 AG::C2)),.arr 1 1 (Aa [[.int .i64 (.v (AE (W i)))]])]) (mv':=(M+2)::(M+2)::(M+2)::(M+1)::(M+1)::(M+1)::mv) (A':=M+1) (B':=M+2) (Qn:=M+3) (q:=W i) (p:=a) hR (by omega) (hWe i) hKS hps hnew ?_ (j7r hk) (by omega) (by omega) (by omega) (by omega) (by omega) (by omega)
    ⟨_,by rw[hL1,hm,hm1];rfl,fun j hj=> ?_,?_,fun j h1 h2=> ?_⟩ ⟨_,(hL2 _).trans rfl,?_,fun j hj=> ?_,?_,fun j h1 h2=> ?_⟩ ⟨_,(hL3 _).trans rfl,rfl⟩ (fun j hj=>j8s (by have:=hQM j (by omega);omega)) (fun j hj=>by have:=hQM j (by omega);omega)
   ·refine hN _ _ hin (by simp only;omega) (b4w.le (a4c rfl ⟨AA _,AA _,AA _,?_,?_,b2s hS,trivial⟩ (.same _) (by rw[hbs];simp) (.inr rfl) (j7y _)))
    ·show a0x (.msl (M+1) 2 AR m1 AG) (S1.T8 (X look) l _);rw[S1.T8,if_neg (AD i)];simp only[S1.cs,hcl];exact AA _
    ·show a0x (.msl (M+2) 1 AR m1 AG) (S1.T9 (X look) l _);rw[S1.T9,if_neg (AD i)];simp only[S1.cs,hcl];exact AA _
   ·rw[j7l,hMN];refine j9q (j9s (by omega) hlow) ?_;simp only[d5i,a0f.low,Ai,Aq,Ae,As,a3q,AB];refine k0o (AW (by omega) C1 (j8g hVlow hC1)) ?_;simp only[Ai,Aq,Ab,An];exact⟨by omega,AW (by omega) C2 (j8g hVlow hC2)⟩
   ·simp only[e.app];rw[if_pos (by omega),if_pos hj,if_neg (AF j)];exact hCE j (by omega)
   ·simp only[e.app];rw[if_pos (by omega),if_neg (Af a),Ag,VaR.row,hCA,hCB,hvf,hvn];rfl
   ·simp only[e.app,e.shift];rw[if_neg (by omega),show a+(j-a1)=j-1 by omega];exact hCE (j-1) (by omega)
   ·simp only[j7l,a3q];omega
   ·rw[j8s (by omega),hC1g j hj,AB,hVg j (by omega)]
   ·rw[hLa];rfl
   ·rw[j8n (by omega),hC1l,show j-a=(j-a-1)+1 by omega];show a1a C2 (j-a-1)=_;rw[hC2g _ (by omega),show a+(j-a-1)=j-1 by omega,hVg _ (by omega)]
end Go.Proofs.Tryz.Run
