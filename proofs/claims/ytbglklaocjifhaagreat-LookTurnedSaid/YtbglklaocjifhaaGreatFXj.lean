/- A round of the groups in the search of the best plan. Conditions: none. -/
import Derived.Test.YtbglklaocjifhaaGreatFIa
import Derived.Test.YtbglklaocjifhaaGreatFXc
open Nat renaming succ_eq_add_one->AA,zero_add->AB,not_lt_zero->AM,lt_of_lt_of_eq->AT,not_le_of_lt->AY,lt_succ_self->AZ,mul_one->Aa,le_trans->Af,zero_le->Ah,lt_irrefl->Ap,sub_self->Ar,le_of_eq->As,le_refl->Av
open Go.Vf.a0x renaming refl->AC
open Int renaming ofNat_eq_natCast->AD,toNat_natCast->AG,ofNat->AP,ofNat_lt->AU
open List renaming getD_eq_getElem?_getD->AE,getElem?_eq_getElem->AF,take_zero->AO,pairwise_iff_getElem->AQ,getElem?_append_left->AR,length_map->Ab,getElem?_append_right->Ac,getElem?_range'->Ag,getElem_of_mem->Ai,length_range'->Ak,length_append->Al,length_take->An,map_append->Ao,range'->At
open Bool renaming false->AH,true->AK,false_eq_true->AS
open Go.Proofs.Tryz renaming prog->AI
open Go.Proofs.YtbglklaocjifhaaGreat.Tryz renaming mixed->AJ
open Option renaming some->AN,none->AX,getD_some->Aj,map_some->Am
open Go.Vf renaming rowAt->AW,nat->Aw
open Go.Vf.a0f renaming forget->Ad,arr->Au
open Go.Vf.AV renaming forgetL->Ae,msl->Aq
set_option linter.unusedSimpArgs false
set_option linter.unusedVariables false
set_option maxHeartbeats 0
set_option maxRecDepth 100000
namespace Go.Proofs.Tryz.Run
open Go Go.Vf Go.Proofs
open Go.Proofs.YtbglklaocjifhaaGreat
theorem k0u {ts:List AV}{h:List a0f}: ∀{pg mv:List Nat},(∀x,x∈pg->Ae x AH ts=ts)->St.purge ⟨ts,h,mv⟩ pg=⟨ts,h,pg.reverse++mv⟩
 |[],_,_=>rfl
 |x::pg,mv,hp=>by rw[St.purge,hp x (by simp),k0u fun y hy=>hp y (by simp[hy])];simp
theorem k2x {ts:List AV}{h0 h:List a0f}{pg mv:List Nat}(hp: ∀x,x∈pg->Ae x AH ts=ts):(St.setH ⟨ts,h0,mv⟩ h).purge pg=⟨ts,h,pg.reverse++mv⟩:=k0u hp
structure G2 where
 p:Nat
 H:List a0f
 mv:List Nat
structure G2.ok (k m K1:Nat)(W:List Nat)(PS:Nat->Nat)(H0:List a0f)(I:Nat->Nat->List a0f->Prop)(z:Nat->Bool)(s:G2):Prop where
 hp:s.p<=m
 hl:K1<=a3q s.H
 hown: ∀x o,k<=x->x<K1->(∀j,j<s.p->x≠PS j)->a1a H0 x=AN o->(∀q,q∈W->o.forget q AH=o)->a1a s.H x=AN o
 hI:I K1 s.p s.H
 hz: ∀j,j<s.p->z j=AK
 hmv: ∀x,x∈s.mv->x∈W\/k<=x
theorem k2m {k y a b:Nat}(hyk:y<k)(hak:a<k)(hbk:b<k)(C0:List a0f)(hk0:a3q C0=k)(l:List Nat)(hl0:l≠[])(hll:l.length<=1000000)(look:Nat)(hlook:look<4)(F:Nat->Nat->VaR)(g:Nat->Bool)
 (hok: ∀q,q∈l->a1i (F q look)/\0<=(F q look).fault) (ha0:a1a C0 a=AN (.var [.d (.sl 9 l.length fun j=>spR F g (l.getD j 0))])) (hb0:a1a C0 b=AN (.var [int look]))
 (hf0: ∀x o i,x<k->a1a C0 x=AN o->k<=i->o.forget i AH=o)
 (X:Nat->VaR) (hX: ∀q,F q look=X q) (SS:Nat->VaR) (hSS: ∀p,(cellsOf X l).getD p ⟨0,0⟩=SS p) (NN:Nat) (hNN:(cellsOf X l).length=NN) (z:Nat->Bool)
 (W:List Nat) (hW: ∀x,x∈W->x<k/\x≠y) (I:Nat->Nat->List a0f->Prop) (hI0: ∀H,k<=a3q H->k3e k H C0->I (a3q H) 0 H)
 (hy: ∀(K1 p:Nat) (H:List a0f) (Q n:Nat) (pe:Nat->List DV) (o:a0f),k<=K1->K1<=a3q H->p<NN->(∀j,j<p->z j=AK)->I K1 p H->k<=Q->Q<K1->(j7u X (SS p) l).length=n->a1a H Q=AN (.arr 9 n pe)->(∀i,i<n->pe i=spR F g ((j7u X (SS p) l).getD i 0))->
   b5d AI y [(SS p).av,.msl Q 9 AX n AH] (a2u H [o]) (fun pg v h'=>(∀x,x∈pg->x∈W)/\v= .d (.bool (z p))/\a3q H<=a3q h'/\I K1 (p+1) h'/\ ∀x o,k<=x->x<K1->x≠Q->a1a H x=AN o->(∀q,q∈W->o.forget q AH=o)->a1a h' x=AN o)):
 a1h AI 172 [.yl y,.ptr a 0,.ptr b 0] C0 (fun pg v h'=>pg=W/\v= .tuple []/\ ∃K1 p,k<=K1/\p<=NN/\I K1 p h'/\(∀j,j+1<p->z j=AK)/\(p<NN-> ∃j,p=j+1/\z j=AH)):=by
 obtain⟨LL,hLL⟩: ∃z,l.length=z:=⟨_,rfl⟩;obtain⟨Q,hQ⟩: ∃f:Nat->Nat,∀j,l.getD j 0=f j:=⟨_,fun _=>rfl⟩;obtain⟨A,hA⟩: ∃f:Nat->Nat->Int,∀q j,(F q j).fault=f q j:=⟨fun q j=>(F q j).fault,fun _ _=>rfl⟩;obtain⟨B,hB⟩: ∃f:Nat->Nat->Int,∀q j,(F q j).n=f q j:=⟨fun q j=>(F q j).n,fun _ _=>rfl⟩;have hrow: ∀q,spR F g q=[.int .u8 (.v (A q 0)),.int .i64 (.v (B q 0)),.int .u8 (.v (A q 1)),.int .i64 (.v (B q 1)),.int .u8 (.v (A q 2)),.int .i64 (.v (B q 2)),.int .u8 (.v (A q 3)),.int .i64 (.v (B q 3)),.bool (g q)]:=fun q=>by simp only[spR,h7v,hA,hB]
 obtain⟨rw',hrw⟩: ∃f:Nat->List DV,∀q,f q=[.int .u8 (.v (A q 0)),.int .i64 (.v (B q 0)),.int .u8 (.v (A q 1)),.int .i64 (.v (B q 1)),.int .u8 (.v (A q 2)),.int .i64 (.v (B q 2)),.int .u8 (.v (A q 3)),.int .i64 (.v (B q 3)),.bool (g q)]:=⟨_,fun _=>rfl⟩;have hrow2: ∀q,spR F g q=rw' q:=fun q=>by rw[hrow,hrw]
 simp only[hQ,hLL,hrow2] at ha0;refine h3w AJ okP e8w rfl fun E Sg hbs hS Fk hFk=> ?_;have e:=b2k hS;cbv;simp only[j7f,j7i,j7k,j7h,j7e,j7d,j7s,j7v,j7j,j7g];simp only[j7r ha0,hk0];cbv;simp only[j7f,j7i,j7k,j7h,j7e,j7d,j7s,j7v,j7j,j7g];refine e4p AJ okP hS (σ:=G1) (fun s=>s.ok k l X F g C0) (fun s=>l.length-s.i)
  (fun s=>⟨b5r [(0,.yl y),(1,.ptr a 0),(2,.ptr b 0),(4,.map k),(5,.msl (k+1) 2 AX (s.ks X l).length AH),(12,.d (.sl 9 LL fun j=>rw' (Q j))),(13,int LL),(14,int s.i)] 56,s.H,s.mv⟩) ⟨0,a2u (a2u C0 [.mapv AK [.u8,.i64] [] []]) [.arr 2 0 fun _=>[]],[],fun _=>0⟩ ?_ ?_ ?_
 ·refine⟨Ah _,?_,fun x hx=> ?_,?_,⟨fun _=>[],?_,fun j hj=> ?_⟩,fun j hj=> ?_,fun j j' hj=> ?_,fun x hx=> ?_⟩
  ·simp only[j7l,a3q,hk0];omega
  ·obtain⟨o,ho⟩:=j9o (l:=C0) (i:=x) (by omega);rw[j7r (j7r ho),ho]
  ·simp only[G1.ks,AO];exact j7r (j8t hk0 _)
  ·simp only[G1.ks,AO];exact j8t (by simp only[j7l,a3q,hk0]) _
  ·simp only[G1.ks,AO] at hj;exact absurd hj (AM j)
  ·simp only[G1.ks,AO] at hj;exact absurd hj (AM j)
  ·simp only[G1.ks,AO] at hj;exact absurd hj (AM j)
  ·simp at hx
 ·refine (b4w.gt 5 2 (fun _=>[]) rfl).trans (b4w.le ?_);rw[<-a0r,<-a0u,j7l,hk0];exact a4c rfl ⟨AC _,AC _,AC _,AC _,AC _,AC _,b0a (e.ofNat _),a6c rfl,trivial⟩ (.same _) (by rw[hbs,<-a0u,<-a0u];simp only[j7l,hk0];omega) (.inr rfl) rfl
 rintro⟨i,H,mv,P⟩ hR N hN;have hR0:=hR;obtain⟨hi,hlen,hC,hM,hE,hP,hinj,hmv⟩:=hR0;simp only[G1.ks,G1.pt] at hi hlen hC hM hE hP hinj hmv⊢;obtain⟨KS,hKS⟩: ∃z,j8r X (l.take i)=z:=⟨_,rfl⟩;rw[hKS] at hM hE hP hinj⊢;obtain⟨m,hm⟩: ∃z,KS.length=z:=⟨_,rfl⟩;have hml:m<=1000000:=by have:=k2i X (l.take i);rw[hKS,hm,An] at this;omega
 obtain⟨kk,hkk⟩: ∃z,KS.map k0l=z:=⟨_,rfl⟩;rw[hm] at hM hE hP hinj⊢;rw[hkk] at hM;obtain⟨vs,hvs⟩: ∃z,((At 0 m).map fun j=>Aq (P j) 9 AX (j7u X (KS.getD j ⟨0,0⟩) (l.take i)).length AH)=z:=⟨_,rfl⟩;rw[hvs] at hM;obtain⟨CE,hE,hCE⟩:=hE;have hHa:a1a H a=AN (.var [.d (.sl 9 LL fun j=>rw' (Q j))]):=by rw[hC a hak];exact ha0
 have hHb:a1a H b=AN (.var [int look]):=by rw[hC b hbk];exact hb0
 obtain⟨M,hMN⟩: ∃z,a3q H=z:=⟨_,rfl⟩;rw[hMN] at hlen;cbv;split
 rotate_left
 ·rename_i h;cbv;simp only[j7f,j7i,j7k,j7h,j7e,j7d,j7s,j7v,j7j,j7g];have hil:i=LL:=by have:=b3r hS h;simp only[AD] at this;omega
  have htk:l.take i=l:=by rw[hil,<-hLL,List.take_length]
  rw[htk] at hKS hvs hP;have hKn:KS≠[]:=by
   obtain⟨q,hq⟩:=List.exists_mem_of_ne_nil _ hl0;have:X q∈KS:=by rw[<-hKS];exact j9g.2 (j7x.2 ⟨q,hq,rfl⟩)
   exact fun e=>by rw[e] at this;simp at this
  have hKm: ∀v,v∈cellsOf X l↔v∈KS:=fun v=>by rw[<-hKS];exact j9g.symm
  have hKo: ∀v,v∈KS->a1i v/\0<=v.fault:=fun v hv=>by obtain⟨q,hq,rfl⟩:=j7x.1 ((hKm v).2 hv);rw[<-hX];exact hok q hq
  have hs:=k3c hKn (by omega) hKo (by rw[<-hKS];exact j8w _ _) (j8b X l) hKm CE (by rw[hm];exact hCE);rw[hm] at hs;refine h3v hS (a1h.frame (pos:=[k+1]) hs rfl rfl ⟨by rw[hE];exact a9v.refl _,trivial⟩) ?_;rintro pg v h' ⟨pg0,v0,h0,⟨rfl,rfl,CS,rfl,hSl,hCS⟩,rfl,rfl,rfl⟩;cbv;simp only[j7f,j7i,j7k,j7h,j7e,j7d,j7s,j7v,j7j,j7g];have hmN:m=NN:=hSl.symm.trans hNN;rw[show a2u (a2x H k.succ (Au 2 m CS)) []=a2x H (k+1) (Au 2 m CS) by rw[a0r,List.append_nil]];obtain⟨H0,hH0⟩: ∃z,a2x H (k+1) (Au 2 m CS)=z:=⟨_,rfl⟩;rw[hH0];have hx0l:a3q H0=M:=by rw[<-hH0,j8f,hMN]
  have hx0k:a1a H0 k=AN (.mapv AK [.u8,.i64] kk vs):=by rw[<-hH0,j7w (by omega)];exact hM
  have h0E:a1a H0 (k+1)=AN (.arr 2 m CS):=by rw[<-hH0];exact j7z (by omega)
  have h0C:k3e k H0 C0:=fun x hx=>by rw[<-hH0,j7w (by omega)];exact hC x hx
  have hnd:KS.Nodup:=by rw[<-hKS];exact j8w _ _
  have hex: ∀p,∃c,p<m->c<m/\KS.getD c ⟨0,0⟩=SS p:=fun p=>by
   by_cases hp:p<m
   ·have hSK:SS p∈KS:=by rw[<-hKm,<-hSS];exact j8e (by omega)
    obtain⟨c,hc1,hc2⟩:=Ai hSK;exact⟨c,fun _=>⟨by omega,by rw[AE,AF hc1,<-hc2];rfl⟩⟩
   ·exact⟨0,fun h=>absurd h hp⟩
  obtain⟨cS,hcS⟩:=Classical.axiomOfChoice hex;have hSinj: ∀i j,i<m->j<m->i≠j->cS i≠cS j:=fun i j hi hj hne e=>by
   have h1:=(hcS i hi).2;rw[e,(hcS j hj).2,<-hSS,<-hSS,AE,AE,AF (by omega),AF (by omega)] at h1;simp only[Aj] at h1;have hp:=AQ.1 (j9u (j8b X l));rcases Nat.lt_or_gt_of_ne hne with h|h
   ·exact hp i j (by omega) (by omega) h h1.symm
   ·exact hp j i (by omega) (by omega) h h1
  have hPSe: ∀i,i<m->k+2<=P (cS i):=fun i hi=>(hP (cS i) (hcS i hi).1).1;refine a7r AJ okP hS (σ:=G2) (fun s=>s.ok k m M W (fun i=>P (cS i)) H0 I z) (fun s=>m-s.p)
   (fun s=>⟨b5r [(0,.yl y),(4,.map k),(42,.msl (k+1) 2 AX m AH),(43,int m),(44,int s.p)] 56,s.H,s.mv⟩) ⟨0,H0,mv⟩ ?_ ?_ ?_
  ·exact⟨Ah _,by simp only;omega,fun x o _ _ _ h _=>h,by rw[<-hx0l];exact hI0 H0 (by omega) h0C,fun j hj=>absurd hj (AM j),fun x hx=> .inr (hmv x hx)⟩
  ·exact a4c rfl ⟨AC _,AC _,AC _,b0a (e.ofNat _),a6c rfl,trivial⟩ (.same _) (by rw[hbs,<-a0u,<-a0u];simp only[hk0];omega) (.inr rfl) (j7y _)
  rintro⟨p,G,mv2⟩ ⟨hp,hl,hown,hI,hz,hmv2⟩ N hN;simp only at hp hl hown hI hz hmv2;cbv;split
  rotate_left
  ·rename_i h;have hpm:p=m:=by have:=b3r hS h;simp only[AD] at this;omega
   cbv;refine⟨W,fun x h1 h2=> ?_,hFk (a4k.same _) (AC _) ?_ (.inr rfl) ⟨rfl,rfl,M,p,by omega,by omega,hI,fun j hj=>hz j (by omega),fun h=>by omega⟩⟩
   ·have hCl:C0.length=k:=by rw[<-hk0,a0u]
    have h3:x<C0.length:=by revert h1;exact match C0 with|[]=>id|_::_=>id
    exact (hmv2 x h2).elim id fun h=>absurd h (AY (AT h3 hCl))
   ·have hCl:C0.length=k:=by rw[<-hk0,a0u]
    rw[hCl,<-a0u];exact Af (by omega:k<=M) hl
  rename_i h;have hpl:p<m:=AU.1 (b3h hS h);cbv;have en: ∀k:Nat,Aw Sg (IX.v (AP k))=k:=fun k=>by simp only[Aw,e.toNat,AD,AG]
  have gE:a1a G (k+1)=AN (.arr 2 m CS):=hown _ _ (by omega) (by omega) (fun j hj=>by have:=hPSe j (by omega);omega) h0E (fun q _=>rfl);have gK:a1a G k=AN (.mapv AK [.u8,.i64] kk vs):=hown _ _ (by omega) (by omega) (fun j hj=>by have:=hPSe j (by omega);omega) hx0k (fun q hq=>by
   simp only[Ad];rw[<-hvs,j9l fun j _ hj=> ?_];obtain⟨h1,_⟩:=hP j (by omega);have:=(hW q hq).1;omega)
  obtain⟨A1,hA1⟩: ∃z,(SS p).fault=z:=⟨_,rfl⟩;obtain⟨B1,hB1⟩: ∃z,(SS p).n=z:=⟨_,rfl⟩;have hcs:CS p=[.int .u8 (.v A1),.int .i64 (.v B1)]:=by rw[hCS p hpl,hSS,<-hA1,<-hB1];rfl
  obtain⟨GL,hGL⟩: ∃z,a3q G=z:=⟨_,rfl⟩;have gL0: ∀X,a1a (a2u G X) GL=a1a X 0:=fun X=>by rw[<-hGL];exact j9i G X
  have gS0: ∀X x,a2x (a2u G X) GL x=a2u G (a2x X 0 x):=fun X x=>by rw[<-hGL];exact j9j G X x
  have gLK:=fun X=>j7r (m:=X) gK;have etn:Sg.toNat (AP p)=p:=by simp only[e.toNat,AD,AG]
  simp only[j7f,j7i,j7k,j7h,j7e,j7d,j7s,j7v,j7j,j7g,gE,en,hcs,etn];refine a1g hS (a5p hS hpl) ?_;cbv;simp only[j7f,j7i,j7k,j7h,j7e,j7d,j7s,j7v,j7j,j7g,hGL,gL0,gS0,gLK,j7n,j7l,a2u,a3q,a2x,AB,AA,hcs];cbv;simp only[j7f,j7i,j7k,j7h,j7e,j7d,j7s,j7v,j7j,j7g,hGL,gL0,gS0,gLK,j7n,j7l,a2u,a3q,a2x,AB,AA,hcs];have hSK:SS p∈KS:=by rw[<-hKm,<-hSS];exact j8e (by omega)
  obtain⟨b1,b2⟩:=a1i.bd (hKo _ hSK).1 (hKo _ hSK).2;obtain⟨c,hcc⟩: ∃z,cS p=z:=⟨_,rfl⟩;obtain⟨hc1,hcd⟩:=hcS p hpl;rw[hcc] at hc1 hcd;rw[<-hm] at hc1;have hcn: ∀j,j<c->KS.getD j ⟨0,0⟩≠SS p:=fun j hj e=>by rw[<-hcd,AE,AE,AF (by omega),AF hc1] at e;simp only[Aj] at e;exact AQ.1 hnd j c (by omega) hc1 hj e
  obtain⟨f1,_⟩:=(k0j (ks:=KS) (V:=fun j=>Aq (P j) 9 AX (j7u X (KS.getD j ⟨0,0⟩) l).length AH) (v:=SS p)).2 c hc1 hcd hcn 0;rw[hm,hvs,hkk,AB,hcd] at f1;rw[hm] at hc1;obtain⟨p1,pe,p2,p3⟩:=hP c hc1;rw[hcd] at p2 p3;have hyp:=fun o=>hy M p G (P c) _ pe o (by omega) (by omega) (by omega) hz hI (by omega) (by have:=j8l p2;omega) rfl (hown _ _ (by omega) (by have:=j8l p2;omega) (fun j hj e=>hSinj p j hpl (by omega) (by omega) (hinj _ _ (hcS p hpl).1 (hcS j (by omega)).1 (by rw[hcc];exact e))) (by rw[<-hH0,j7w (by omega)];exact p2) (fun q _=>rfl)) p3;simp only[VaR.av] at hyp;have hkey:k0l (SS p)=[KC.i (SS p).fault,KC.i (SS p).n]:=rfl;rw[hkey] at f1;obtain⟨pl,hpl2⟩: ∃z,j7u X (SS p) l=z:=⟨_,rfl⟩;obtain⟨Pc,hPc⟩: ∃z,P c=z:=⟨_,rfl⟩;rw[hA1] at hyp f1 b1;rw[hB1] at hyp f1 b2;rw[hPc,hpl2] at f1 hyp;obtain⟨n1,hn1⟩: ∃z,pl.length=z:=⟨_,rfl⟩;rw[hn1] at f1 hyp;refine a1g hS (i2h hS hpl) ?_;cbv;simp only[j7f,j7i,j7k,j7h,j7e,j7d,j7s,j7v,j7j,j7g,hGL,gL0,gS0,gLK,j7n,j7l,a2u,a3q,a2x,AB,AA,hcs];cbv;simp only[j7f,j7i,j7k,j7h,j7e,j7d,j7s,j7v,j7j,j7g,hGL,gL0,gS0,gLK,j7n,j7l,a2u,a3q,a2x,AB,AA,hcs];cbv;refine a1g hS (k1t hS b1) (a1g hS (e7p hS b2) ?_);simp only[j7f,j7i,j7k,j7h,j7e,j7d,j7s,j7v,j7j,j7g,hGL,gL0,gS0,gLK,j7n,j7l,a2u,a3q,a2x,AB,AA,hcs];simp only[f1];cbv;simp only[j7f,j7i,j7k,j7h,j7e,j7d,j7s,j7v,j7j,j7g,hGL,gL0,gS0,gLK,j7n,j7l,a2u,a3q,a2x,AB,AA,hcs];refine i5x hS (hyp _) ?_;rintro pg v H' ⟨g1,rfl,g2,g3,g4⟩;obtain⟨zp,hzp⟩: ∃b,z p=b:=⟨_,rfl⟩;rw[hzp];rw[hGL] at g2 hl;have hmv3: ∀(pg:List Nat),(∀x,x∈pg->x∈W)-> ∀x,x∈pg.reverse++mv2->x∈W\/k<=x:=fun pg g1 x hx=>by
   rcases List.mem_append.1 hx with hx|hx
   ·exact .inl (g1 x (List.mem_reverse.1 hx))
   ·exact hmv2 x hx
  have hCl:C0.length=k:=by rw[<-hk0,a0u]
  have hH':k<=H'.length:=by rw[<-a0u];omega
  have hnext:zp=AK-> ∀mv3,(∀x,x∈mv3->x∈W\/k<=x)->G2.ok k m M W (fun i=>P (cS i)) H0 I z ⟨p+1,H',mv3⟩:=fun e mv3 hm3=>
   ⟨hpl,by simp only;omega,fun x o h1 h2 h5 h3 h4=>g4 x o h1 h2 (by have:=h5 p (AZ p);simp only[hcc,hPc] at this;exact this) (hown x o h1 h2 (fun j hj=>h5 j (Nat.lt_succ_of_lt hj)) h3 h4) h4,g3,fun j hj=>by
     by_cases ej:j=p
     ·rw[ej,hzp,e]
     ·exact hz j (by simp only at hj;omega),hm3⟩
  rcases pg with _|⟨x0,pg⟩
  ·cases zp
   ·cbv;exact⟨W,fun x h1 h2=>(hmv2 x h2).elim id fun h=>absurd h (AY (AT (by revert h1;exact match C0 with|[]=>id|_::_=>id) hCl)),hFk (a4k.same _) (AC _) (Af (As hCl) hH') (.inr rfl) ⟨rfl,rfl,M,p+1,by omega,by omega,g3,fun j hj=>hz j (by omega),fun _=>⟨p,rfl,hzp⟩⟩⟩
   ·cbv;refine a1g hS (e1n hS (by omega)) ?_;exact hN ⟨p+1,H',mv2⟩ _ (hnext rfl _ hmv2) (by simp only;omega) (a4c rfl ⟨AC _,AC _,AC _,AC _,b2s hS,trivial⟩ (.same _) (by rw[hbs,hCl];exact hH') (.inr rfl) (j7y _))
  ·simp only[↓reduceIte];rw[k2x (fun x hx=> ?_)]
   ·obtain⟨mv3,hmv4⟩: ∃z,(x0::pg).reverse++mv2=z:=⟨_,rfl⟩;have hm5:=hmv3 _ g1;rw[hmv4] at hm5⊢;cases zp
    ·cbv;exact⟨W,fun x h1 h2=>(hm5 x h2).elim id fun h=>absurd h (AY (AT (by revert h1;exact match C0 with|[]=>id|_::_=>id) hCl)),hFk (a4k.same _) (AC _) (Af (As hCl) hH') (.inr rfl) ⟨rfl,rfl,M,p+1,by omega,by omega,g3,fun j hj=>hz j (by omega),fun _=>⟨p,rfl,hzp⟩⟩⟩
    ·cbv;refine a1g hS (e1n hS (by omega)) ?_;exact hN ⟨p+1,H',mv3⟩ _ (hnext rfl _ hm5) (by simp only;omega) (a4c rfl ⟨AC _,AC _,AC _,AC _,b2s hS,trivial⟩ (.same _) (by rw[hbs,hCl];exact hH') (.inr rfl) (j7y _))
   ·obtain⟨g5,g6⟩:=hW x (g1 x hx);have hPk:k+2<=Pc:=by rw[<-hPc];exact p1
    simp (disch:=omega) only[Ae,AV.forget,j7t,AS,↓reduceIte]
 rename_i h;have hlt:i<LL:=AU.1 (b3h hS h);cbv;simp only[j7f,j7i,j7k,j7h,j7e,j7d,j7s,j7v,j7j,j7g];have en: ∀k:Nat,Aw Sg (IX.v (AP k))=k:=fun k=>by simp only[Aw,e.toNat,AD,AG]
 simp only[en,hrw (Q i)];refine a1g hS (a5p hS hlt) ?_;cbv;simp only[j7f,j7i,j7k,j7h,j7e,j7d,j7s,j7v,j7j,j7g];have hL0: ∀X,a1a (a2u H X) M=a1a X 0:=fun X=>by rw[<-hMN];exact j9i H X
 have hL1: ∀X,a1a (a2u H X) (M+1)=a1a X 1:=fun X=>by rw[<-hMN];exact j9x H X
 have hS0: ∀X x,a2x (a2u H X) M x=a2u H (a2x X 0 x):=fun X x=>by rw[<-hMN];exact j9j H X x
 have hS1: ∀X x,a2x (a2u H X) (M+1) x=a2u H (a2x X 1 x):=fun X x=>by rw[<-hMN];exact j9z H X x
 have hSE: ∀X x,a2x (a2u H X) (k+1) x=a2u (a2x H (k+1) x) X:=fun X x=>j8j (by omega);have hLM:=fun X=>j7r (m:=X) hM;have hLb:=fun X=>j7r (m:=X) hHb;have hLE:=fun X=>j7r (m:=X) hE;have hcut:b0o (α:=AV) [.d (.int .u8 (.v (A (Q i) 0))),.d (.int .i64 (.v (B (Q i) 0))),.d (.int .u8 (.v (A (Q i) 1))),.d (.int .i64 (.v (B (Q i) 1))),.d (.int .u8 (.v (A (Q i) 2))),.d (.int .i64 (.v (B (Q i) 2))),.d (.int .u8 (.v (A (Q i) 3))),.d (.int .i64 (.v (B (Q i) 3))),.d (.bool (g (Q i)))] (Sg.nadd 0 (Sg.nmul (Sg.toNat (AP look)) 2)) 2=AN [.d (.int .u8 (.v (A (Q i) look))),.d (.int .i64 (.v (B (Q i) look)))]:=by
  simp only[e.nadd,e.nmul,e.toNat,AD,AG]
  match look,hlook with
  |0,_=>rfl
  |1,_=>rfl
  |2,_=>rfl
  |3,_=>rfl
 simp only[j7f,j7i,j7k,j7h,j7e,j7d,j7s,j7v,j7j,j7g,hMN,hL0,hL1,hS0,hS1,j7n,j7l,a2u,a3q,a2x,AB,AA,hLM,hLb,hLE,hcut];cbv;simp only[j7f,j7i,j7k,j7h,j7e,j7d,j7s,j7v,j7j,j7g,hMN,hL0,hL1,hS0,hS1,j7n,j7l,a2u,a3q,a2x,AB,AA,hLM,hLb,hLE,hcut];cbv;refine a1g hS (a5p hS hlook) ?_;simp only[j7f,j7i,j7k,j7h,j7e,j7d,j7s,j7v,j7j,j7g,hMN,hL0,hL1,hS0,hS1,j7n,j7l,a2u,a3q,a2x,AB,AA,hLM,hLb,hLE,hcut];cbv;simp only[j7f,j7i,j7k,j7h,j7e,j7d,j7s,j7v,j7j,j7g,hMN,hL0,hL1,hS0,hS1,j7n,j7l,a2u,a3q,a2x,AB,AA,hLM,hLb,hLE,hcut];cbv;simp only[j7f,j7i,j7k,j7h,j7e,j7d,j7s,j7v,j7j,j7g,hMN,hL0,hL1,hS0,hS1,j7n,j7l,a2u,a3q,a2x,AB,AA,hLM,hLb,hLE,hcut];have hQl:Q i∈l:=by rw[<-hQ,AE,AF (by omega)];exact List.getElem_mem _
 obtain⟨b1,b2⟩:=a1i.bd (hok (Q i) hQl).1 (hok (Q i) hQl).2;rw[hA,hB] at*
 have hkey:k0l (X (Q i))=[KC.i (A (Q i) look),KC.i (B (Q i) look)]:=by rw[<-hX,k0l,hA,hB]
 cbv;simp only[j7f,j7i,j7k,j7h,j7e,j7d,j7s,j7v,j7j,j7g,hMN,hL0,hL1,hS0,hS1,j7n,j7l,a2u,a3q,a2x,AB,AA,hLM,hLb,hLE,hcut];cbv;simp only[j7f,j7i,j7k,j7h,j7e,j7d,j7s,j7v,j7j,j7g,hMN,hL0,hL1,hS0,hS1,j7n,j7l,a2u,a3q,a2x,AB,AA,hLM,hLb,hLE,hcut];cbv;refine a1g hS (k1t hS b1) (a1g hS (e7p hS b2) ?_);simp only[j7f,j7i,j7k,j7h,j7e,j7d,j7s,j7v,j7j,j7g,hMN,hL0,hL1,hS0,hS1,j7n,j7l,a2u,a3q,a2x,AB,AA,hLM,hLb,hLE,hcut];by_cases hin:X (Q i)∈KS
 ·obtain⟨c,hc1,hc2⟩:=Ai hin;have hcd:KS.getD c ⟨0,0⟩=X (Q i):=by rw[AE,AF hc1,<-hc2];rfl
  have hnd:KS.Nodup:=by rw[<-hKS];exact j8w _ _
  have hcn: ∀j,j<c->KS.getD j ⟨0,0⟩≠X (Q i):=fun j hj e=>by rw[AE,AF (by omega),<-hc2] at e;exact AQ.1 hnd j c (by omega) hc1 hj e
  obtain⟨f1,f2⟩:=(k0j (ks:=KS) (V:=fun j=>Aq (P j) 9 AX (j7u X (KS.getD j ⟨0,0⟩) (l.take i)).length AH) (v:=X (Q i))).2 c hc1 hcd hcn 0;rw[hm,hvs,hkk,hkey,AB] at f1;rw[hkk,hkey,AB] at f2;rw[hm] at hc1;obtain⟨p1,pe,p2,p3⟩:=hP c hc1;have hlen0:(j7u X (KS.getD c ⟨0,0⟩) (l.take i))≠[]:=j9e (j9g.1 (by rw[hKS];exact j8e (by omega)));obtain⟨n,hn⟩: ∃z,(j7u X (KS.getD c ⟨0,0⟩) (l.take i)).length=z:=⟨_,rfl⟩;have hn0:0<n:=by rw[<-hn];exact List.length_pos_iff.2 hlen0
  obtain⟨Pc,hPc⟩: ∃z,P c=z:=⟨_,rfl⟩;rw[hPc] at p1 p2 f1;rw[hn] at p2 f1;have hPM:Pc<M:=by rw[<-hMN];exact j8l p2
  have hvc:a1a vs c=AN (.msl Pc 9 AX n AH):=by rw[<-hvs,a0i,List.getElem?_map,Ag hc1];simp only[Am,Nat.one_mul,AB,hPc,hn]
  have hnz:Sg.ieq (Sg.ofNat n) (AP 0)=AH:=by simp only[e.ieq,e.ofNat];exact beq_false_of_ne (by simp only[AD];omega)
  simp only[f1];cbv;simp only[hnz];cbv;have hLP:=fun X=>j7r (m:=X) p2;have en2: ∀k:Nat,Aw Sg (IX.v ((k:Nat):Int))=k:=en;simp only[j7f,j7i,j7k,j7h,j7e,j7d,j7s,j7v,j7j,j7g,hMN,hL0,hL1,hS0,hS1,j7n,j7l,a2u,a3q,a2x,AB,AA,hLM,hLb,hLE,hcut,f2,hvc,hLP,e.ofNat,en2];cbv;simp only[j7f,j7i,j7k,j7h,j7e,j7d,j7s,j7v,j7j,j7g,hMN,hL0,hL1,hS0,hS1,j7n,j7l,a2u,a3q,a2x,AB,AA,hLM,hLb,hLE,hcut,f2,hvc,hLP,e.ofNat,en2];cbv;simp only[j7f,j7i,j7k,j7h,j7e,j7d,j7s,j7v,j7j,j7g,hMN,hL0,hL1,hS0,hS1,j7n,j7l,a2u,a3q,a2x,AB,AA,hLM,hLb,hLE,hcut,f2,hvc,hLP,e.ofNat,en2];cbv;refine a1g hS (k1t hS b1) (a1g hS (e7p hS b2) ?_);simp only[j7f,j7i,j7k,j7h,j7e,j7d,j7s,j7v,j7j,j7g,hMN,hL0,hL1,hS0,hS1,j7n,j7l,a2u,a3q,a2x,AB,AA,hLM,hLb,hLE,hcut,f2,hvc,hLP,e.ofNat,en2];cbv;simp only[j7f,j7i,j7k,j7h,j7e,j7d,j7s,j7v,j7j,j7g,hMN,hL0,hL1,hS0,hS1,j7n,j7l,a2u,a3q,a2x,AB,AA,hLM,hLb,hLE,hcut,f2,hvc,hLP,e.ofNat,en2];have hSP: ∀X x,a2x (a2u H X) Pc x=a2u (a2x H Pc x) X:=fun X x=>j8j (by omega);have hn6:n<=1000000:=by
   have h1:n<=(l.take i).length:=by rw[<-hn];exact List.length_filter_le _ _
   rw[An] at h1;omega
  cbv;refine a1g hS trivial (a1g hS (f1i hS (by omega)) ?_);simp only[j7f,j7i,j7k,j7h,j7e,j7d,j7s,j7v,j7j,j7g,hMN,hL0,hL1,hS0,hS1,j7n,j7l,a2u,a3q,a2x,AB,AA,hLM,hLb,hLE,hcut,f2,hvc,hLP,hSP,j7o,j7m,e.ofNat,en2];simp (disch:=omega) only[j7t,j7q,AS,↓reduceIte];obtain⟨H1,hH1⟩: ∃z,a2n Pc AH (a2x H Pc (.arr 9 (Sg.nadd n 1) (Sg.app n pe (AW [[.int .u8 (.v (A (Q i) 0)),.int .i64 (.v (B (Q i) 0)),.int .u8 (.v (A (Q i) 1)),.int .i64 (.v (B (Q i) 1)),.int .u8 (.v (A (Q i) 2)),.int .i64 (.v (B (Q i) 2)),.int .u8 (.v (A (Q i) 3)),.int .i64 (.v (B (Q i) 3)),.bool (g (Q i))]]))))=z:=⟨_,rfl⟩;simp only[hH1];obtain⟨vs1,hvs1⟩: ∃z,Ae Pc AH vs=z:=⟨_,rfl⟩;have h1M:a3q H1=M:=by rw[<-hH1,j9b,j8f,hMN]
  have h1hM:a1a H1 k=AN (.mapv AK [.u8,.i64] kk vs1):=by rw[<-hH1,j8a (by rw[j7w (by omega)];exact hM)];simp only[Ad,hvs1]
  have hvl1:a3q vs1=m:=by rw[<-hvs1,j8v,<-hvs,a0u,Ab,Ak]
  have h1LM:=fun X=>j7r (m:=X) h1hM;have h1SM: ∀X x,a2x (a2u H1 X) k x=a2u (a2x H1 k x) X:=fun X x=>j8j (by omega);simp only[j7f,j7i,j7k,j7h,j7e,j7d,j7s,j7v,j7j,j7g,h1M,j7n,j7l,a2u,a3q,a2x,AB,AA,h1LM,h1SM,f2,hvl1,j7o,j7m,e.ofNat,en2];cbv;simp only[j7f,j7i,j7k,j7h,j7e,j7d,j7s,j7v,j7j,j7g,h1M,j7n,j7l,a2u,a3q,a2x,AB,AA,h1LM,h1SM,f2,hvl1,j7o,j7m,e.ofNat,en2];refine a1g hS (a5p hS hc1) ?_;cbv;refine a1g hS (e1n hS (by omega)) ?_;have hok2:=fun H'=>G1.ok_old (H':=H') (M:=M) hR (by omega) hk0 hf0 hMN (hQ i) hKS (by omega) hcd;rw[hm,hvs,hkk,hPc,hn] at hok2;refine hN ⟨i+1,_,_,P⟩ _ (hok2 _ ?_ ?_ ?_ ?_) (by simp only;omega) (b4w.le (a4c rfl ⟨AC _,AC _,AC _,AC _,?_,AC _,AC _,b2s hS,trivial⟩ (.same _) ?_ (.inr rfl) (j7y _)))
  ·simp only[j7l,j8f,h1M,a3q];omega
  ·rw[j7r (j7z (by omega))];have hv1:a2x vs1 c (.msl Pc 9 AX (n+1) AH)=a2x vs c (.msl Pc 9 AX (n+1) AH):=by rw[<-hvs1,<-hvs];exact k1n fun j hj hjc=>fun he=>hjc (hinj j c hj hc1 (he.trans hPc.symm))
   simp only[e.toNat,e.nadd,AD,AG,hv1]
  ·intro x o hx h1 h2 ho hf;refine j7r ((j7w (Ne.symm h1)).trans ?_);rw[<-hH1,j8a ((j7w (Ne.symm h2)).trans ho),hf]
  ·refine⟨Sg.app n pe (AW [[.int .u8 (.v (A (Q i) 0)),.int .i64 (.v (B (Q i) 0)),.int .u8 (.v (A (Q i) 1)),.int .i64 (.v (B (Q i) 1)),.int .u8 (.v (A (Q i) 2)),.int .i64 (.v (B (Q i) 2)),.int .u8 (.v (A (Q i) 3)),.int .i64 (.v (B (Q i) 3)),.bool (g (Q i))]]),?_,fun pe2 hp2 j hj=> ?_,?_⟩
   ·rw[j7r ((j7w (show k≠Pc by omega)).trans ?_)];rw[<-hH1,j8a (j7z (by omega))];simp only[Ad,e.nadd]
   ·rw[p2] at hp2;cases hp2;simp only[e.app,if_pos hj]
   ·simp only[e.app,if_neg (Ap n),Ar];rw[hrow];rfl
  ·simp only[G1.ks];rw[show (j8r X (l.take (i+1))).length=m by rw[j8k (by omega),j8m,hKS,hQ,if_pos hin,hm]];exact AC _
  ·rw[hbs,<-a0u,<-a0u];simp only[j7l,j8f,h1M,hk0];omega
 ·obtain⟨f1,f2⟩:=(k0j (ks:=KS) (V:=fun j=>Aq (P j) 9 AX (j7u X (KS.getD j ⟨0,0⟩) (l.take i)).length AH)).1 hin 0;rw[hm,hvs,hkk,hkey] at f1;rw[hkk,hkey] at f2;simp only[f1];cbv;simp only[j7f,j7i,j7k,j7h,j7e,j7d,j7s,j7v,j7j,j7g,hMN,hL0,hL1,hS0,hS1,j7n,j7l,a2u,a3q,a2x,AB,AA,hLM,hLb,hLE,hcut];cbv;simp only[j7f,j7i,j7k,j7h,j7e,j7d,j7s,j7v,j7j,j7g,hMN,hL0,hL1,hS0,hS1,j7n,j7l,a2u,a3q,a2x,AB,AA,hLM,hLb,hLE,hcut];cbv;simp only[j7f,j7i,j7k,j7h,j7e,j7d,j7s,j7v,j7j,j7g,hMN,hL0,hL1,hS0,hS1,j7n,j7l,a2u,a3q,a2x,AB,AA,hLM,hLb,hLE,hcut];refine a1g hS trivial (a1g hS (f1i hS (by omega)) ?_);simp only[j7f,j7i,j7k,j7h,j7e,j7d,j7s,j7v,j7j,j7g,hMN,hL0,hL1,hS0,hS1,j7n,j7l,a2u,a3q,a2x,AB,AA,hLM,hLb,hLE,hcut,j7o,hSE,j7m];simp (disch:=omega) only[j7t,j7q,AS,↓reduceIte];obtain⟨H1,hH1⟩: ∃z,a2n (k+1) AH (a2x H (k+1) (.arr 2 (Sg.nadd m 1) (Sg.app m CE (AW [[.int .u8 (.v (A (Q i) look)),.int .i64 (.v (B (Q i) look))]]))))=z:=⟨_,rfl⟩;simp only[hH1];have h1M:a3q H1=M:=by rw[<-hH1,j9b,j8f,hMN]
  have h1hM:a1a H1 k=AN (.mapv AK [.u8,.i64] kk vs):=by rw[<-hH1,j8a (by rw[j7w (by omega)];exact hM)];simp only[Ad];rw[<-hvs,j9l fun j h1 h2=>by have:=(hP j (by omega)).1;omega]
  have h1hE:a1a H1 (k+1)=AN (.arr 2 (Sg.nadd m 1) (Sg.app m CE (AW [[.int .u8 (.v (A (Q i) look)),.int .i64 (.v (B (Q i) look))]]))):=by rw[<-hH1,j8a (j7z (by omega))];rfl
  have h1L0:=j8t h1M;have h1L1:=k0s h1M;have h1L2:=j9k h1M;have h1S0:=j9h h1M;have h1S1:=k1z h1M;have h1LM:=fun X=>j7r (m:=X) h1hM;have h1LE:=fun X=>j7r (m:=X) h1hE;simp only[j7f,j7i,j7k,j7h,j7e,j7d,j7s,j7v,j7j,j7g,j7o,h1M,h1L0,h1L1,h1L2,h1S0,h1S1,j7n,j7l,a2u,a3q,a2x,AB,AA,h1LM,h1LE,f2,j7m];cbv;simp only[j7f,j7i,j7k,j7h,j7e,j7d,j7s,j7v,j7j,j7g,j7o,h1M,h1L0,h1L1,h1L2,h1S0,h1S1,j7n,j7l,a2u,a3q,a2x,AB,AA,h1LM,h1LE,f2,j7m];cbv;simp only[j7f,j7i,j7k,j7h,j7e,j7d,j7s,j7v,j7j,j7g,j7o,h1M,h1L0,h1L1,h1L2,h1S0,h1S1,j7n,j7l,a2u,a3q,a2x,AB,AA,h1LM,h1LE,f2,j7m];cbv;simp only[j7f,j7i,j7k,j7h,j7e,j7d,j7s,j7v,j7j,j7g,j7o,h1M,h1L0,h1L1,h1L2,h1S0,h1S1,j7n,j7l,a2u,a3q,a2x,AB,AA,h1LM,h1LE,f2,j7m];have hkl:a3q kk=m:=by rw[<-hkk,a0u,Ab,hm]
  have hvl:a3q vs=m:=by rw[<-hvs,a0u,Ab,Ak]
  have h1SM: ∀X x,a2x (a2u H1 X) k x=a2u (a2x H1 k x) X:=fun X x=>j8j (by omega);have en2: ∀k:Nat,Aw Sg (IX.v ((k:Nat):Int))=k:=en;refine a1g hS (k1t hS b1) (a1g hS (e7p hS b2) ?_);cbv;simp only[j7f,j7i,j7k,j7h,j7e,j7d,j7s,j7v,j7j,j7g,j7o,h1M,h1L0,h1L1,h1L2,h1S0,h1S1,j7n,j7l,a2u,a3q,a2x,AB,AA,h1SM,hkl,hvl,e.ofNat,en2];obtain⟨H2,hH2⟩: ∃z,a2x H1 k (.mapv AK [.u8,.i64] (a2u kk [[.i (A (Q i) look),.i (B (Q i) look)]]) (a2u vs [.d .nil]))=z:=⟨_,rfl⟩;simp only[hH2];have h2M:a3q H2=M:=by rw[<-hH2,j8f,h1M]
  have h2hM:a1a H2 k=AN (.mapv AK [.u8,.i64] (a2u kk [[.i (A (Q i) look),.i (B (Q i) look)]]) (a2u vs [.d .nil])):=by rw[<-hH2,j7z (by omega)]
  have h2hE:a1a H2 (k+1)=AN (.arr 2 (Sg.nadd m 1) (Sg.app m CE (AW [[.int .u8 (.v (A (Q i) look)),.int .i64 (.v (B (Q i) look))]]))):=by rw[<-hH2,j7w (by omega)];exact h1hE
  have h2L0:=j8t h2M;have h2L1:=k0s h2M;have h2L2:=j9k h2M;have h2LM:=fun X=>j7r (m:=X) h2hM;have h2SM: ∀X x,a2x (a2u H2 X) k x=a2u (a2x H2 k x) X:=fun X x=>j8j (by omega);refine a1g hS (e8l hS (by omega)) ?_;simp only[j7f,j7i,j7k,j7h,j7e,j7d,j7s,j7v,j7j,j7g,j7o,h2M,h2L0,h2L1,h2L2,j7n,j7l,a2u,a3q,a2x,AB,AA,h2LM,h2SM,hkl,hvl,e.ofNat,en2];cbv;simp only[j7f,j7i,j7k,j7h,j7e,j7d,j7s,j7v,j7j,j7g,j7o,h2M,h2L0,h2L1,h2L2,j7n,j7l,a2u,a3q,a2x,AB,AA,h2LM,h2SM,hkl,hvl,e.ofNat,en2];refine a1g hS (a5p hS (AZ m)) ?_;cbv;refine a1g hS (e1n hS (by omega)) ?_;have hok2:=fun H'=>G1.ok_new (H':=H') (M:=M) hR (by omega) hk0 hf0 hMN (hQ i) hKS hin;rw[hm,hvs,hkk,hkey] at hok2;refine hN ⟨i+1,_,_,fun j=>if j=m then M+2 else P j⟩ _ (hok2 _ ?_ ?_ ?_ ?_ ?_) (by simp only;omega) (b4w.le (a4c rfl ⟨AC _,AC _,AC _,AC _,?_,AC _,AC _,b2s hS,trivial⟩ (.same _) ?_ (.inr rfl) (j7y _)))
  ·simp only[j7l,j8f,h2M,a3q];omega
  ·rw[j7r (j7z (by omega))];simp only[e.toNat,AD,AG,j9h hvl,a2x]
  ·refine⟨Sg.app m CE (AW [[.int .u8 (.v (A (Q i) look)),.int .i64 (.v (B (Q i) look))]]),?_,fun ce hce j hj=> ?_,?_⟩
   ·rw[j7r ((j7w (show k≠k+1 by omega)).trans h2hE)];simp only[e.nadd]
   ·rw[hE] at hce;cases hce;simp only[e.app,if_pos hj]
   ·simp only[e.app,if_neg (Ap m),Ar];rw[<-hX,VaR.row,hA,hB];rfl
  ·intro x o hx h1 h2 ho hf;refine j7r ((j7w (Ne.symm h1)).trans ?_);rw[<-hH2,j7w (Ne.symm h1),<-hH1,j8a ((j7w (Ne.symm h2)).trans ho),hf]
  ·refine⟨_,(j9k (by rw[j8f,h2M]) _).trans rfl,?_⟩;rw[hrow];rfl
  ·simp only[G1.ks];rw[show (j8r X (l.take (i+1))).length=m+1 by rw[j8k (by omega),j8m,hKS,hQ,if_neg hin];simp[hm]];exact d8n hS
  ·rw[hbs,<-a0u,<-a0u];simp only[j7l,j8f,h2M,hk0];omega
theorem k3n {n:Nat}(hn:0<n)(r0 r1 r2 r3 r4 r5 r6 r7:DV)(e:Nat->List DV)(s0 s1 s2 s3 s4 s5 s6 s7:DV)(b c:Bool)(he:e 0=[s0,s1,s2,s3,s4,s5,s6,s7,.bool c]):
 a1h AI 169 [.agg [.d r0,.d r1,.d r2,.d r3,.d r4,.d r5,.d r6,.d r7,.d (.bool b)],.ptr 0 0] [.var [.d (.sl 9 n e)]]
  (fun pg v h'=>pg=[]/\v= .d (.bool (b==c))/\h'=[.var [.d (.sl 9 n e)]]):=by
 refine h3w AJ okP f1e rfl fun E Sg hbs hS Fk hFk=> ?_;have en:=b2k hS;have e1:Aw Sg (IX.l (AP 0))=0:=by first|rfl|simp[Aw,en.toNat]
 cbv;refine a1g hS (a5p hS hn) ?_;simp only[e1,he];cbv;simp only[e1,he];cbv;refine⟨[],by simp,hFk (h1:=[.var [.d (.sl 9 n e)]]) (.cons (.refl _) (.nil _)) (v0:= .d (.bool (b==c))) ?_ (by simp) (.inl ⟨rfl,rfl⟩) ⟨rfl,rfl,rfl⟩⟩;have hb:Sg.beq b c=(b==c):=by subst hS;rfl
 rw[<-hb];exact AC _
abbrev sm0 (n:Nat)(e:Nat->List DV):a0f:= .var [.d (.sl 9 n e)]
abbrev sm1:a0f:= .var [.fn 169 [] [.ptr 0 0]]
theorem k3q {n:Nat}(hn:0<n)(A B:Nat->Int)(e:Nat->List DV)(s0 s1 s2 s3 s4 s5 s6 s7:DV)(b c:Bool)(he:e 0=[s0,s1,s2,s3,s4,s5,s6,s7,.bool c]):
 a1h AI 202 [.agg [.d (.int .u8 (.v (A 0))),.d (.int .i64 (.v (B 0))),.d (.int .u8 (.v (A 1))),.d (.int .i64 (.v (B 1))),.d (.int .u8 (.v (A 2))),.d (.int .i64 (.v (B 2))),.d (.int .u8 (.v (A 3))),.d (.int .i64 (.v (B 3))),.d (.bool b)],.ptr 1 0] [sm0 n e,sm1]
  (fun pg v h'=>pg=[]/\v= .d (.bool (!(b==c)))/\h'=[sm0 n e,sm1]):=by
 refine h3w AJ okP f2n rfl fun E Sg hbs hS Fk hFk=> ?_;have en:=b2k hS;cbv;refine h3v hS (a1h.frame (k3n hn _ _ _ _ _ _ _ _ e s0 s1 s2 s3 s4 s5 s6 s7 b c he) [0] rfl rfl ⟨a9v.refl _,trivial⟩) ?_;rintro pg v h' ⟨pg0,v0,h0,⟨rfl,rfl,rfl⟩,rfl,rfl,rfl⟩;obtain⟨q,hq⟩: ∃q,(b==c)=q:=⟨_,rfl⟩;rw[hq];cases q
 ·cbv;exact⟨[],by simp,hFk (h1:=[sm0 n e,sm1]) (.cons (.refl _) (.cons (.refl _) (.nil _))) (v0:= .d (.bool AK)) (AC _) (by simp) (.inl ⟨rfl,rfl⟩) ⟨rfl,by rw[hq];rfl,rfl⟩⟩
 ·cbv;exact⟨[],by simp,hFk (h1:=[sm0 n e,sm1]) (.cons (.refl _) (.cons (.refl _) (.nil _))) (v0:= .d (.bool AH)) (AC _) (by simp) (.inl ⟨rfl,rfl⟩) ⟨rfl,by rw[hq];rfl,rfl⟩⟩
theorem k3i {n:Nat}(hn:0<n)(hn6:n<=1000000)(e:Nat->List DV)(A B:Nat->Nat->Int)(G:Nat->Bool)(he: ∀i,e i=[.int .u8 (.v (A i 0)),.int .i64 (.v (B i 0)),.int .u8 (.v (A i 1)),.int .i64 (.v (B i 1)),.int .u8 (.v (A i 2)),.int .i64 (.v (B i 2)),.int .u8 (.v (A i 3)),.int .i64 (.v (B i 3)),.bool (G i)]):
 a1h AI 240 [.d (.sl 9 n e),.fn 202 [] [.ptr 1 0]] [sm0 n e,sm1]
  (fun pg v h'=>pg=[]/\h'=[sm0 n e,sm1]/\ ∃r:Int,v= .d (.int .i64 (.v r))/\((0<=r)↔ ∃i,i<n/\G i≠G 0)):=by
 refine h3w AJ okP e9c rfl fun E Sg hbs hS Fk hFk=> ?_;have en:=b2k hS;cbv;refine a7r AJ okP hS (fun i=>i<=n/\ ∀j,j<i->G j=G 0) (fun i=>n-i)
  (fun i=>⟨b5r [(0,.d (.sl 9 n e)),(1,.fn 202 [] [.ptr 1 0]),(7,int n),(8,int i)] 19,[sm0 n e,sm1],[]⟩) 0 ⟨by omega,fun j hj=>absurd hj (AM j)⟩ ?_ ?_
 ·exact a4c rfl ⟨AC _,AC _,b0a (en.ofNat _),a6c rfl,trivial⟩ (.same _) (by rw[hbs];simp) (.inr rfl) rfl
 rintro i ⟨hi,hg⟩ N hN;cbv;split
 ·rename_i h;have hlt:i<n:=AU.1 (b3h hS h);have e1: ∀k:Nat,Aw Sg (IX.v (AP k))=k:=fun k=>by simp only[Aw,en.toNat,AD,AG]
  cbv;simp only[e1,he i];refine a1g hS (a5p hS hlt) ?_;cbv;refine h3v hS (k3q hn (A i) (B i) e _ _ _ _ _ _ _ _ (G i) (G 0) (he 0)) ?_;rintro pg v h' ⟨rfl,rfl,rfl⟩;obtain⟨q,hq⟩: ∃q,(G i==G 0)=q:=⟨_,rfl⟩;rw[hq];cases q
  ·cbv;refine⟨[],by simp,hFk (h1:=[sm0 n e,sm1]) (.same _) (v0:=int i) (AC _) (by simp) (.inr rfl) ⟨rfl,rfl,_,rfl,⟨fun _=>⟨i,hlt,fun h=> ?_⟩,fun _=> ?_⟩⟩⟩
   ·rw[h] at hq;simp at hq
   ·exact Int.natCast_nonneg i
  ·cbv;refine a1g hS (e1n hS (by omega)) ?_;refine hN (i+1) _ ⟨hlt,fun j hj=> ?_⟩ (by omega) (a4c rfl ⟨AC _,AC _,AC _,b2s hS,trivial⟩ (.same _) (by rw[hbs];simp) (.inr rfl) rfl);by_cases ej:j=i
   ·subst ej;simpa using hq
   ·exact hg j (by omega)
 ·rename_i h;have hin:i=n:=by have:=b3r hS h;simp only[AD] at this;omega
  cbv;refine⟨[],by simp,hFk (h1:=[sm0 n e,sm1]) (.same _) (v0:= .d (.int .i64 (.v (-1)))) (a6c rfl) (by simp) (.inr rfl) ⟨rfl,rfl,_,rfl,⟨fun h=>by omega,fun⟨j,h1,h2⟩=>absurd (hg j (by omega)) h2⟩⟩⟩
theorem k3r {n:Nat}(hn:0<n)(hn6:n<=1000000)(e:Nat->List DV)(A B:Nat->Nat->Int)(G:Nat->Bool)(he: ∀i,e i=[.int .u8 (.v (A i 0)),.int .i64 (.v (B i 0)),.int .u8 (.v (A i 1)),.int .i64 (.v (B i 1)),.int .u8 (.v (A i 2)),.int .i64 (.v (B i 2)),.int .u8 (.v (A i 3)),.int .i64 (.v (B i 3)),.bool (G i)])(d:Bool)(hd:d=AK↔ ∃i,i<n/\G i≠G 0):
 a1h AI 201 [.d (.sl 9 n e),.fn 202 [] [.ptr 1 0]] [sm0 n e,sm1] (fun pg v h'=>pg=[]/\h'=[sm0 n e,sm1]/\v= .d (.bool d)):=by
 refine h3w AJ okP f2d rfl fun E Sg hbs hS Fk hFk=> ?_;cbv;refine h3v hS (k3i hn hn6 e A B G he) ?_;rintro pg v h' ⟨rfl,rfl,r,rfl,hr⟩;have hb:Sg.ile (AP 0) r=d:=by subst hS;show decide ((0:Int)<=r)=d;rw[Bool.eq_iff_iff,hd,decide_eq_true_eq,hr]
 cbv;simp only[hb];exact⟨[],by simp,hFk (h1:=[sm0 n e,sm1]) (.same _) (AC _) (by simp) (.inr rfl) ⟨rfl,rfl,rfl⟩⟩
theorem k4h {n:Nat}(hn:0<n)(hn6:n<=1000000)(e:Nat->List DV)(A B:Nat->Nat->Int)(G:Nat->Bool)(he: ∀i,e i=[.int .u8 (.v (A i 0)),.int .i64 (.v (B i 0)),.int .u8 (.v (A i 1)),.int .i64 (.v (B i 1)),.int .u8 (.v (A i 2)),.int .i64 (.v (B i 2)),.int .u8 (.v (A i 3)),.int .i64 (.v (B i 3)),.bool (G i)])(d:Bool)(hd:d=AK↔ ∃i,i<n/\G i≠G 0):
 a1h AI 168 [.d (.sl 9 n e),.fn 169 [] [.ptr 0 0]] [sm0 n e] (fun pg v h'=>pg=[]/\h'=[sm0 n e]/\v= .d (.bool (!d))):=by
 refine h3w AJ okP f1r rfl fun E Sg hbs hS Fk hFk=> ?_;cbv;refine h3v hS (k3r hn hn6 e A B G he d hd) ?_;rintro pg v h' ⟨rfl,rfl,rfl⟩;cases d
 ·cbv;exact⟨[],by simp,hFk (h1:=[sm0 n e]) (.cons (.refl _) (.nil _)) (v0:= .d (.bool AK)) (AC _) (by simp) (.inl ⟨rfl,rfl⟩) ⟨rfl,rfl,rfl⟩⟩
 ·cbv;exact⟨[],by simp,hFk (h1:=[sm0 n e]) (.cons (.refl _) (.nil _)) (v0:= .d (.bool AH)) (AC _) (by simp) (.inl ⟨rfl,rfl⟩) ⟨rfl,rfl,rfl⟩⟩
theorem k2h {n:Nat}(hn:0<n)(hn6:n<=1000000)(e:Nat->List DV)(A B:Nat->Nat->Int)(G:Nat->Bool)(he: ∀i,e i=[.int .u8 (.v (A i 0)),.int .i64 (.v (B i 0)),.int .u8 (.v (A i 1)),.int .i64 (.v (B i 1)),.int .u8 (.v (A i 2)),.int .i64 (.v (B i 2)),.int .u8 (.v (A i 3)),.int .i64 (.v (B i 3)),.bool (G i)])(d:Bool)(hd:d=AK↔ ∃i,i<n/\G i≠G 0):
 a0j AI AH 130 [.d (.sl 9 n e)] (.d (.bool (!d))):=by
 refine a0k AJ okP e7l _ rfl fun E Sg hbs hS=> ?_;cbv;refine h3v hS (k4h hn hn6 e A B G he d hd) ?_;rintro pg v h' ⟨rfl,rfl,rfl⟩;cases d
 ·cbv;exact fun _ _ _ _ h=>h
 ·cbv;exact fun _ _ _ _ h=>h
theorem k2q (x y:DV)(c:Int)(hx: ∃n e,x= .sl 9 n e):a1h AI 132 [.d x,int c] []
 (fun pg v h'=>pg=[]/\v= .fn 172 [] [.ptr 0 0,.ptr 1 0]/\h'=[.var [.d x],.var [int c]]):=by
 obtain⟨n,e,rfl⟩:=hx;refine h3w AJ okP f0o rfl fun E Sg hbs hS Fk hFk=> ?_;cbv;exact⟨[],by simp,hFk (.same _) (AC _) (by simp) (.inr rfl) ⟨rfl,rfl,rfl⟩⟩
def k4m (i:Nat):List AV:=[.d (.bool (decide (0<i))),.d (.bool (decide (1<i))),.d (.bool (decide (2<i))),.d (.bool (decide (3<i)))]
theorem k3k {nl:Nat}(hn:nl<=4)(x0 x1:DV)(tl:List DV):a0j AI AH 147 [.dptr (x0::x1:: .int .i64 (.v nl)::tl) 0] (.agg (k4m nl)):=by
 refine a0k AJ okP e8s _ rfl fun E Sg hbs hS=> ?_;have en:=b2k hS;obtain⟨Z,hZ⟩: ∃z:Int,(nl:Int)=z:=⟨_,rfl⟩;obtain⟨f,hf⟩: ∃f:Nat->List AV,∀i,k4m i=f i:=⟨_,fun _=>rfl⟩;have f0:f 0=[.d (.bool AH),.d (.bool AH),.d (.bool AH),.d (.bool AH)]:=(hf 0).symm;have f1:f 1=[.d (.bool AK),.d (.bool AH),.d (.bool AH),.d (.bool AH)]:=(hf 1).symm;have f2:f 2=[.d (.bool AK),.d (.bool AK),.d (.bool AH),.d (.bool AH)]:=(hf 2).symm;have f3:f 3=[.d (.bool AK),.d (.bool AK),.d (.bool AK),.d (.bool AH)]:=(hf 3).symm;have f4:f 4=[.d (.bool AK),.d (.bool AK),.d (.bool AK),.d (.bool AK)]:=(hf 4).symm;rw[hZ,hf];clear hf;cbv;refine a7r AJ okP hS (fun i=>i<=nl) (fun i=>nl-i)
  (fun i=>⟨b5r [(2,.ptr 0 0),(7,.d (.int .i64 (.v Z))),(8,int i)] 15,[.var (f i)],[]⟩) 0 (Ah _) ?_ ?_
 ·exact a4c rfl ⟨AC _,AC _,a6c rfl,trivial⟩ (.cons (by rw[f0];exact .refl _) (.nil _)) (by rw[hbs];simp) (.inr rfl) rfl
 intro i hi N hN;cbv;split
 ·rename_i h;have hlt:i<nl:=by rw[<-hZ] at h;exact AU.1 (b3h hS h)
  obtain rfl|rfl|rfl|rfl:i=0\/i=1\/i=2\/i=3:=by omega
  ·rw[f0];cbv;refine a1g hS (a5p hS (show 0<4 by omega)) ?_;simp only[en.nadd,en.nmul,en.toNat,AD,AG,AB,Aa];cbv;refine a1g hS (e1n hS (by omega)) ?_;exact hN 1 _ hlt (by omega) (a4c rfl ⟨AC _,AC _,b2s hS,trivial⟩ (.cons (by rw[f1];exact .refl _) (.nil _)) (by rw[hbs];simp) (.inr rfl) rfl)
  ·rw[f1];cbv;refine a1g hS (a5p hS (show 1<4 by omega)) ?_;simp only[en.nadd,en.nmul,en.toNat,AD,AG,AB,Aa];cbv;refine a1g hS (e1n hS (by omega)) ?_;exact hN 2 _ hlt (by omega) (a4c rfl ⟨AC _,AC _,b2s hS,trivial⟩ (.cons (by rw[f2];exact .refl _) (.nil _)) (by rw[hbs];simp) (.inr rfl) rfl)
  ·rw[f2];cbv;refine a1g hS (a5p hS (show 2<4 by omega)) ?_;simp only[en.nadd,en.nmul,en.toNat,AD,AG,AB,Aa];cbv;refine a1g hS (e1n hS (by omega)) ?_;exact hN 3 _ hlt (by omega) (a4c rfl ⟨AC _,AC _,b2s hS,trivial⟩ (.cons (by rw[f3];exact .refl _) (.nil _)) (by rw[hbs];simp) (.inr rfl) rfl)
  ·rw[f3];cbv;refine a1g hS (a5p hS (show 3<4 by omega)) ?_;simp only[en.nadd,en.nmul,en.toNat,AD,AG,AB,Aa];cbv;refine a1g hS (e1n hS (by omega)) ?_;exact hN 4 _ hlt (by omega) (a4c rfl ⟨AC _,AC _,b2s hS,trivial⟩ (.cons (by rw[f4];exact .refl _) (.nil _)) (by rw[hbs];simp) (.inr rfl) rfl)
 ·rename_i h;have hin:i=nl:=by rw[<-hZ] at h;exact Nat.le_antisymm hi (Int.ofNat_le.1 (b3r hS h))
  subst hin;obtain⟨r,hr⟩: ∃r,f i=r:=⟨_,rfl⟩;obtain rfl|rfl|rfl|rfl|rfl:i=0\/i=1\/i=2\/i=3\/i=4:=by omega
  ·rw[f0];cbv;exact fun _ _ _ _ h=>h
  ·rw[f1];cbv;exact fun _ _ _ _ h=>h
  ·rw[f2];cbv;exact fun _ _ _ _ h=>h
  ·rw[f3];cbv;exact fun _ _ _ _ h=>h
  ·rw[f4];cbv;exact fun _ _ _ _ h=>h
theorem k4a:a0j AI AH 146 [] (.agg [.d (.int .i64 (.v (-1))),.d .nil,.d .nil]):=by
 refine a0k AJ okP f2p _ rfl fun E Sg hbs hS=> ?_;cbv;intro w S ρ v h;cases h with
 |agg cs vs hl h=>
  refine .agg _ _ hl fun i x v hx hv=> ?_
  match i,hx with
  |0,hx=>cases hx;exact a6c rfl w S ρ v (h 0 _ v rfl hv)
  |1,hx=>exact h 1 _ v hx hv
  |2,hx=>exact h 2 _ v hx hv
theorem k3v {k y a b:Nat}(hyk:y<k)(hak:a<k)(hbk:b<k)(C D:Nat->List a0f)(hCk: ∀p,a3q (C p)=k)(hDk: ∀p,a3q (D p)=k)(hCl: ∀p,d5i k (C p)=AK)(hDl: ∀p,d5i k (D p)=AK)
 (l:List Nat) (hl0:l≠[]) (hll:l.length<=1000000) (look:Nat) (hlook:look<4) (F:Nat->Nat->VaR) (g:Nat->Bool)
 (hok: ∀q,q∈l->a1i (F q look)/\0<=(F q look).fault) (ha0:a1a (C 0) a=AN (.var [.d (.sl 9 l.length fun j=>spR F g (l.getD j 0))])) (hb0:a1a (C 0) b=AN (.var [int look]))
 (X:Nat->VaR) (hX: ∀q,F q look=X q) (SS:Nat->VaR) (hSS: ∀p,(cellsOf X l).getD p ⟨0,0⟩=SS p) (NN:Nat) (hNN:(cellsOf X l).length=NN) (z:Nat->Bool)
 (W:List Nat) (hW: ∀x,x∈W->x<k/\x≠y)
 (hy: ∀(p n:Nat) (pe:Nat->List DV),p<NN->(∀j,j<p->z j=AK)->(j7u X (SS p) l).length=n->(∀i,i<n->pe i=spR F g ((j7u X (SS p) l).getD i 0))->
   b5d AI y [(SS p).av,.msl k 9 AX n AH] (a2u (C p) [.arr 9 n pe]) (fun pg v h'=>(∀x,x∈pg->x∈W)/\v= .d (.bool (z p))/\ ∃o,h'=a2u (if z p=AK then C (p+1) else D p) [o])):
 a1h AI 172 [.yl y,.ptr a 0,.ptr b 0] (C 0) (fun pg v h'=>pg=W/\v= .tuple []/\(((∀j,j<NN->z j=AK)/\h'=C NN)\/ ∃p,p<NN/\(∀j,j<p->z j=AK)/\z p=AH/\h'=D p)):=by
 obtain⟨CC,hc0,hcs⟩: ∃CC:Nat->List a0f,CC 0=C 0/\ ∀q,CC (q+1)=if z q=AK then C (q+1) else D q:=⟨fun p=>match p with|0=>C 0|q+1=>if z q=AK then C (q+1) else D q,rfl,fun _=>rfl⟩;have hCCk: ∀p,a3q (CC p)=k:=fun p=>by
  cases p with
  |zero=>rw[hc0];exact hCk 0
  |succ q=>rw[hcs];split;exact hCk _;exact hDk _
 have hCCl: ∀p,d5i k (CC p)=AK:=fun p=>by
  cases p with
  |zero=>rw[hc0];exact hCl 0
  |succ q=>rw[hcs];split;exact hCl _;exact hDl _
 have hCCg: ∀p,(∀j,j<p->z j=AK)->CC p=C p:=fun p hp=>by
  cases p with
  |zero=>exact hc0
  |succ q=>rw[hcs,if_pos (hp q (AZ q))]
 have hgl: ∀{x:Nat} {o:a0f} {p:Nat},a1a (CC p) x=AN o->o.low k=AK:=fun {x o p} h=>c1k (hCCl p) (by rw[<-a0i];exact h);have h:=k2m hyk hak hbk (C 0) (hCk 0) l hl0 hll look hlook F g hok ha0 hb0 (fun x o i hx ho hi=>a0f.forget_low hi (hgl (p:=0) (by rw[hc0];exact ho))) X hX SS hSS NN hNN z W hW (fun K1 p H=>k3e k H (CC p)) (fun H h1 h2=>by rw[hc0];exact h2) ?_
 ·refine a1h.cut (a1h.mono ?_ h);rintro pg v h' ⟨rfl,rfl,K1,p,g1,g2,g3,g4,g5⟩;have hlen:k<=a3q h':=by obtain⟨o,ho⟩:=j9o (l:=CC p) (i:=k-1) (by rw[hCCk];omega);have h1:=g3 (k-1) (by omega);rw[ho] at h1;have:=j8l h1;omega
  have hL:a4k h' (CC p):=a4k.of_get (by rw[<-a0u,<-a0u,hCCk];exact hlen) fun i o o' ho ho'=>by
   have hi:i<k:=by rw[<-hCCk p];rw[<-a0i] at ho';exact j8l ho'
   have h1:=g3 i hi;rw[a0i,a0i,ho,ho'] at h1;cases h1;exact a9v.refl _
  have hk:(C 0).length=k:=by rw[<-a0u];exact hCk 0
  have hk2:(CC p).length=k:=by rw[<-a0u];exact hCCk p
  refine⟨CC p,.tuple [],hL,AC _,by omega,.inl ⟨rfl,by rw[hk2];exact hCCl p⟩,rfl,rfl,?_⟩;cases p with
  |zero=>
   have:NN=0:=by
    rcases Nat.eq_zero_or_pos NN with h|h
    ·exact h
    ·obtain⟨j,hj,_⟩:=g5 h;omega
   subst this;exact .inl ⟨fun j hj=>absurd hj (AM j),hc0⟩
  |succ q=>
   cases hz:z q with
   |true=>
    have hq:q+1=NN:=by
     rcases Nat.lt_or_ge (q+1) NN with h|h
     ·obtain⟨j,hj,h2⟩:=g5 h;obtain rfl:q=j:=by omega
      rw[hz] at h2;cases h2
     ·omega
    have hall: ∀j,j<NN->z j=AK:=fun j hj=>by
     by_cases e:j=q
     ·rw[e];exact hz
     ·exact g4 j (by omega)
    exact .inl ⟨hall,by rw[hq];exact hCCg NN hall⟩
   |false=>exact .inr ⟨q,by omega,fun j hj=>g4 j (by omega),hz,by rw[hcs,hz];rfl⟩
 ·intro K1 p H Q n pe o h1 h2 h3 h4 h5 h6 h7 h8 h9 h10;have hC:=hCCg p h4;rw[hC] at h5;have hlen:k<=a3q H:=by omega
  have hQ:Q<a3q H:=j8l h9;obtain⟨pos,hpos⟩: ∃pos,At 0 k++[Q]=pos:=⟨_,rfl⟩;have hpl:pos.length=k+1:=by rw[<-hpos];simp
  have hp1: ∀i,i<k->pos[i]? =AN i:=fun i hi=>by rw[<-hpos,AR (by simpa using hi),Ag hi];simp
  have hp2:pos[k]? =AN Q:=by rw[<-hpos,Ac (by simp)];simp
  have hpm: ∀x,x∈pos↔x<k\/x=Q:=fun x=>by rw[<-hpos];simp
  have hnd:pos.Nodup:=by rw[<-hpos];refine List.nodup_append.2 ⟨List.nodup_range',by simp,fun a ha b hb e=> ?_⟩;simp at ha hb;omega
  have hplt: ∀x,x∈pos->x<(a2u H [o]).length:=fun x hx=>by
   rw[<-a0u,j7l];rcases (hpm x).1 hx with h|h<;>simp only[a3q]<;>omega
  obtain⟨π,hπ⟩: ∃f,b2u pos (a3q (a2u H [o]))=f:=⟨_,rfl⟩;have hπ1: ∀i,i<k->π i=i:=fun i hi=>by have:=h9j (base:=a3q (a2u H [o])) (pos:=pos) (i:=i) (by omega);rw[hp1 i hi,hπ] at this;exact (Option.some.inj this).symm
  have hπ2:π k=Q:=by have:=h9j (base:=a3q (a2u H [o])) (pos:=pos) (i:=k) (by omega);rw[hp2,hπ] at this;exact (Option.some.inj this).symm
  have hlowC:d5i k (C p)=AK:=hCl p;have hf:=(hy p n pe h3 h4 h8 h10).frame (H:=a2u H [o]) (l':=y) (args':=[(SS p).av,.msl Q 9 AX n AH]) pos hnd (by rw[hπ,hπ1 y hyk]) (by
   rw[hπ];simp only[AV.renL,VaR.av,AV.ren,u8,int,hπ2]) (by
   rw[hπ,show i2l π (a2u (C p) [.arr 9 n pe])=C p++[.arr 9 n pe] by
    rw[h5f,a0r,Ao,<-h5f,k1o hπ1 hlowC];rfl]
   refine k0c (by rw[Al,<-a0u (C p),hCk,hpl];rfl) fun i lx ox hl ho=> ?_;by_cases hi:i<k
   ·rw[hp1 i hi] at hl;cases hl;rw[AR (by rw[<-a0u (C p),hCk];exact hi),<-a0i] at ho;exact⟨ox,j7r ((h5 i hi).trans ho),a9v.refl _⟩
   ·have hik:i=k:=by have:=(List.getElem?_eq_some_iff.1 hl).1;omega
    subst hik;rw[hp2] at hl;cases hl;rw[Ac (by rw[<-a0u (C p),hCk];exact Av _),<-a0u (C p),hCk] at ho;simp at ho;subst ho;exact⟨_,j7r h9,a9v.refl _⟩)
  refine b5d.mono ?_ hf;rintro pg v h' ⟨pg0,v0,h0,⟨k1,rfl,o1,rfl⟩,k2,rfl,k3⟩;rw[hπ] at k2 k3;have hpg:pg=pg0:=by rw[k2,a5m];exact (List.map_congr_left fun x hx=>hπ1 x (hW x (k1 x hx)).1).trans (List.map_id _)
  subst hpg;have hCx:(if z p=AK then C (p+1) else D p)=CC (p+1):=(hcs p).symm;rw[hCx,h5f,a0r (CC (p+1)),Ao,<-h5f,k1o hπ1 (hCCl _)] at k3;obtain⟨o2,ho2⟩: ∃z,[o1].map (a0f.ren π)=[z]:=⟨_,rfl⟩;rw[ho2] at k3;have hfl:(h4b pg (a2u H [o])).length=(a2u H [o]).length:=h6c _ _;have hHl:(a2u H [o]).length=a3q H+1:=by rw[<-a0u,j7l];rfl
  have hxl:(CC (p+1)++[o2]).length=k+1:=by rw[Al,<-a0u (CC (p+1)),hCCk];rfl
  refine⟨k1,rfl,?_,fun x hx=> ?_,fun x o' g1 g2 g3 g4 g5=> ?_⟩
  ·rw[k3,a0u (h4m _ _ _),h5m (by omega),hfl,hHl];omega
  ·have:=h5u (H:=h4b pg (a2u H [o])) (os:=CC (p+1)++[o2]) (i:=x) hnd (fun x hx=>by rw[hfl];exact hplt x hx) (by omega) (by omega);rw[hfl,<-a0u (a2u H [o]),hπ,hπ1 x hx,<-k3,AR (by rw[<-a0u (CC (p+1)),hCCk];exact hx)] at this;rw[a0i,a0i];exact this
  ·rw[a0i,k3,h4n (by rw[hfl,hHl];omega) (fun hm=>by rcases (hpm x).1 hm with h|h<;>omega),h5y,<-a0i,j7r g4,Am];congr 1;have: ∀pg:List Nat,(∀q,q∈pg->o'.forget q AH=o')->h4h pg o'=o':=by
    intro pg
    induction pg with
    |nil=>intro _;rfl
    |cons q pg ih=>intro h;rw[h4h,h q (by simp)];exact ih fun q hq=>h q (List.mem_cons_of_mem _ hq)
   exact this pg fun q hq=>g5 q (k1 q hq)
def k4p:a0c×a0c:=match h2n with
 | .seq _ (.scope (.seq _ (.seq _ (.seq _ (.seq (.seq _ (.block _ (.loop (.seq _ (.seq _ (.seq (.block _ (.seq _ (.seq _ (.seq _ (.seq _ (.seq _ (.seq (.seq _ (.block _ (.range _ _ a b))) _))))))) _)))))) _)))))=>(a,b)
 |_=>(.ret,.ret)
def k1j (s:LSt):a0f:= .loop s (b5r [(3,.ptr 0 0),(10,.ptr 5 0),(11,.ptr 6 0),(12,.ptr 7 0)] 86) [44,45] (fun ca cb=>comp AI g2j.A ca=AN k4p.1/\comp AI g2j.A cb=AN k4p.2)
def k0z (trow:List DV)(a0 a1 a2 a3:Bool)(bj:Int)(bn:Nat)(be bp:Nat->List DV)(b0 b1 b2 b3:Bool)(i mx:Int)(sn:Nat)(se:Nat->List DV)(lp:a0f)(p:Nat)(ce pe:Nat->List DV):List a0f:=
 [.var [.dptr trow 0],.var [bool a0,bool a1,bool a2,bool a3],.var [int bj,.msl 3 2 AX bn AH,.msl 4 3 AX bn AH],.arr 2 bn be,.arr 3 bn bp,.var [bool b0,bool b1,bool b2,bool b3],.var [int i,.msl 11 2 AX p AH,.msl 12 3 AX p AH],.var [int mx],.var [.d (.sl 9 sn se)],.var [int i],lp,.arr 2 p ce,.arr 3 p pe]
theorem k3b (trow:List DV)(a0 a1 a2 a3:Bool)(bj:Int)(bn:Nat)(be bp:Nat->List DV)(b0 b1 b2 b3:Bool)(i mx mx':Int)(sn:Nat)(se:Nat->List DV)(p:Nat)(ce pe ce' pe':Nat->List DV)(n:Nat)(e9:Nat->List DV)(vf vn lk d:Int)(nc nn:Nat)(Cc Ee:Nat->List DV)(z:Bool)
 (hp:p<=1000000) (h110:a0j AI AH 110 [.dptr trow 0,.d (.sl 9 n e9),.agg [bool b0,bool b1,bool b2,bool b3]] (.tuple [.agg [int lk,.d (.sl 2 nc Cc),.d (.sl 3 nn Ee)],int d,bool z]))
 (hce: ∀j,j<p->RL (ce j) (ce' j)) (hce2:ce' p=[.int .u8 (.v vf),.int .i64 (.v vn)]) (hpe: ∀j,j<p->RL (pe j) (pe' j)) (hpe2:z=AK->RL [.int .i64 (.v lk),.sl 2 nc Cc,.sl 3 nn Ee] (pe' p)) (hmx:z=AK->mx'=if mx<d then d else mx):
 b5d AI 10 [.agg [u8 vf,int vn],.msl 13 9 AX n AH] (a2u (k0z trow a0 a1 a2 a3 bj bn be bp b0 b1 b2 b3 i mx sn se (k1j .ready) p ce pe) [.arr 9 n e9])
  (fun pg v h'=>(∀x,x∈pg->x∈[11,12])/\v= .d (.bool z)/\ ∃o,h'=a2u (if z=AK then k0z trow a0 a1 a2 a3 bj bn be bp b0 b1 b2 b3 i mx' sn se (k1j .ready) (p+1) ce' pe' else k0z trow a0 a1 a2 a3 bj bn be bp b0 b1 b2 b3 i mx sn se (k1j (.done (.exit 1))) p ce pe) [o]):=by
 refine b5d.cut (b9t AJ okP (A:=g2j.A) rfl (fun _ _ h=>h) rfl fun ro E Sg hS=> ?_);have e:=b2k hS;cbv;refine⟨fun h=>(nomatch h),_,_,_,rfl,?_⟩;cbv;refine a1g hS (e8l hS (Av _)) ?_;refine a0v hS _ h110 ?_;cases z
 ·cbv;refine⟨fun h=>(nomatch h),_,_,_,rfl,[],fun m _ h=>h,?_⟩;refine⟨a2u (k0z trow a0 a1 a2 a3 bj bn be bp b0 b1 b2 b3 i mx sn se (k1j (.done (.exit 1))) p ce pe) [.frz 9 n e9],.d (.bool AH),?_,AC _,by simp[k0z,a2u],.inl ⟨rfl,rfl⟩,fun x h=>(nomatch h),rfl,_,rfl⟩;exact .cons (.refl _) (.cons (.refl _) (.cons (.refl _) (.cons (.refl _) (.cons (.refl _) (.cons (.refl _) (.cons (.refl _) (.cons (.refl _) (.cons (.refl _) (.cons (.refl _) (.cons (.refl _) (.cons (.refl _) (.cons (.refl _) (.cons (.refl _) (.nil _))))))))))))))
 ·cbv;refine a1g hS trivial (a1g hS (f1i hS (by omega)) (a1g hS (c3d hS) (a1g hS (c3d hS) (a1g hS trivial (a1g hS (f1i hS (by omega)) ?_)))));refine⟨fun h=>(by rcases h with _|⟨_,h⟩<;>rcases h with _|⟨_,h⟩<;>cases h),_,_,_,rfl,[12,11],fun m _ h=>h,?_⟩;have em:Sg.isel (Sg.ilt mx d) d mx=mx':=by rw[e.isel,e.ilt,hmx rfl];simp only[decide_eq_true_eq]
  refine⟨a2u (k0z trow a0 a1 a2 a3 bj bn be bp b0 b1 b2 b3 i mx' sn se (k1j .ready) (p+1) ce' pe') [.frz 9 n e9],.d (.bool AK),?_,AC _,by simp[k0z,a2u],.inl ⟨rfl,rfl⟩,fun x h=> ?_,rfl,_,rfl⟩
  ·exact .cons (.refl _) (.cons (.refl _) (.cons (.refl _) (.cons (.refl _) (.cons (.refl _) (.cons (.refl _) (.cons (.var (.cons (AC _) (.cons (d8n hS) (.cons (d8n hS) .nil)))) (.cons (.var (.cons (b0a em) .nil)) (.cons (.refl _) (.cons (.refl _) (.cons (.refl _)
    (.cons (d7h hS hce (by rw[hce2];exact .refl _)) (.cons (d7h hS hpe (hpe2 rfl)) (.cons (.refl _) (.nil _))))))))))))))
  ·simp only[List.mem_cons,List.not_mem_nil,or_false] at h⊢;omega
end Go.Proofs.Tryz.Run
