/- A round of the groups in the search of the best plan. Conditions: none. -/
import Derived.Test.YtbglklaocjifhaaGreatGXc
open Nat renaming succ_eq_add_one->AA,zero_add->AB,not_lt_zero->AL,lt_of_lt_of_eq->AS,not_le_of_lt->AX,lt_succ_self->AY,mul_one->AZ,le_trans->Ad,zero_le->Af,lt_irrefl->An,sub_self->Ap,le_of_eq->Aq,le_refl->As
open Go.Vf.ab renaming refl->AC
open Int renaming ofNat_eq_natCast->AD,toNat_natCast->AG,ofNat->AO,ofNat_lt->AT
open List renaming getD_eq_getElem?_getD->AE,getElem?_eq_getElem->AF,take_zero->AN,pairwise_iff_getElem->AP,getElem?_append_left->AQ,length_map->Aa,getElem?_append_right->Ab,getElem?_range'->Ae,getElem_of_mem->Ag,length_range'->Ai,length_append->Aj,length_take->Al,map_append->Am,range'->Ar
open Bool renaming false->AH,true->AK,false_eq_true->AR
open Go.Proofs.Tryz renaming prog->AI
open Go.Proofs.YtbglklaocjifhaaGreat.Tryz renaming mixed->AJ
open Option renaming some->AM,none->AW,getD_some->Ah,map_some->Ak
open Go.Vf renaming rowAt->AU,nat->At
open Go.Vf.AV renaming ip->Ac,bi->Ao
set_option linter.unusedSimpArgs false
set_option linter.unusedVariables false
set_option maxHeartbeats 0
set_option maxRecDepth 100000
namespace Go.Proofs.Tryz.Run
open Go Go.Vf Go.Proofs
open Go.Proofs.YtbglklaocjifhaaGreat
theorem k0u {ts:List AV}{h:List ae}: ∀{pg mv:List Nat},(∀x,x∈pg->Ac x AH ts=ts)->St.i5 ⟨ts,h,mv⟩ pg=⟨ts,h,pg.reverse++mv⟩
 |[],_,_=>rfl
 |x::pg,mv,hp=>by rw[St.i5,hp x (by simp),k0u fun y hy=>hp y (by simp[hy])];simp
theorem k2x {ts:List AV}{h0 h:List ae}{pg mv:List Nat}(hp: ∀x,x∈pg->Ac x AH ts=ts):(St.ld ⟨ts,h0,mv⟩ h).i5 pg=⟨ts,h,pg.reverse++mv⟩:=k0u hp
structure G2 where
 p:Nat
 H:List ae
 mv:List Nat
structure G2.ok (k m K1:Nat)(W:List Nat)(PS:Nat->Nat)(H0:List ae)(I:Nat->Nat->List ae->Prop)(z:Nat->Bool)(s:G2):Prop where
 hp:s.p<=m
 hl:K1<=az s.H
 W3: ∀x o,k<=x->x<K1->(∀j,j<s.p->x≠PS j)->ax H0 x=AM o->(∀q,q∈W->o.forget q AH=o)->ax s.H x=AM o
 hI:I K1 s.p s.H
 hz: ∀j,j<s.p->z j=AK
 Wl: ∀x,x∈s.mv->x∈W\/k<=x
theorem k2m {k y a b:Nat}(hyk:y<k)(hak:a<k)(hbk:b<k)(C0:List ae)(ep:az C0=k)(l:List Nat)(yz:l≠[])(GI:l.length<=1000000)(look:Nat)(ud:look<4)(F:Nat->Nat->g8)(g:Nat->Bool)
 (dp: ∀q,q∈l->gb (F q look)/\0<=(F q look).fault) (If:ax C0 a=AM (.var [.d (.sl 9 l.length fun j=>WJ F g (l.getD j 0))])) (o7:ax C0 b=AM (.var [int look]))
 (vy: ∀x o i,x<k->ax C0 x=AM o->k<=i->o.forget i AH=o)
 (X:Nat->g8) (hX: ∀q,F q look=X q) (SS:Nat->g8) (ub: ∀p,(cellsOf X l).getD p ⟨0,0⟩=SS p) (NN:Nat) (ta:(cellsOf X l).length=NN) (z:Nat->Bool)
 (W:List Nat) (hW: ∀x,x∈W->x<k/\x≠y) (I:Nat->Nat->List ae->Prop) (hI0: ∀H,k<=az H->RR k H C0->I (az H) 0 H)
 (hy: ∀(K1 p:Nat) (H:List ae) (Q n:Nat) (pe:Nat->List DV) (o:ae),k<=K1->K1<=az H->p<NN->(∀j,j<p->z j=AK)->I K1 p H->k<=Q->Q<K1->(ey X (SS p) l).length=n->ax H Q=AM (.arr 9 n pe)->(∀i,i<n->pe i=WJ F g ((ey X (SS p) l).getD i 0))->
   lh AI y [(SS p).av,.bi Q 9 AW n AH] (ba H [o]) (fun pg v h'=>(∀x,x∈pg->x∈W)/\v= .d (.bool (z p))/\az H<=az h'/\I K1 (p+1) h'/\ ∀x o,k<=x->x<K1->x≠Q->ax H x=AM o->(∀q,q∈W->o.forget q AH=o)->ax h' x=AM o)):
 ay AI 172 [.yl y,.ptr a 0,.ptr b 0] C0 (fun pg v h'=>pg=W/\v= .tuple []/\ ∃K1 p,k<=K1/\p<=NN/\I K1 p h'/\(∀j,j+1<p->z j=AK)/\(p<NN-> ∃j,p=j+1/\z j=AH)):=by
 obtain⟨LL,hLL⟩:=xA l.length;obtain⟨Q,hQ⟩:=xB fun j:Nat=>l.getD j 0;obtain⟨A,hA⟩: ∃f:Nat->Nat->Int,∀q j,(F q j).fault=f q j:=⟨fun q j=>(F q j).fault,fun _ _=>rfl⟩;obtain⟨B,hB⟩: ∃f:Nat->Nat->Int,∀q j,(F q j).n=f q j:=⟨fun q j=>(F q j).n,fun _ _=>rfl⟩;have ft: ∀q,WJ F g q=[.int .u8 (.v (A q 0)),.int .i64 (.v (B q 0)),.int .u8 (.v (A q 1)),.int .i64 (.v (B q 1)),.int .u8 (.v (A q 2)),.int .i64 (.v (B q 2)),.int .u8 (.v (A q 3)),.int .i64 (.v (B q 3)),.bool (g q)]:=fun q=>by simp only[WJ,NR,hA,hB]
 obtain⟨Ra,hrw⟩: ∃f:Nat->List DV,∀q,f q=[.int .u8 (.v (A q 0)),.int .i64 (.v (B q 0)),.int .u8 (.v (A q 1)),.int .i64 (.v (B q 1)),.int .u8 (.v (A q 2)),.int .i64 (.v (B q 2)),.int .u8 (.v (A q 3)),.int .i64 (.v (B q 3)),.bool (g q)]:=⟨_,fun _=>rfl⟩;have Qe: ∀q,WJ F g q=Ra q:=fun q=>by rw[ft,hrw]
 simp only[hQ,hLL,Qe] at If;refine mh AJ ci e8w rfl fun E Sg gz hS Fk vg=> ?_;have e:=fh hS;cbv;simp only[gw,iq,fo,gx,ki,j8,ja,jb,ko,kg];simp only[tf If,ep];cbv;simp only[gw,iq,fo,gx,ki,j8,ja,jb,ko,kg];refine HO AJ ci hS (σ:=G1) (fun s=>s.ok k l X F g C0) (fun s=>l.length-s.i)
  (fun s=>⟨dn [(0,.yl y),(1,.ptr a 0),(2,.ptr b 0),(4,.map k),(5,.bi (k+1) 2 AW (s.ks X l).length AH),(12,.d (.sl 9 LL fun j=>Ra (Q j))),(13,int LL),(14,int s.i)] 56,s.H,s.mv⟩) ⟨0,ba (ba C0 [.dz AK [.u8,.i64] [] []]) [.arr 2 0 fun _=>[]],[],fun _=>0⟩ ?_ ?_ ?_
 ·refine⟨Af _,?_,fun x hx=> ?_,?_,⟨fun _=>[],?_,fun j hj=> ?_⟩,fun j hj=> ?_,fun j j' hj=> ?_,fun x hx=> ?_⟩
  ·simp only[jr,az,ep];omega
  ·obtain⟨o,ho⟩:=Th (l:=C0) (i:=x) (by omega);rw[tf (tf ho),ho]
  ·simp only[G1.ks,AN];exact tf (Tg ep _)
  ·simp only[G1.ks,AN];exact Tg (by simp only[jr,az,ep]) _
  ·simp only[G1.ks,AN] at hj;exact absurd hj (AL j)
  ·simp only[G1.ks,AN] at hj;exact absurd hj (AL j)
  ·simp only[G1.ks,AN] at hj;exact absurd hj (AL j)
  ·simp at hx
 ·refine (fp.gt 5 2 (fun _=>[]) rfl).trans (fp.le ?_);rw[<-fi,<-cv,jr,ep];exact bq rfl ⟨AC _,AC _,AC _,AC _,AC _,AC _,br (e.ofNat _),bg rfl,trivial⟩ (.same _) (by rw[gz,<-cv,<-cv];simp only[jr,ep];omega) (.inr rfl) rfl
 rintro⟨i,H,mv,P⟩ hR N hN;have hR0:=hR;obtain⟨hi,hlen,hC,hM,hE,hP,Vx,Wl⟩:=hR0;simp only[G1.ks,G1.pt] at hi hlen hC hM hE hP Vx Wl⊢;obtain⟨KS,jg⟩:=xA (ur X (l.take i));rw[jg] at hM hE hP Vx⊢;obtain⟨m,hm⟩:=xA KS.length;have hml:m<=1000000:=by have:=k2i X (l.take i);rw[jg,hm,Al] at this;omega
 obtain⟨kk,ke⟩:=xA (KS.map ss);rw[hm] at hM hE hP Vx⊢;rw[ke] at hM;obtain⟨vs,jo⟩:=xA ((Ar 0 m).map fun j=>Ao (P j) 9 AW (ey X (KS.getD j ⟨0,0⟩) (l.take i)).length AH);rw[jo] at hM;obtain⟨CE,hE,hCE⟩:=hE;have hHa:ax H a=AM (.var [.d (.sl 9 LL fun j=>Ra (Q j))]):=by rw[hC a hak];exact If
 have hHb:ax H b=AM (.var [int look]):=by rw[hC b hbk];exact o7
 obtain⟨M,l8⟩:=xA (az H);rw[l8] at hlen;cbv;split
 rotate_left
 ·rename_i h;cbv;simp only[gw,iq,fo,gx,ki,j8,ja,jb,ko,kg];have hil:i=LL:=by have:=s9 hS h;simp only[AD] at this;omega
  have htk:l.take i=l:=by rw[hil,<-hLL,List.take_length]
  rw[htk] at jg jo hP;have hKn:KS≠[]:=by
   obtain⟨q,hq⟩:=List.exists_mem_of_ne_nil _ yz;have:X q∈KS:=by rw[<-jg];exact Se.2 (wk.2 ⟨q,hq,rfl⟩)
   exact fun e=>by rw[e] at this;simp at this
  have Sv: ∀v,v∈cellsOf X l↔v∈KS:=fun v=>by rw[<-jg];exact Se.symm
  have hKo: ∀v,v∈KS->gb v/\0<=v.fault:=fun v hv=>by obtain⟨q,hq,rfl⟩:=wk.1 ((Sv v).2 hv);rw[<-hX];exact dp q hq
  have hs:=k3c hKn (by omega) hKo (by rw[<-jg];exact Sf _ _) (MG X l) Sv CE (by rw[hm];exact hCE);rw[hm] at hs;refine lj hS (ay.frame (pos:=[k+1]) hs rfl rfl ⟨by rw[hE];exact bx.refl _,trivial⟩) ?_;rintro pg v h' ⟨pg0,v0,h0,⟨rfl,rfl,CS,rfl,hSl,hCS⟩,rfl,rfl,rfl⟩;cbv;simp only[gw,iq,fo,gx,ki,j8,ja,jb,ko,kg];have hmN:m=NN:=hSl.symm.trans ta;rw[show ba (b8 H k.succ (ae.arr 2 m CS)) []=b8 H (k+1) (ae.arr 2 m CS) by rw[fi,List.append_nil]];obtain⟨H0,M4⟩:=xA (b8 H (k+1) (ae.arr 2 m CS));rw[M4];have hx0l:az H0=M:=by rw[<-M4,Jv,l8]
  have hx0k:ax H0 k=AM (.dz AK [.u8,.i64] kk vs):=by rw[<-M4,Gg (by omega)];exact hM
  have h0E:ax H0 (k+1)=AM (.arr 2 m CS):=by rw[<-M4];exact Ny (by omega)
  have h0C:RR k H0 C0:=fun x hx=>by rw[<-M4,Gg (by omega)];exact hC x hx
  have im:KS.Nodup:=by rw[<-jg];exact Sf _ _
  have hex: ∀p,∃c,p<m->c<m/\KS.getD c ⟨0,0⟩=SS p:=fun p=>by
   by_cases hp:p<m
   ·have Sx:SS p∈KS:=by rw[<-Sv,<-ub];exact IZ (by omega)
    obtain⟨c,j9,k8⟩:=Ag Sx;exact⟨c,fun _=>⟨by omega,by rw[AE,AF j9,<-k8];rfl⟩⟩
   ·exact⟨0,fun h=>absurd h hp⟩
  obtain⟨cS,Nb⟩:=Classical.axiomOfChoice hex;have Po: ∀i j,i<m->j<m->i≠j->cS i≠cS j:=fun i j hi hj ck e=>by
   have h1:=(Nb i hi).2;rw[e,(Nb j hj).2,<-ub,<-ub,AE,AE,AF (by omega),AF (by omega)] at h1;simp only[Ah] at h1;have hp:=AP.1 (UL (MG X l));rcases Nat.lt_or_gt_of_ne ck with h|h
   ·exact hp i j (by omega) (by omega) h h1.symm
   ·exact hp j i (by omega) (by omega) h h1
  have Pl: ∀i,i<m->k+2<=P (cS i):=fun i hi=>(hP (cS i) (Nb i hi).1).1;refine gg AJ ci hS (σ:=G2) (fun s=>s.ok k m M W (fun i=>P (cS i)) H0 I z) (fun s=>m-s.p)
   (fun s=>⟨dn [(0,.yl y),(4,.map k),(42,.bi (k+1) 2 AW m AH),(43,int m),(44,int s.p)] 56,s.H,s.mv⟩) ⟨0,H0,mv⟩ ?_ ?_ ?_
  ·exact⟨Af _,by simp only;omega,fun x o _ _ _ h _=>h,by rw[<-hx0l];exact hI0 H0 (by omega) h0C,fun j hj=>absurd hj (AL j),fun x hx=> .inr (Wl x hx)⟩
  ·exact bq rfl ⟨AC _,AC _,AC _,br (e.ofNat _),bg rfl,trivial⟩ (.same _) (by rw[gz,<-cv,<-cv];simp only[ep];omega) (.inr rfl) (Gn _)
  rintro⟨p,G,qd⟩ ⟨hp,hl,W3,hI,hz,Hq⟩ N hN;simp only at hp hl W3 hI hz Hq;cbv;split
  rotate_left
  ·rename_i h;have hpm:p=m:=by have:=s9 hS h;simp only[AD] at this;omega
   cbv;refine⟨W,fun x h1 h2=> ?_,vg (py.same _) (AC _) ?_ (.inr rfl) ⟨rfl,rfl,M,p,by omega,by omega,hI,fun j hj=>hz j (by omega),fun h=>by omega⟩⟩
   ·have wx:C0.length=k:=by rw[<-ep,cv]
    have h3:x<C0.length:=by revert h1;exact match C0 with|[]=>id|_::_=>id
    exact (Hq x h2).elim id fun h=>absurd h (AX (AS h3 wx))
   ·have wx:C0.length=k:=by rw[<-ep,cv]
    rw[wx,<-cv];exact Ad (by omega:k<=M) hl
  rename_i h;have qk:p<m:=AT.1 (ry hS h);cbv;have en: ∀k:Nat,At Sg (IX.v (AO k))=k:=fun k=>by simp only[At,e.toNat,AD,AG]
  have gE:ax G (k+1)=AM (.arr 2 m CS):=W3 _ _ (by omega) (by omega) (fun j hj=>by have:=Pl j (by omega);omega) h0E (fun q _=>rfl);have gK:ax G k=AM (.dz AK [.u8,.i64] kk vs):=W3 _ _ (by omega) (by omega) (fun j hj=>by have:=Pl j (by omega);omega) hx0k (fun q hq=>by
   simp only[ae.forget];rw[<-jo,Vj fun j _ hj=> ?_];obtain⟨h1,_⟩:=hP j (by omega);have:=(hW q hq).1;omega)
  obtain⟨A1,hA1⟩:=xA ((SS p).fault);obtain⟨B1,hB1⟩:=xA ((SS p).n);have kj:CS p=[.int .u8 (.v A1),.int .i64 (.v B1)]:=by rw[hCS p qk,ub,<-hA1,<-hB1];rfl
  obtain⟨GL,I5⟩:=xA (az G);have MZ: ∀X,ax (ba G X) GL=ax X 0:=fun X=>by rw[<-I5];exact j9i G X
  have M1: ∀X x,b8 (ba G X) GL x=ba G (b8 X 0 x):=fun X x=>by rw[<-I5];exact j9j G X x
  have M0:=fun X=>tf (m:=X) gK;have etn:Sg.toNat (AO p)=p:=by simp only[e.toNat,AD,AG]
  simp only[gw,iq,fo,gx,ki,j8,ja,jb,ko,kg,gE,en,kj,etn];refine ad hS (gf hS qk) ?_;cbv;simp only[gw,iq,fo,gx,ki,j8,ja,jb,ko,kg,I5,MZ,M1,M0,mg,jr,ba,az,b8,AB,AA,kj];cbv;simp only[gw,iq,fo,gx,ki,j8,ja,jb,ko,kg,I5,MZ,M1,M0,mg,jr,ba,az,b8,AB,AA,kj];have Sx:SS p∈KS:=by rw[<-Sv,<-ub];exact IZ (by omega)
  obtain⟨b1,b2⟩:=gb.bd (hKo _ Sx).1 (hKo _ Sx).2;obtain⟨c,Nc⟩:=xA (cS p);obtain⟨j9,J9⟩:=Nb p qk;rw[Nc] at j9 J9;rw[<-hm] at j9;have hcn: ∀j,j<c->KS.getD j ⟨0,0⟩≠SS p:=fun j hj e=>by rw[<-J9,AE,AE,AF (by omega),AF j9] at e;simp only[Ah] at e;exact AP.1 im j c (by omega) j9 hj e
  obtain⟨f1,_⟩:=(k0j (ks:=KS) (V:=fun j=>Ao (P j) 9 AW (ey X (KS.getD j ⟨0,0⟩) l).length AH) (v:=SS p)).2 c j9 J9 hcn 0;rw[hm,jo,ke,AB,J9] at f1;rw[hm] at j9;obtain⟨p1,pe,p2,p3⟩:=hP c j9;rw[J9] at p2 p3;have hyp:=fun o=>hy M p G (P c) _ pe o (by omega) (by omega) (by omega) hz hI (by omega) (by have:=Ju p2;omega) rfl (W3 _ _ (by omega) (by have:=Ju p2;omega) (fun j hj e=>Po p j qk (by omega) (by omega) (Vx _ _ (Nb p qk).1 (Nb j (by omega)).1 (by rw[Nc];exact e))) (by rw[<-M4,Gg (by omega)];exact p2) (fun q _=>rfl)) p3;simp only[g8.av] at hyp;have ik:ss (SS p)=[KC.i (SS p).fault,KC.i (SS p).n]:=rfl;rw[ik] at f1;obtain⟨pl,hpl2⟩:=xA (ey X (SS p) l);obtain⟨Pc,I9⟩:=xA (P c);rw[hA1] at hyp f1 b1;rw[hB1] at hyp f1 b2;rw[I9,hpl2] at f1 hyp;obtain⟨n1,ky⟩:=xA pl.length;rw[ky] at f1 hyp;refine ad hS (HJ hS qk) ?_;cbv;simp only[gw,iq,fo,gx,ki,j8,ja,jb,ko,kg,I5,MZ,M1,M0,mg,jr,ba,az,b8,AB,AA,kj];cbv;simp only[gw,iq,fo,gx,ki,j8,ja,jb,ko,kg,I5,MZ,M1,M0,mg,jr,ba,az,b8,AB,AA,kj];cbv;refine ad hS (Im hS b1) (ad hS (ru hS b2) ?_);simp only[gw,iq,fo,gx,ki,j8,ja,jb,ko,kg,I5,MZ,M1,M0,mg,jr,ba,az,b8,AB,AA,kj];simp only[f1];cbv;simp only[gw,iq,fo,gx,ki,j8,ja,jb,ko,kg,I5,MZ,M1,M0,mg,jr,ba,az,b8,AB,AA,kj];refine UD hS (hyp _) ?_;rintro pg v H' ⟨g1,rfl,g2,g3,g4⟩;obtain⟨zp,S6⟩:=xA (z p);rw[S6];rw[I5] at g2 hl;have hmv3: ∀(pg:List Nat),(∀x,x∈pg->x∈W)-> ∀x,x∈pg.reverse++qd->x∈W\/k<=x:=fun pg g1 x hx=>by
   rcases List.mem_append.1 hx with hx|hx
   ·exact .inl (g1 x (List.mem_reverse.1 hx))
   ·exact Hq x hx
  have wx:C0.length=k:=by rw[<-ep,cv]
  have uw:k<=H'.length:=by rw[<-cv];omega
  have gp:zp=AK-> ∀L6,(∀x,x∈L6->x∈W\/k<=x)->G2.ok k m M W (fun i=>P (cS i)) H0 I z ⟨p+1,H',L6⟩:=fun e L6 hm3=>
   ⟨qk,by simp only;omega,fun x o h1 h2 h5 h3 h4=>g4 x o h1 h2 (by have:=h5 p (AY p);simp only[Nc,I9] at this;exact this) (W3 x o h1 h2 (fun j hj=>h5 j (Nat.lt_succ_of_lt hj)) h3 h4) h4,g3,fun j hj=>by
     by_cases ej:j=p
     ·rw[ej,S6,e]
     ·exact hz j (by simp only at hj;omega),hm3⟩
  rcases pg with _|⟨x0,pg⟩
  ·cases zp
   ·cbv;exact⟨W,fun x h1 h2=>(Hq x h2).elim id fun h=>absurd h (AX (AS (by revert h1;exact match C0 with|[]=>id|_::_=>id) wx)),vg (py.same _) (AC _) (Ad (Aq wx) uw) (.inr rfl) ⟨rfl,rfl,M,p+1,by omega,by omega,g3,fun j hj=>hz j (by omega),fun _=>⟨p,rfl,S6⟩⟩⟩
   ·cbv;refine ad hS (ji hS (by omega)) ?_;exact hN ⟨p+1,H',qd⟩ _ (gp rfl _ Hq) (by simp only;omega) (bq rfl ⟨AC _,AC _,AC _,AC _,je hS,trivial⟩ (.same _) (by rw[gz,wx];exact uw) (.inr rfl) (Gn _))
  ·simp only[↓reduceIte];rw[k2x (fun x hx=> ?_)]
   ·obtain⟨L6,hmv4⟩:=xA ((x0::pg).reverse++qd);have hm5:=hmv3 _ g1;rw[hmv4] at hm5⊢;cases zp
    ·cbv;exact⟨W,fun x h1 h2=>(hm5 x h2).elim id fun h=>absurd h (AX (AS (by revert h1;exact match C0 with|[]=>id|_::_=>id) wx)),vg (py.same _) (AC _) (Ad (Aq wx) uw) (.inr rfl) ⟨rfl,rfl,M,p+1,by omega,by omega,g3,fun j hj=>hz j (by omega),fun _=>⟨p,rfl,S6⟩⟩⟩
    ·cbv;refine ad hS (ji hS (by omega)) ?_;exact hN ⟨p+1,H',L6⟩ _ (gp rfl _ hm5) (by simp only;omega) (bq rfl ⟨AC _,AC _,AC _,AC _,je hS,trivial⟩ (.same _) (by rw[gz,wx];exact uw) (.inr rfl) (Gn _))
   ·obtain⟨g5,g6⟩:=hW x (g1 x hx);have hPk:k+2<=Pc:=by rw[<-I9];exact p1
    simp (disch:=omega) only[Ac,AV.forget,HQ,AR,↓reduceIte]
 rename_i h;have hlt:i<LL:=AT.1 (ry hS h);cbv;simp only[gw,iq,fo,gx,ki,j8,ja,jb,ko,kg];have en: ∀k:Nat,At Sg (IX.v (AO k))=k:=fun k=>by simp only[At,e.toNat,AD,AG]
 simp only[en,hrw (Q i)];refine ad hS (gf hS hlt) ?_;cbv;simp only[gw,iq,fo,gx,ki,j8,ja,jb,ko,kg];have vh: ∀X,ax (ba H X) M=ax X 0:=fun X=>by rw[<-l8];exact j9i H X
 have vi: ∀X,ax (ba H X) (M+1)=ax X 1:=fun X=>by rw[<-l8];exact j9x H X
 have ll: ∀X x,b8 (ba H X) M x=ba H (b8 X 0 x):=fun X x=>by rw[<-l8];exact j9j H X x
 have rj: ∀X x,b8 (ba H X) (M+1) x=ba H (b8 X 1 x):=fun X x=>by rw[<-l8];exact j9z H X x
 have hSE: ∀X x,b8 (ba H X) (k+1) x=ba (b8 H (k+1) x) X:=fun X x=>QN (by omega);have vl:=fun X=>tf (m:=X) hM;have vm:=fun X=>tf (m:=X) hHb;have vk:=fun X=>tf (m:=X) hE;have da:po (α:=AV) [.d (.int .u8 (.v (A (Q i) 0))),.d (.int .i64 (.v (B (Q i) 0))),.d (.int .u8 (.v (A (Q i) 1))),.d (.int .i64 (.v (B (Q i) 1))),.d (.int .u8 (.v (A (Q i) 2))),.d (.int .i64 (.v (B (Q i) 2))),.d (.int .u8 (.v (A (Q i) 3))),.d (.int .i64 (.v (B (Q i) 3))),.d (.bool (g (Q i)))] (Sg.fd 0 (Sg.wp (Sg.toNat (AO look)) 2)) 2=AM [.d (.int .u8 (.v (A (Q i) look))),.d (.int .i64 (.v (B (Q i) look)))]:=by
  simp only[e.fd,e.wp,e.toNat,AD,AG]
  match look,ud with
  |0,_=>rfl
  |1,_=>rfl
  |2,_=>rfl
  |3,_=>rfl
 simp only[gw,iq,fo,gx,ki,j8,ja,jb,ko,kg,l8,vh,vi,ll,rj,mg,jr,ba,az,b8,AB,AA,vl,vm,vk,da];cbv;simp only[gw,iq,fo,gx,ki,j8,ja,jb,ko,kg,l8,vh,vi,ll,rj,mg,jr,ba,az,b8,AB,AA,vl,vm,vk,da];cbv;refine ad hS (gf hS ud) ?_;simp only[gw,iq,fo,gx,ki,j8,ja,jb,ko,kg,l8,vh,vi,ll,rj,mg,jr,ba,az,b8,AB,AA,vl,vm,vk,da];cbv;simp only[gw,iq,fo,gx,ki,j8,ja,jb,ko,kg,l8,vh,vi,ll,rj,mg,jr,ba,az,b8,AB,AA,vl,vm,vk,da];cbv;simp only[gw,iq,fo,gx,ki,j8,ja,jb,ko,kg,l8,vh,vi,ll,rj,mg,jr,ba,az,b8,AB,AA,vl,vm,vk,da];have hQl:Q i∈l:=by rw[<-hQ,AE,AF (by omega)];exact List.getElem_mem _
 obtain⟨b1,b2⟩:=gb.bd (dp (Q i) hQl).1 (dp (Q i) hQl).2;rw[hA,hB] at*
 have ik:ss (X (Q i))=[KC.i (A (Q i) look),KC.i (B (Q i) look)]:=by rw[<-hX,ss,hA,hB]
 cbv;simp only[gw,iq,fo,gx,ki,j8,ja,jb,ko,kg,l8,vh,vi,ll,rj,mg,jr,ba,az,b8,AB,AA,vl,vm,vk,da];cbv;simp only[gw,iq,fo,gx,ki,j8,ja,jb,ko,kg,l8,vh,vi,ll,rj,mg,jr,ba,az,b8,AB,AA,vl,vm,vk,da];cbv;refine ad hS (Im hS b1) (ad hS (ru hS b2) ?_);simp only[gw,iq,fo,gx,ki,j8,ja,jb,ko,kg,l8,vh,vi,ll,rj,mg,jr,ba,az,b8,AB,AA,vl,vm,vk,da];by_cases aq:X (Q i)∈KS
 ·obtain⟨c,j9,k8⟩:=Ag aq;have J9:KS.getD c ⟨0,0⟩=X (Q i):=by rw[AE,AF j9,<-k8];rfl
  have im:KS.Nodup:=by rw[<-jg];exact Sf _ _
  have hcn: ∀j,j<c->KS.getD j ⟨0,0⟩≠X (Q i):=fun j hj e=>by rw[AE,AF (by omega),<-k8] at e;exact AP.1 im j c (by omega) j9 hj e
  obtain⟨f1,f2⟩:=(k0j (ks:=KS) (V:=fun j=>Ao (P j) 9 AW (ey X (KS.getD j ⟨0,0⟩) (l.take i)).length AH) (v:=X (Q i))).2 c j9 J9 hcn 0;rw[hm,jo,ke,ik,AB] at f1;rw[ke,ik,AB] at f2;rw[hm] at j9;obtain⟨p1,pe,p2,p3⟩:=hP c j9;have PT:(ey X (KS.getD c ⟨0,0⟩) (l.take i))≠[]:=j9e (Se.1 (by rw[jg];exact IZ (by omega)));obtain⟨n,hn⟩:=xA ((ey X (KS.getD c ⟨0,0⟩) (l.take i)).length);have lz:0<n:=by rw[<-hn];exact List.length_pos_iff.2 PT
  obtain⟨Pc,I9⟩:=xA (P c);rw[I9] at p1 p2 f1;rw[hn] at p2 f1;have M6:Pc<M:=by rw[<-l8];exact Ju p2
  have Nn:ax vs c=AM (.bi Pc 9 AW n AH):=by rw[<-jo,cy,List.getElem?_map,Ae j9];simp only[Ak,Nat.one_mul,AB,I9,hn]
  have LH:Sg.md (Sg.ofNat n) (AO 0)=AH:=by simp only[e.md,e.ofNat];exact beq_false_of_ne (by simp only[AD];omega)
  simp only[f1];cbv;simp only[LH];cbv;have M5:=fun X=>tf (m:=X) p2;have GA: ∀k:Nat,At Sg (IX.v ((k:Nat):Int))=k:=en;simp only[gw,iq,fo,gx,ki,j8,ja,jb,ko,kg,l8,vh,vi,ll,rj,mg,jr,ba,az,b8,AB,AA,vl,vm,vk,da,f2,Nn,M5,e.ofNat,GA];cbv;simp only[gw,iq,fo,gx,ki,j8,ja,jb,ko,kg,l8,vh,vi,ll,rj,mg,jr,ba,az,b8,AB,AA,vl,vm,vk,da,f2,Nn,M5,e.ofNat,GA];cbv;simp only[gw,iq,fo,gx,ki,j8,ja,jb,ko,kg,l8,vh,vi,ll,rj,mg,jr,ba,az,b8,AB,AA,vl,vm,vk,da,f2,Nn,M5,e.ofNat,GA];cbv;refine ad hS (Im hS b1) (ad hS (ru hS b2) ?_);simp only[gw,iq,fo,gx,ki,j8,ja,jb,ko,kg,l8,vh,vi,ll,rj,mg,jr,ba,az,b8,AB,AA,vl,vm,vk,da,f2,Nn,M5,e.ofNat,GA];cbv;simp only[gw,iq,fo,gx,ki,j8,ja,jb,ko,kg,l8,vh,vi,ll,rj,mg,jr,ba,az,b8,AB,AA,vl,vm,vk,da,f2,Nn,M5,e.ofNat,GA];have hSP: ∀X x,b8 (ba H X) Pc x=ba (b8 H Pc x) X:=fun X x=>QN (by omega);have LF:n<=1000000:=by
   have h1:n<=(l.take i).length:=by rw[<-hn];exact List.length_filter_le _ _
   rw[Al] at h1;omega
  cbv;refine ad hS trivial (ad hS (uh hS (by omega)) ?_);simp only[gw,iq,fo,gx,ki,j8,ja,jb,ko,kg,l8,vh,vi,ll,rj,mg,jr,ba,az,b8,AB,AA,vl,vm,vk,da,f2,Nn,M5,hSP,HP,JU,e.ofNat,GA];simp (disch:=omega) only[HQ,j7q,AR,↓reduceIte];obtain⟨H1,Hc⟩:=xA (pq Pc AH (b8 H Pc (.arr 9 (Sg.fd n 1) (Sg.app n pe (AU [[.int .u8 (.v (A (Q i) 0)),.int .i64 (.v (B (Q i) 0)),.int .u8 (.v (A (Q i) 1)),.int .i64 (.v (B (Q i) 1)),.int .u8 (.v (A (Q i) 2)),.int .i64 (.v (B (Q i) 2)),.int .u8 (.v (A (Q i) 3)),.int .i64 (.v (B (Q i) 3)),.bool (g (Q i))]])))));simp only[Hc];obtain⟨Ro,LQ⟩:=xA (Ac Pc AH vs);have wv:az H1=M:=by rw[<-Hc,j9b,Jv,l8]
  have Lj:ax H1 k=AM (.dz AK [.u8,.i64] kk Ro):=by rw[<-Hc,Nx (by rw[Gg (by omega)];exact hM)];simp only[ae.forget,LQ]
  have Qt:az Ro=m:=by rw[<-LQ,j8v,<-jo,cv,Aa,Ai]
  have xp:=fun X=>tf (m:=X) Lj;have I2: ∀X x,b8 (ba H1 X) k x=ba (b8 H1 k x) X:=fun X x=>QN (by omega);simp only[gw,iq,fo,gx,ki,j8,ja,jb,ko,kg,wv,mg,jr,ba,az,b8,AB,AA,xp,I2,f2,Qt,HP,JU,e.ofNat,GA];cbv;simp only[gw,iq,fo,gx,ki,j8,ja,jb,ko,kg,wv,mg,jr,ba,az,b8,AB,AA,xp,I2,f2,Qt,HP,JU,e.ofNat,GA];refine ad hS (gf hS j9) ?_;cbv;refine ad hS (ji hS (by omega)) ?_;have Ht:=fun H'=>G1.YD (H':=H') (M:=M) hR (by omega) ep vy l8 (hQ i) jg (by omega) J9;rw[hm,jo,ke,I9,hn] at Ht;refine hN ⟨i+1,_,_,P⟩ _ (Ht _ ?_ ?_ ?_ ?_) (by simp only;omega) (fp.le (bq rfl ⟨AC _,AC _,AC _,AC _,?_,AC _,AC _,je hS,trivial⟩ (.same _) ?_ (.inr rfl) (Gn _)))
  ·simp only[jr,Jv,wv,az];omega
  ·rw[tf (Ny (by omega))];have sq:b8 Ro c (.bi Pc 9 AW (n+1) AH)=b8 vs c (.bi Pc 9 AW (n+1) AH):=by rw[<-LQ,<-jo];exact k1n fun j hj PO=>fun he=>PO (Vx j c hj j9 (he.trans I9.symm))
   simp only[e.toNat,e.fd,AD,AG,sq]
  ·intro x o hx h1 h2 ho hf;refine tf ((Gg (Ne.symm h1)).trans ?_);rw[<-Hc,Nx ((Gg (Ne.symm h2)).trans ho),hf]
  ·refine⟨Sg.app n pe (AU [[.int .u8 (.v (A (Q i) 0)),.int .i64 (.v (B (Q i) 0)),.int .u8 (.v (A (Q i) 1)),.int .i64 (.v (B (Q i) 1)),.int .u8 (.v (A (Q i) 2)),.int .i64 (.v (B (Q i) 2)),.int .u8 (.v (A (Q i) 3)),.int .i64 (.v (B (Q i) 3)),.bool (g (Q i))]]),?_,fun pe2 P6 j hj=> ?_,?_⟩
   ·rw[tf ((Gg (show k≠Pc by omega)).trans ?_)];rw[<-Hc,Nx (Ny (by omega))];simp only[ae.forget,e.fd]
   ·rw[p2] at P6;cases P6;simp only[e.app,if_pos hj]
   ·simp only[e.app,if_neg (An n),Ap];rw[ft];rfl
  ·simp only[G1.ks];rw[show (ur X (l.take (i+1))).length=m by rw[Ua (by omega),K6,jg,hQ,if_pos aq,hm]];exact AC _
  ·rw[gz,<-cv,<-cv];simp only[jr,Jv,wv,ep];omega
 ·obtain⟨f1,f2⟩:=(k0j (ks:=KS) (V:=fun j=>Ao (P j) 9 AW (ey X (KS.getD j ⟨0,0⟩) (l.take i)).length AH)).1 aq 0;rw[hm,jo,ke,ik] at f1;rw[ke,ik] at f2;simp only[f1];cbv;simp only[gw,iq,fo,gx,ki,j8,ja,jb,ko,kg,l8,vh,vi,ll,rj,mg,jr,ba,az,b8,AB,AA,vl,vm,vk,da];cbv;simp only[gw,iq,fo,gx,ki,j8,ja,jb,ko,kg,l8,vh,vi,ll,rj,mg,jr,ba,az,b8,AB,AA,vl,vm,vk,da];cbv;simp only[gw,iq,fo,gx,ki,j8,ja,jb,ko,kg,l8,vh,vi,ll,rj,mg,jr,ba,az,b8,AB,AA,vl,vm,vk,da];refine ad hS trivial (ad hS (uh hS (by omega)) ?_);simp only[gw,iq,fo,gx,ki,j8,ja,jb,ko,kg,l8,vh,vi,ll,rj,mg,jr,ba,az,b8,AB,AA,vl,vm,vk,da,HP,hSE,JU];simp (disch:=omega) only[HQ,j7q,AR,↓reduceIte];obtain⟨H1,Hc⟩:=xA (pq (k+1) AH (b8 H (k+1) (.arr 2 (Sg.fd m 1) (Sg.app m CE (AU [[.int .u8 (.v (A (Q i) look)),.int .i64 (.v (B (Q i) look))]])))));simp only[Hc];have wv:az H1=M:=by rw[<-Hc,j9b,Jv,l8]
  have Lj:ax H1 k=AM (.dz AK [.u8,.i64] kk vs):=by rw[<-Hc,Nx (by rw[Gg (by omega)];exact hM)];simp only[ae.forget];rw[<-jo,Vj fun j h1 h2=>by have:=(hP j (by omega)).1;omega]
  have O1:ax H1 (k+1)=AM (.arr 2 (Sg.fd m 1) (Sg.app m CE (AU [[.int .u8 (.v (A (Q i) look)),.int .i64 (.v (B (Q i) look))]]))):=by rw[<-Hc,Nx (Ny (by omega))];rfl
  have G6:=Tg wv;have G7:=k0s wv;have G8:=j9k wv;have G9:=j9h wv;have Ha:=k1z wv;have xp:=fun X=>tf (m:=X) Lj;have I1:=fun X=>tf (m:=X) O1;simp only[gw,iq,fo,gx,ki,j8,ja,jb,ko,kg,HP,wv,G6,G7,G8,G9,Ha,mg,jr,ba,az,b8,AB,AA,xp,I1,f2,JU];cbv;simp only[gw,iq,fo,gx,ki,j8,ja,jb,ko,kg,HP,wv,G6,G7,G8,G9,Ha,mg,jr,ba,az,b8,AB,AA,xp,I1,f2,JU];cbv;simp only[gw,iq,fo,gx,ki,j8,ja,jb,ko,kg,HP,wv,G6,G7,G8,G9,Ha,mg,jr,ba,az,b8,AB,AA,xp,I1,f2,JU];cbv;simp only[gw,iq,fo,gx,ki,j8,ja,jb,ko,kg,HP,wv,G6,G7,G8,G9,Ha,mg,jr,ba,az,b8,AB,AA,xp,I1,f2,JU];have km:az kk=m:=by rw[<-ke,cv,Aa,hm]
  have GM:az vs=m:=by rw[<-jo,cv,Aa,Ai]
  have I2: ∀X x,b8 (ba H1 X) k x=ba (b8 H1 k x) X:=fun X x=>QN (by omega);have GA: ∀k:Nat,At Sg (IX.v ((k:Nat):Int))=k:=en;refine ad hS (Im hS b1) (ad hS (ru hS b2) ?_);cbv;simp only[gw,iq,fo,gx,ki,j8,ja,jb,ko,kg,HP,wv,G6,G7,G8,G9,Ha,mg,jr,ba,az,b8,AB,AA,I2,km,GM,e.ofNat,GA];obtain⟨H2,Pi⟩:=xA (b8 H1 k (.dz AK [.u8,.i64] (ba kk [[.i (A (Q i) look),.i (B (Q i) look)]]) (ba vs [.d .nil])));simp only[Pi];have JZ:az H2=M:=by rw[<-Pi,Jv,wv]
  have h2hM:ax H2 k=AM (.dz AK [.u8,.i64] (ba kk [[.i (A (Q i) look),.i (B (Q i) look)]]) (ba vs [.d .nil])):=by rw[<-Pi,Ny (by omega)]
  have h2hE:ax H2 (k+1)=AM (.arr 2 (Sg.fd m 1) (Sg.app m CE (AU [[.int .u8 (.v (A (Q i) look)),.int .i64 (.v (B (Q i) look))]]))):=by rw[<-Pi,Gg (by omega)];exact O1
  have O2:=Tg JZ;have O3:=k0s JZ;have O4:=j9k JZ;have O5:=fun X=>tf (m:=X) h2hM;have O6: ∀X x,b8 (ba H2 X) k x=ba (b8 H2 k x) X:=fun X x=>QN (by omega);refine ad hS (tq hS (by omega)) ?_;simp only[gw,iq,fo,gx,ki,j8,ja,jb,ko,kg,HP,JZ,O2,O3,O4,mg,jr,ba,az,b8,AB,AA,O5,O6,km,GM,e.ofNat,GA];cbv;simp only[gw,iq,fo,gx,ki,j8,ja,jb,ko,kg,HP,JZ,O2,O3,O4,mg,jr,ba,az,b8,AB,AA,O5,O6,km,GM,e.ofNat,GA];refine ad hS (gf hS (AY m)) ?_;cbv;refine ad hS (ji hS (by omega)) ?_;have Ht:=fun H'=>G1.YC (H':=H') (M:=M) hR (by omega) ep vy l8 (hQ i) jg aq;rw[hm,jo,ke,ik] at Ht;refine hN ⟨i+1,_,_,fun j=>if j=m then M+2 else P j⟩ _ (Ht _ ?_ ?_ ?_ ?_ ?_) (by simp only;omega) (fp.le (bq rfl ⟨AC _,AC _,AC _,AC _,?_,AC _,AC _,je hS,trivial⟩ (.same _) ?_ (.inr rfl) (Gn _)))
  ·simp only[jr,Jv,JZ,az];omega
  ·rw[tf (Ny (by omega))];simp only[e.toNat,AD,AG,j9h GM,b8]
  ·refine⟨Sg.app m CE (AU [[.int .u8 (.v (A (Q i) look)),.int .i64 (.v (B (Q i) look))]]),?_,fun ce Je j hj=> ?_,?_⟩
   ·rw[tf ((Gg (show k≠k+1 by omega)).trans h2hE)];simp only[e.fd]
   ·rw[hE] at Je;cases Je;simp only[e.app,if_pos hj]
   ·simp only[e.app,if_neg (An m),Ap];rw[<-hX,g8.row,hA,hB];rfl
  ·intro x o hx h1 h2 ho hf;refine tf ((Gg (Ne.symm h1)).trans ?_);rw[<-Pi,Gg (Ne.symm h1),<-Hc,Nx ((Gg (Ne.symm h2)).trans ho),hf]
  ·refine⟨_,(j9k (by rw[Jv,JZ]) _).trans rfl,?_⟩;rw[ft];rfl
  ·simp only[G1.ks];rw[show (ur X (l.take (i+1))).length=m+1 by rw[Ua (by omega),K6,jg,hQ,if_neg aq];simp[hm]];exact w7 hS
  ·rw[gz,<-cv,<-cv];simp only[jr,Jv,JZ,ep];omega
theorem k3n {n:Nat}(hn:0<n)(r0 r1 r2 r3 r4 r5 r6 r7:DV)(e:Nat->List DV)(s0 s1 s2 s3 s4 s5 s6 s7:DV)(b c:Bool)(he:e 0=[s0,s1,s2,s3,s4,s5,s6,s7,.bool c]):
 ay AI 169 [.agg [.d r0,.d r1,.d r2,.d r3,.d r4,.d r5,.d r6,.d r7,.d (.bool b)],.ptr 0 0] [.var [.d (.sl 9 n e)]]
  (fun pg v h'=>pg=[]/\v= .d (.bool (b==c))/\h'=[.var [.d (.sl 9 n e)]]):=by
 refine mh AJ ci f1e rfl fun E Sg gz hS Fk vg=> ?_;have en:=fh hS;have e1:At Sg (IX.l (AO 0))=0:=by first|rfl|simp[At,en.toNat]
 cbv;refine ad hS (gf hS hn) ?_;simp only[e1,he];cbv;simp only[e1,he];cbv;refine⟨[],by simp,vg (h1:=[.var [.d (.sl 9 n e)]]) (.cons (.refl _) (.nil _)) (v0:= .d (.bool (b==c))) ?_ (by simp) (.inl ⟨rfl,rfl⟩) ⟨rfl,rfl,rfl⟩⟩;have hb:Sg.beq b c=(b==c):=by subst hS;rfl
 rw[<-hb];exact AC _
abbrev Xb (n:Nat)(e:Nat->List DV):ae:= .var [.d (.sl 9 n e)]
abbrev XF:ae:= .var [.fn 169 [] [.ptr 0 0]]
theorem k3q {n:Nat}(hn:0<n)(A B:Nat->Int)(e:Nat->List DV)(s0 s1 s2 s3 s4 s5 s6 s7:DV)(b c:Bool)(he:e 0=[s0,s1,s2,s3,s4,s5,s6,s7,.bool c]):
 ay AI 202 [.agg [.d (.int .u8 (.v (A 0))),.d (.int .i64 (.v (B 0))),.d (.int .u8 (.v (A 1))),.d (.int .i64 (.v (B 1))),.d (.int .u8 (.v (A 2))),.d (.int .i64 (.v (B 2))),.d (.int .u8 (.v (A 3))),.d (.int .i64 (.v (B 3))),.d (.bool b)],.ptr 1 0] [Xb n e,XF]
  (fun pg v h'=>pg=[]/\v= .d (.bool (!(b==c)))/\h'=[Xb n e,XF]):=by
 refine mh AJ ci f2n rfl fun E Sg gz hS Fk vg=> ?_;have en:=fh hS;cbv;refine lj hS (ay.frame (k3n hn _ _ _ _ _ _ _ _ e s0 s1 s2 s3 s4 s5 s6 s7 b c he) [0] rfl rfl ⟨bx.refl _,trivial⟩) ?_;rintro pg v h' ⟨pg0,v0,h0,⟨rfl,rfl,rfl⟩,rfl,rfl,rfl⟩;obtain⟨q,hq⟩:=xA (b==c);rw[hq];cases q
 ·cbv;exact⟨[],by simp,vg (h1:=[Xb n e,XF]) (.cons (.refl _) (.cons (.refl _) (.nil _))) (v0:= .d (.bool AK)) (AC _) (by simp) (.inl ⟨rfl,rfl⟩) ⟨rfl,by rw[hq];rfl,rfl⟩⟩
 ·cbv;exact⟨[],by simp,vg (h1:=[Xb n e,XF]) (.cons (.refl _) (.cons (.refl _) (.nil _))) (v0:= .d (.bool AH)) (AC _) (by simp) (.inl ⟨rfl,rfl⟩) ⟨rfl,by rw[hq];rfl,rfl⟩⟩
theorem k3i {n:Nat}(hn:0<n)(LF:n<=1000000)(e:Nat->List DV)(A B:Nat->Nat->Int)(G:Nat->Bool)(he: ∀i,e i=[.int .u8 (.v (A i 0)),.int .i64 (.v (B i 0)),.int .u8 (.v (A i 1)),.int .i64 (.v (B i 1)),.int .u8 (.v (A i 2)),.int .i64 (.v (B i 2)),.int .u8 (.v (A i 3)),.int .i64 (.v (B i 3)),.bool (G i)]):
 ay AI 240 [.d (.sl 9 n e),.fn 202 [] [.ptr 1 0]] [Xb n e,XF]
  (fun pg v h'=>pg=[]/\h'=[Xb n e,XF]/\ ∃r:Int,v= .d (.int .i64 (.v r))/\((0<=r)↔ ∃i,i<n/\G i≠G 0)):=by
 refine mh AJ ci e9c rfl fun E Sg gz hS Fk vg=> ?_;have en:=fh hS;cbv;refine gg AJ ci hS (fun i=>i<=n/\ ∀j,j<i->G j=G 0) (fun i=>n-i)
  (fun i=>⟨dn [(0,.d (.sl 9 n e)),(1,.fn 202 [] [.ptr 1 0]),(7,int n),(8,int i)] 19,[Xb n e,XF],[]⟩) 0 ⟨by omega,fun j hj=>absurd hj (AL j)⟩ ?_ ?_
 ·exact bq rfl ⟨AC _,AC _,br (en.ofNat _),bg rfl,trivial⟩ (.same _) (by rw[gz];simp) (.inr rfl) rfl
 rintro i ⟨hi,hg⟩ N hN;cbv;split
 ·rename_i h;have hlt:i<n:=AT.1 (ry hS h);have e1: ∀k:Nat,At Sg (IX.v (AO k))=k:=fun k=>by simp only[At,en.toNat,AD,AG]
  cbv;simp only[e1,he i];refine ad hS (gf hS hlt) ?_;cbv;refine lj hS (k3q hn (A i) (B i) e _ _ _ _ _ _ _ _ (G i) (G 0) (he 0)) ?_;rintro pg v h' ⟨rfl,rfl,rfl⟩;obtain⟨q,hq⟩:=xA (G i==G 0);rw[hq];cases q
  ·cbv;refine⟨[],by simp,vg (h1:=[Xb n e,XF]) (.same _) (v0:=int i) (AC _) (by simp) (.inr rfl) ⟨rfl,rfl,_,rfl,⟨fun _=>⟨i,hlt,fun h=> ?_⟩,fun _=> ?_⟩⟩⟩
   ·rw[h] at hq;simp at hq
   ·exact Int.natCast_nonneg i
  ·cbv;refine ad hS (ji hS (by omega)) ?_;refine hN (i+1) _ ⟨hlt,fun j hj=> ?_⟩ (by omega) (bq rfl ⟨AC _,AC _,AC _,je hS,trivial⟩ (.same _) (by rw[gz];simp) (.inr rfl) rfl);by_cases ej:j=i
   ·subst ej;simpa using hq
   ·exact hg j (by omega)
 ·rename_i h;have aq:i=n:=by have:=s9 hS h;simp only[AD] at this;omega
  cbv;refine⟨[],by simp,vg (h1:=[Xb n e,XF]) (.same _) (v0:= .d (.int .i64 (.v (-1)))) (bg rfl) (by simp) (.inr rfl) ⟨rfl,rfl,_,rfl,⟨fun h=>by omega,fun⟨j,h1,h2⟩=>absurd (hg j (by omega)) h2⟩⟩⟩
theorem k3r {n:Nat}(hn:0<n)(LF:n<=1000000)(e:Nat->List DV)(A B:Nat->Nat->Int)(G:Nat->Bool)(he: ∀i,e i=[.int .u8 (.v (A i 0)),.int .i64 (.v (B i 0)),.int .u8 (.v (A i 1)),.int .i64 (.v (B i 1)),.int .u8 (.v (A i 2)),.int .i64 (.v (B i 2)),.int .u8 (.v (A i 3)),.int .i64 (.v (B i 3)),.bool (G i)])(d:Bool)(hd:d=AK↔ ∃i,i<n/\G i≠G 0):
 ay AI 201 [.d (.sl 9 n e),.fn 202 [] [.ptr 1 0]] [Xb n e,XF] (fun pg v h'=>pg=[]/\h'=[Xb n e,XF]/\v= .d (.bool d)):=by
 refine mh AJ ci f2d rfl fun E Sg gz hS Fk vg=> ?_;cbv;refine lj hS (k3i hn LF e A B G he) ?_;rintro pg v h' ⟨rfl,rfl,r,rfl,hr⟩;have hb:Sg.WA (AO 0) r=d:=by subst hS;show decide ((0:Int)<=r)=d;rw[Bool.eq_iff_iff,hd,decide_eq_true_eq,hr]
 cbv;simp only[hb];exact⟨[],by simp,vg (h1:=[Xb n e,XF]) (.same _) (AC _) (by simp) (.inr rfl) ⟨rfl,rfl,rfl⟩⟩
theorem k4h {n:Nat}(hn:0<n)(LF:n<=1000000)(e:Nat->List DV)(A B:Nat->Nat->Int)(G:Nat->Bool)(he: ∀i,e i=[.int .u8 (.v (A i 0)),.int .i64 (.v (B i 0)),.int .u8 (.v (A i 1)),.int .i64 (.v (B i 1)),.int .u8 (.v (A i 2)),.int .i64 (.v (B i 2)),.int .u8 (.v (A i 3)),.int .i64 (.v (B i 3)),.bool (G i)])(d:Bool)(hd:d=AK↔ ∃i,i<n/\G i≠G 0):
 ay AI 168 [.d (.sl 9 n e),.fn 169 [] [.ptr 0 0]] [Xb n e] (fun pg v h'=>pg=[]/\h'=[Xb n e]/\v= .d (.bool (!d))):=by
 refine mh AJ ci f1r rfl fun E Sg gz hS Fk vg=> ?_;cbv;refine lj hS (k3r hn LF e A B G he d hd) ?_;rintro pg v h' ⟨rfl,rfl,rfl⟩;cases d
 ·cbv;exact⟨[],by simp,vg (h1:=[Xb n e]) (.cons (.refl _) (.nil _)) (v0:= .d (.bool AK)) (AC _) (by simp) (.inl ⟨rfl,rfl⟩) ⟨rfl,rfl,rfl⟩⟩
 ·cbv;exact⟨[],by simp,vg (h1:=[Xb n e]) (.cons (.refl _) (.nil _)) (v0:= .d (.bool AH)) (AC _) (by simp) (.inl ⟨rfl,rfl⟩) ⟨rfl,rfl,rfl⟩⟩
theorem k2h {n:Nat}(hn:0<n)(LF:n<=1000000)(e:Nat->List DV)(A B:Nat->Nat->Int)(G:Nat->Bool)(he: ∀i,e i=[.int .u8 (.v (A i 0)),.int .i64 (.v (B i 0)),.int .u8 (.v (A i 1)),.int .i64 (.v (B i 1)),.int .u8 (.v (A i 2)),.int .i64 (.v (B i 2)),.int .u8 (.v (A i 3)),.int .i64 (.v (B i 3)),.bool (G i)])(d:Bool)(hd:d=AK↔ ∃i,i<n/\G i≠G 0):
 au AI AH 130 [.d (.sl 9 n e)] (.d (.bool (!d))):=by
 refine cr AJ ci e7l _ rfl fun E Sg gz hS=> ?_;cbv;refine lj hS (k4h hn LF e A B G he d hd) ?_;rintro pg v h' ⟨rfl,rfl,rfl⟩;cases d
 ·cbv;exact fun _ _ _ _ h=>h
 ·cbv;exact fun _ _ _ _ h=>h
theorem k2q (x y:DV)(c:Int)(hx: ∃n e,x= .sl 9 n e):ay AI 132 [.d x,int c] []
 (fun pg v h'=>pg=[]/\v= .fn 172 [] [.ptr 0 0,.ptr 1 0]/\h'=[.var [.d x],.var [int c]]):=by
 obtain⟨n,e,rfl⟩:=hx;refine mh AJ ci f0o rfl fun E Sg gz hS Fk vg=> ?_;cbv;exact⟨[],by simp,vg (.same _) (AC _) (by simp) (.inr rfl) ⟨rfl,rfl,rfl⟩⟩
def UM (i:Nat):List AV:=[.d (.bool (decide (0<i))),.d (.bool (decide (1<i))),.d (.bool (decide (2<i))),.d (.bool (decide (3<i)))]
theorem k3k {nl:Nat}(hn:nl<=4)(x0 x1:DV)(tl:List DV):au AI AH 147 [.d9 (x0::x1:: .int .i64 (.v nl)::tl) 0] (.agg (UM nl)):=by
 refine cr AJ ci e8s _ rfl fun E Sg gz hS=> ?_;have en:=fh hS;obtain⟨Z,hZ⟩: ∃z:Int,(nl:Int)=z:=⟨_,rfl⟩;obtain⟨f,hf⟩:=xB fun i:Nat=>UM i;have f0:f 0=[.d (.bool AH),.d (.bool AH),.d (.bool AH),.d (.bool AH)]:=(hf 0).symm;have f1:f 1=[.d (.bool AK),.d (.bool AH),.d (.bool AH),.d (.bool AH)]:=(hf 1).symm;have f2:f 2=[.d (.bool AK),.d (.bool AK),.d (.bool AH),.d (.bool AH)]:=(hf 2).symm;have f3:f 3=[.d (.bool AK),.d (.bool AK),.d (.bool AK),.d (.bool AH)]:=(hf 3).symm;have f4:f 4=[.d (.bool AK),.d (.bool AK),.d (.bool AK),.d (.bool AK)]:=(hf 4).symm;rw[hZ,hf];clear hf;cbv;refine gg AJ ci hS (fun i=>i<=nl) (fun i=>nl-i)
  (fun i=>⟨dn [(2,.ptr 0 0),(7,.d (.int .i64 (.v Z))),(8,int i)] 15,[.var (f i)],[]⟩) 0 (Af _) ?_ ?_
 ·exact bq rfl ⟨AC _,AC _,bg rfl,trivial⟩ (.cons (by rw[f0];exact .refl _) (.nil _)) (by rw[gz];simp) (.inr rfl) rfl
 intro i hi N hN;cbv;split
 ·rename_i h;have hlt:i<nl:=by rw[<-hZ] at h;exact AT.1 (ry hS h)
  obtain rfl|rfl|rfl|rfl:i=0\/i=1\/i=2\/i=3:=by omega
  ·rw[f0];cbv;refine ad hS (gf hS (show 0<4 by omega)) ?_;simp only[en.fd,en.wp,en.toNat,AD,AG,AB,AZ];cbv;refine ad hS (ji hS (by omega)) ?_;exact hN 1 _ hlt (by omega) (bq rfl ⟨AC _,AC _,je hS,trivial⟩ (.cons (by rw[f1];exact .refl _) (.nil _)) (by rw[gz];simp) (.inr rfl) rfl)
  ·rw[f1];cbv;refine ad hS (gf hS (show 1<4 by omega)) ?_;simp only[en.fd,en.wp,en.toNat,AD,AG,AB,AZ];cbv;refine ad hS (ji hS (by omega)) ?_;exact hN 2 _ hlt (by omega) (bq rfl ⟨AC _,AC _,je hS,trivial⟩ (.cons (by rw[f2];exact .refl _) (.nil _)) (by rw[gz];simp) (.inr rfl) rfl)
  ·rw[f2];cbv;refine ad hS (gf hS (show 2<4 by omega)) ?_;simp only[en.fd,en.wp,en.toNat,AD,AG,AB,AZ];cbv;refine ad hS (ji hS (by omega)) ?_;exact hN 3 _ hlt (by omega) (bq rfl ⟨AC _,AC _,je hS,trivial⟩ (.cons (by rw[f3];exact .refl _) (.nil _)) (by rw[gz];simp) (.inr rfl) rfl)
  ·rw[f3];cbv;refine ad hS (gf hS (show 3<4 by omega)) ?_;simp only[en.fd,en.wp,en.toNat,AD,AG,AB,AZ];cbv;refine ad hS (ji hS (by omega)) ?_;exact hN 4 _ hlt (by omega) (bq rfl ⟨AC _,AC _,je hS,trivial⟩ (.cons (by rw[f4];exact .refl _) (.nil _)) (by rw[gz];simp) (.inr rfl) rfl)
 ·rename_i h;have aq:i=nl:=by rw[<-hZ] at h;exact Nat.le_antisymm hi (Int.ofNat_le.1 (s9 hS h))
  subst aq;obtain⟨r,hr⟩:=xA (f i);obtain rfl|rfl|rfl|rfl|rfl:i=0\/i=1\/i=2\/i=3\/i=4:=by omega
  ·rw[f0];cbv;exact fun _ _ _ _ h=>h
  ·rw[f1];cbv;exact fun _ _ _ _ h=>h
  ·rw[f2];cbv;exact fun _ _ _ _ h=>h
  ·rw[f3];cbv;exact fun _ _ _ _ h=>h
  ·rw[f4];cbv;exact fun _ _ _ _ h=>h
theorem k4a:au AI AH 146 [] (.agg [.d (.int .i64 (.v (-1))),.d .nil,.d .nil]):=by
 refine cr AJ ci f2p _ rfl fun E Sg gz hS=> ?_;cbv;intro w S ρ v h;cases h with
 |agg cs vs hl h=>
  refine .agg _ _ hl fun i x v hx hv=> ?_
  match i,hx with
  |0,hx=>cases hx;exact bg rfl w S ρ v (h 0 _ v rfl hv)
  |1,hx=>exact h 1 _ v hx hv
  |2,hx=>exact h 2 _ v hx hv
theorem k3v {k y a b:Nat}(hyk:y<k)(hak:a<k)(hbk:b<k)(C D:Nat->List ae)(J0: ∀p,az (C p)=k)(hDk: ∀p,az (D p)=k)(wx: ∀p,u1 k (C p)=AK)(hDl: ∀p,u1 k (D p)=AK)
 (l:List Nat) (yz:l≠[]) (GI:l.length<=1000000) (look:Nat) (ud:look<4) (F:Nat->Nat->g8) (g:Nat->Bool)
 (dp: ∀q,q∈l->gb (F q look)/\0<=(F q look).fault) (If:ax (C 0) a=AM (.var [.d (.sl 9 l.length fun j=>WJ F g (l.getD j 0))])) (o7:ax (C 0) b=AM (.var [int look]))
 (X:Nat->g8) (hX: ∀q,F q look=X q) (SS:Nat->g8) (ub: ∀p,(cellsOf X l).getD p ⟨0,0⟩=SS p) (NN:Nat) (ta:(cellsOf X l).length=NN) (z:Nat->Bool)
 (W:List Nat) (hW: ∀x,x∈W->x<k/\x≠y)
 (hy: ∀(p n:Nat) (pe:Nat->List DV),p<NN->(∀j,j<p->z j=AK)->(ey X (SS p) l).length=n->(∀i,i<n->pe i=WJ F g ((ey X (SS p) l).getD i 0))->
   lh AI y [(SS p).av,.bi k 9 AW n AH] (ba (C p) [.arr 9 n pe]) (fun pg v h'=>(∀x,x∈pg->x∈W)/\v= .d (.bool (z p))/\ ∃o,h'=ba (if z p=AK then C (p+1) else D p) [o])):
 ay AI 172 [.yl y,.ptr a 0,.ptr b 0] (C 0) (fun pg v h'=>pg=W/\v= .tuple []/\(((∀j,j<NN->z j=AK)/\h'=C NN)\/ ∃p,p<NN/\(∀j,j<p->z j=AK)/\z p=AH/\h'=D p)):=by
 obtain⟨CC,sf,kj⟩: ∃CC:Nat->List ae,CC 0=C 0/\ ∀q,CC (q+1)=if z q=AK then C (q+1) else D q:=⟨fun p=>match p with|0=>C 0|q+1=>if z q=AK then C (q+1) else D q,rfl,fun _=>rfl⟩;have z7: ∀p,az (CC p)=k:=fun p=>by
  cases p with
  |zero=>rw[sf];exact J0 0
  |succ q=>rw[kj];split;exact J0 _;exact hDk _
 have Ll: ∀p,u1 k (CC p)=AK:=fun p=>by
  cases p with
  |zero=>rw[sf];exact wx 0
  |succ q=>rw[kj];split;exact wx _;exact hDl _
 have Pd: ∀p,(∀j,j<p->z j=AK)->CC p=C p:=fun p hp=>by
  cases p with
  |zero=>exact sf
  |succ q=>rw[kj,if_pos (hp q (AY q))]
 have hgl: ∀{x:Nat} {o:ae} {p:Nat},ax (CC p) x=AM o->o.low k=AK:=fun {x o p} h=>NA (Ll p) (by rw[<-cy];exact h);have h:=k2m hyk hak hbk (C 0) (J0 0) l yz GI look ud F g dp If o7 (fun x o i hx ho hi=>ae.ST hi (hgl (p:=0) (by rw[sf];exact ho))) X hX SS ub NN ta z W hW (fun K1 p H=>RR k H (CC p)) (fun H h1 h2=>by rw[sf];exact h2) ?_
 ·refine ay.cut (ay.mono ?_ h);rintro pg v h' ⟨rfl,rfl,K1,p,g1,g2,g3,g4,g5⟩;have hlen:k<=az h':=by obtain⟨o,ho⟩:=Th (l:=CC p) (i:=k-1) (by rw[z7];omega);have h1:=g3 (k-1) (by omega);rw[ho] at h1;have:=Ju h1;omega
  have hL:py h' (CC p):=py.Wx (by rw[<-cv,<-cv,z7];exact hlen) fun i o o' ho v7=>by
   have hi:i<k:=by rw[<-z7 p];rw[<-cy] at v7;exact Ju v7
   have h1:=g3 i hi;rw[cy,cy,ho,v7] at h1;cases h1;exact bx.refl _
  have hk:(C 0).length=k:=by rw[<-cv];exact J0 0
  have cp:(CC p).length=k:=by rw[<-cv];exact z7 p
  refine⟨CC p,.tuple [],hL,AC _,by omega,.inl ⟨rfl,by rw[cp];exact Ll p⟩,rfl,rfl,?_⟩;cases p with
  |zero=>
   have:NN=0:=by
    rcases Nat.eq_zero_or_pos NN with h|h
    ·exact h
    ·obtain⟨j,hj,_⟩:=g5 h;omega
   subst this;exact .inl ⟨fun j hj=>absurd hj (AL j),sf⟩
  |succ q=>
   cases hz:z q with
   |true=>
    have hq:q+1=NN:=by
     rcases Nat.lt_or_ge (q+1) NN with h|h
     ·obtain⟨j,hj,h2⟩:=g5 h;obtain rfl:q=j:=by omega
      rw[hz] at h2;cases h2
     ·omega
    have cd: ∀j,j<NN->z j=AK:=fun j hj=>by
     by_cases e:j=q
     ·rw[e];exact hz
     ·exact g4 j (by omega)
    exact .inl ⟨cd,by rw[hq];exact Pd NN cd⟩
   |false=>exact .inr ⟨q,by omega,fun j hj=>g4 j (by omega),hz,by rw[kj,hz];rfl⟩
 ·intro K1 p H Q n pe o h1 h2 h3 h4 h5 h6 h7 h8 h9 h10;have hC:=Pd p h4;rw[hC] at h5;have hlen:k<=az H:=by omega
  have hQ:Q<az H:=Ju h9;obtain⟨pos,fz⟩:=xA (Ar 0 k++[Q]);have qk:pos.length=k+1:=by rw[<-fz];simp
  have Ik: ∀i,i<k->pos[i]? =AM i:=fun i hi=>by rw[<-fz,AQ (by simpa using hi),Ae hi];simp
  have P6:pos[k]? =AM Q:=by rw[<-fz,Ab (by simp)];simp
  have hpm: ∀x,x∈pos↔x<k\/x=Q:=fun x=>by rw[<-fz];simp
  have im:pos.Nodup:=by rw[<-fz];refine List.nodup_append.2 ⟨List.nodup_range',by simp,fun a ha b hb e=> ?_⟩;simp at ha hb;omega
  have hplt: ∀x,x∈pos->x<(ba H [o]).length:=fun x hx=>by
   rw[<-cv,jr];rcases (hpm x).1 hx with h|h<;>simp only[az]<;>omega
  obtain⟨π,hπ⟩:=xA (oc pos (az (ba H [o])));have QB: ∀i,i<k->π i=i:=fun i hi=>by have:=QZ (base:=az (ba H [o])) (pos:=pos) (i:=i) (by omega);rw[Ik i hi,hπ] at this;exact (Option.some.inj this).symm
  have hπ2:π k=Q:=by have:=QZ (base:=az (ba H [o])) (pos:=pos) (i:=k) (by omega);rw[P6,hπ] at this;exact (Option.some.inj this).symm
  have PW:u1 k (C p)=AK:=wx p;have hf:=(hy p n pe h3 h4 h8 h10).frame (H:=ba H [o]) (l':=y) (args':=[(SS p).av,.bi Q 9 AW n AH]) pos im (by rw[hπ,QB y hyk]) (by
   rw[hπ];simp only[AV.ul,g8.av,AV.ml,u8,int,hπ2]) (by
   rw[hπ,show uj π (ba (C p) [.arr 9 n pe])=C p++[.arr 9 n pe] by
    rw[u2,fi,Am,<-u2,k1o QB PW];rfl]
   refine k0c (by rw[Aj,<-cv (C p),J0,qk];rfl) fun i lx ox hl ho=> ?_;by_cases hi:i<k
   ·rw[Ik i hi] at hl;cases hl;rw[AQ (by rw[<-cv (C p),J0];exact hi),<-cy] at ho;exact⟨ox,tf ((h5 i hi).trans ho),bx.refl _⟩
   ·have hik:i=k:=by have:=(List.getElem?_eq_some_iff.1 hl).1;omega
    subst hik;rw[P6] at hl;cases hl;rw[Ab (by rw[<-cv (C p),J0];exact As _),<-cv (C p),J0] at ho;simp at ho;subst ho;exact⟨_,tf h9,bx.refl _⟩)
  refine lh.mono ?_ hf;rintro pg v h' ⟨pg0,v0,h0,⟨k1,rfl,o1,rfl⟩,k2,rfl,k3⟩;rw[hπ] at k2 k3;have y3:pg=pg0:=by rw[k2,HN];exact (List.map_congr_left fun x hx=>QB x (hW x (k1 x hx)).1).trans (List.map_id _)
  subst y3;have hCx:(if z p=AK then C (p+1) else D p)=CC (p+1):=(kj p).symm;rw[hCx,u2,fi (CC (p+1)),Am,<-u2,k1o QB (Ll _)] at k3;obtain⟨o2,xu⟩: ∃z,[o1].map (ae.ml π)=[z]:=⟨_,rfl⟩;rw[xu] at k3;have tc:(uu pg (ba H [o])).length=(ba H [o]).length:=Vk _ _;have hHl:(ba H [o]).length=az H+1:=by rw[<-cv,jr];rfl
  have hxl:(CC (p+1)++[o2]).length=k+1:=by rw[Aj,<-cv (CC (p+1)),z7];rfl
  refine⟨k1,rfl,?_,fun x hx=> ?_,fun x o' g1 g2 g3 g4 g5=> ?_⟩
  ·rw[k3,cv (wh _ _ _),TW (by omega),tc,hHl];omega
  ·have:=TX (H:=uu pg (ba H [o])) (os:=CC (p+1)++[o2]) (i:=x) im (fun x hx=>by rw[tc];exact hplt x hx) (by omega) (by omega);rw[tc,<-cv (ba H [o]),hπ,QB x hx,<-k3,AQ (by rw[<-cv (CC (p+1)),z7];exact hx)] at this;rw[cy,cy];exact this
  ·rw[cy,k3,Mc (by rw[tc,hHl];omega) (fun hm=>by rcases (hpm x).1 hm with h|h<;>omega),OO,<-cy,tf g4,Ak];congr 1;have: ∀pg:List Nat,(∀q,q∈pg->o'.forget q AH=o')->yq pg o'=o':=by
    intro pg
    induction pg with
    |nil=>intro _;rfl
    |cons q pg ih=>intro h;rw[yq,h q (by simp)];exact ih fun q hq=>h q (List.mem_cons_of_mem _ hq)
   exact this pg fun q hq=>g5 q (k1 q hq)
def k4p:gy×gy:=match h2n with
 | .seq _ (.scope (.seq _ (.seq _ (.seq _ (.seq (.seq _ (.block _ (.loop (.seq _ (.seq _ (.seq (.block _ (.seq _ (.seq _ (.seq _ (.seq _ (.seq _ (.seq (.seq _ (.block _ (.range _ _ a b))) _))))))) _)))))) _)))))=>(a,b)
 |_=>(.ret,.ret)
def L4 (s:Wz):ae:= .loop s (dn [(3,.ptr 0 0),(10,.ptr 5 0),(11,.ptr 6 0),(12,.ptr 7 0)] 86) [44,45] (fun ca cb=>comp AI N1.A ca=AM k4p.1/\comp AI N1.A cb=AM k4p.2)
def Jl (qg:List DV)(a0 a1 a2 a3:Bool)(bj:Int)(bn:Nat)(be bp:Nat->List DV)(b0 b1 b2 b3:Bool)(i mx:Int)(sn:Nat)(se:Nat->List DV)(lp:ae)(p:Nat)(ce pe:Nat->List DV):List ae:=
 [.var [.d9 qg 0],.var [bool a0,bool a1,bool a2,bool a3],.var [int bj,.bi 3 2 AW bn AH,.bi 4 3 AW bn AH],.arr 2 bn be,.arr 3 bn bp,.var [bool b0,bool b1,bool b2,bool b3],.var [int i,.bi 11 2 AW p AH,.bi 12 3 AW p AH],.var [int mx],.var [.d (.sl 9 sn se)],.var [int i],lp,.arr 2 p ce,.arr 3 p pe]
theorem k3b (qg:List DV)(a0 a1 a2 a3:Bool)(bj:Int)(bn:Nat)(be bp:Nat->List DV)(b0 b1 b2 b3:Bool)(i mx mx':Int)(sn:Nat)(se:Nat->List DV)(p:Nat)(ce pe IN Jx:Nat->List DV)(n:Nat)(e9:Nat->List DV)(vf vn lk d:Int)(nc nn:Nat)(Cc Ee:Nat->List DV)(z:Bool)
 (hp:p<=1000000) (o5:au AI AH 110 [.d9 qg 0,.d (.sl 9 n e9),.agg [bool b0,bool b1,bool b2,bool b3]] (.tuple [.agg [int lk,.d (.sl 2 nc Cc),.d (.sl 3 nn Ee)],int d,bool z]))
 (Je: ∀j,j<p->RL (ce j) (IN j)) (Lu:IN p=[.int .u8 (.v vf),.int .i64 (.v vn)]) (Nj: ∀j,j<p->RL (pe j) (Jx j)) (LI:z=AK->RL [.int .i64 (.v lk),.sl 2 nc Cc,.sl 3 nn Ee] (Jx p)) (mq:z=AK->mx'=if mx<d then d else mx):
 lh AI 10 [.agg [u8 vf,int vn],.bi 13 9 AW n AH] (ba (Jl qg a0 a1 a2 a3 bj bn be bp b0 b1 b2 b3 i mx sn se (L4 .ready) p ce pe) [.arr 9 n e9])
  (fun pg v h'=>(∀x,x∈pg->x∈[11,12])/\v= .d (.bool z)/\ ∃o,h'=ba (if z=AK then Jl qg a0 a1 a2 a3 bj bn be bp b0 b1 b2 b3 i mx' sn se (L4 .ready) (p+1) IN Jx else Jl qg a0 a1 a2 a3 bj bn be bp b0 b1 b2 b3 i mx sn se (L4 (.done (.exit 1))) p ce pe) [o]):=by
 refine lh.cut (Mr AJ ci (A:=N1.A) rfl (fun _ _ h=>h) rfl fun ro E Sg hS=> ?_);have e:=fh hS;cbv;refine⟨fun h=>(nomatch h),_,_,_,rfl,?_⟩;cbv;refine ad hS (tq hS (As _)) ?_;refine bf hS _ o5 ?_;cases z
 ·cbv;refine⟨fun h=>(nomatch h),_,_,_,rfl,[],fun m _ h=>h,?_⟩;refine⟨ba (Jl qg a0 a1 a2 a3 bj bn be bp b0 b1 b2 b3 i mx sn se (L4 (.done (.exit 1))) p ce pe) [.t0 9 n e9],.d (.bool AH),?_,AC _,by simp[Jl,ba],.inl ⟨rfl,rfl⟩,fun x h=>(nomatch h),rfl,_,rfl⟩;exact .cons (.refl _) (.cons (.refl _) (.cons (.refl _) (.cons (.refl _) (.cons (.refl _) (.cons (.refl _) (.cons (.refl _) (.cons (.refl _) (.cons (.refl _) (.cons (.refl _) (.cons (.refl _) (.cons (.refl _) (.cons (.refl _) (.cons (.refl _) (.nil _))))))))))))))
 ·cbv;refine ad hS trivial (ad hS (uh hS (by omega)) (ad hS (mc hS) (ad hS (mc hS) (ad hS trivial (ad hS (uh hS (by omega)) ?_)))));refine⟨fun h=>(by rcases h with _|⟨_,h⟩<;>rcases h with _|⟨_,h⟩<;>cases h),_,_,_,rfl,[12,11],fun m _ h=>h,?_⟩;have em:Sg.VY (Sg.Vu mx d) d mx=mx':=by rw[e.VY,e.Vu,mq rfl];simp only[decide_eq_true_eq]
  refine⟨ba (Jl qg a0 a1 a2 a3 bj bn be bp b0 b1 b2 b3 i mx' sn se (L4 .ready) (p+1) IN Jx) [.t0 9 n e9],.d (.bool AK),?_,AC _,by simp[Jl,ba],.inl ⟨rfl,rfl⟩,fun x h=> ?_,rfl,_,rfl⟩
  ·exact .cons (.refl _) (.cons (.refl _) (.cons (.refl _) (.cons (.refl _) (.cons (.refl _) (.cons (.refl _) (.cons (.var (.cons (AC _) (.cons (w7 hS) (.cons (w7 hS) .nil)))) (.cons (.var (.cons (br em) .nil)) (.cons (.refl _) (.cons (.refl _) (.cons (.refl _)
    (.cons (yc hS Je (by rw[Lu];exact .refl _)) (.cons (yc hS Nj (LI rfl)) (.cons (.refl _) (.nil _))))))))))))))
  ·simp only[List.mem_cons,List.not_mem_nil,or_false] at h⊢;omega
end Go.Proofs.Tryz.Run
