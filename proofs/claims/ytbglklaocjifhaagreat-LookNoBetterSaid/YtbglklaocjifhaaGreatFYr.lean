/- LookNoBetter answers true. Conditions: none. -/
import Derived.Test.YtbglklaocjifhaaGreatFJq
open Go.Vf.a0x renaming refl->AA,sl'->AY,any->Ac,nil0->Af
open Go.Proofs.Tryz renaming prog->AB
open Int renaming ofNat->AC,ofNat_eq_natCast->AD,natCast_nonneg->AX,ofNat_lt->Ad,le_refl->Ae
open Bool renaming false->AE,true->AF
open Go.Proofs.Tryz.Run.PlR renaming deep->AG,cnt->AP,cut->AU,nn->Aa,nc->Ab,avE->Ag
open Go.Proofs.YtbglklaocjifhaaGreat.Tryz renaming mixed->AH
open Classical renaming byContradiction->AI
open Nat renaming le_trans->AJ,pos_of_ne_zero->AO,mod_lt->AS,lt_irrefl->AT,le_refl->AW,not_lt_zero->AZ
open List renaming length_filter_le->AK,length_pos_iff->AM,cons_append->AQ,nil_append->AR
open Iff renaming rfl->AN
set_option linter.unusedSimpArgs false
set_option linter.unusedVariables false
set_option maxHeartbeats 0
set_option maxRecDepth 100000
namespace Go.Proofs.Tryz.Run
open Go Go.Vf Go.Proofs
section
variable {P:Program} {A:Ann} {ro:Option Nat} {E:Ent} {Sg:Sig}
theorem k7o (hS:Sg=std P A ro E){z:Int}{n:Nat}(h:0<=z):Sg.irem z (Sg.ofNat n)=((z.toNat % n:Nat):Int):=by rw[(b2k hS).irem,(b2k hS).ofNat];obtain⟨k,rfl⟩: ∃k:Nat,z=k:=⟨z.toNat,by omega⟩;rw[Int.toNat_natCast,Int.tmod_eq_emod_of_nonneg h];rfl
theorem k7t (hS:Sg=std P A ro E){n:Nat}(h:n≠0):Sg.nz (Sg.ofNat n):=by subst hS;exact fun h2=>h (Int.ofNat.inj h2)
end
open Go.Proofs.YtbglklaocjifhaaGreat
def wrA (m:Nat)(f:Nat->Int):AV:= .d (.sl 1 m fun j=>[.int .u16 (.v (f j))])
noncomputable def PbR.tr (K:PbR):Nat->List Nat->Nat->(Nat->Int)->PlR
 |0,_,_,_=>k0p
 |lv+1,l,m,f=>by classical exact if k1e K.G l\/m=0\/K.nl=0 then k0p else j8y ((f 0).toNat % K.nl) (cellsOf (K.X ((f 0).toNat % K.nl)) l) fun j=>PbR.tr K lv (K.pt ((f 0).toNat % K.nl) l j) (m-1-j % (m-1)) fun t=>f (1+(j % (m-1)+t))
theorem PbR.tr_leaf {K:PbR}{lv m:Nat}{l:List Nat}{f:Nat->Int}(h:k1e K.G l\/lv=0\/m=0\/K.nl=0):K.tr lv l m f=k0p:=by
 cases lv with
 |zero=>rfl
 |succ lv=>rw[PbR.tr,if_pos (by rcases h with h|h|h;exact .inl h;exact absurd h (by omega);exact .inr h)]
theorem k9r:a0j AB AE 67 [] k0p.av:=by refine a0k AH okP h3b _ rfl fun E Sg hbs hS=> ?_;cbv;exact a3x.agg (.cons (a6c rfl) (.cons Af (.cons Af .nil)))
theorem k9l {nl T:Nat}{X:Nat->Nat->VaR}{G:Nat->Bool}{l:List Nat}{lv m:Nat}{f:Nat->Int}{dd:Bool}(h60:a0j AB AF 60 [.agg (knC nl T X G),pll l] (bool dd))(h:dd=AF\/lv=0\/m=0\/nl=0):
 a0j AB AE 49 [.agg (knC nl T X G),pll l,wrA m f,int lv] k0p.av:=by
 have h67:=k9r;unfold pll knC wrA at*
 obtain⟨W,hWe⟩:=xB fun j:Nat=>l.getD j 0;obtain⟨n,hn⟩:=xA l.length;simp only[hWe,hn] at*
 obtain⟨lk0,nc0,nn0,C0,D0,hRA,_⟩:=k0p.avX;rw[hRA];rw[hRA] at h67;clear hRA;refine a0k AH okP k9x _ rfl fun E Sg hbs hS=> ?_;have e:=b2k hS;cases dd
 rotate_left
 ·cbv;refine a0v hS _ h60 ?_;cbv;refine a0v hS _ h67 ?_;cbv;exact AA _
 obtain⟨q1,h1⟩: ∃q:Bool,q=decide (lv=0):=⟨_,rfl⟩;obtain⟨q2,h2⟩: ∃q:Bool,q=decide (m=0):=⟨_,rfl⟩;obtain⟨q3,h3⟩: ∃q:Bool,q=decide (nl=0):=⟨_,rfl⟩;have g1:Sg.ieq (AC lv) (AC 0)=q1:=by rw[e.ieq,h1];by_cases h:lv=0<;>simp[h]
 have g2:Sg.ieq (Sg.ofNat m) (AC 0)=q2:=by rw[e.ieq,e.ofNat,h2];by_cases h:m=0<;>simp[h]
 have g3:Sg.ieq (Sg.ofNat nl) (AC 0)=q3:=by rw[e.ieq,e.ofNat,h3];by_cases h:nl=0<;>simp[h]
 have hor:q1=AF\/q2=AF\/q3=AF:=by
  rcases h with h|h|h|h
  ·cases h
  ·exact .inl (h1.trans (decide_eq_true h))
  ·exact .inr (.inl (h2.trans (decide_eq_true h)))
  ·exact .inr (.inr (h3.trans (decide_eq_true h)))
 clear h1 h2 h3 h;cbv;refine a0v hS _ h60 ?_;cbv;simp only[g1];cases q1
 rotate_left
 ·cbv;refine a0v hS _ h67 ?_;cbv;exact AA _
 cbv;simp only[g2];cases q2
 rotate_left
 ·cbv;refine a0v hS _ h67 ?_;cbv;exact AA _
 obtain rfl:q3=AF:=by simpa using hor
 cbv;simp only[g3];cbv;refine a0v hS _ h67 ?_;cbv;exact AA _
structure T1 where
 j:Nat
 e:Nat->List DV
theorem k9n {nl T:Nat}(hnl:nl≠0){X:Nat->Nat->VaR}{G:Nat->Bool}{l:List Nat}(hll:l.length<=1000000){lv m:Nat}(hlv:0<lv)(hlv6:lv<=6)(hm:0<m)(hm6:m<=1000000){f:Nat->Int}(hf: ∀j,j<m->0<=f j/\f j<=65535){K:PbR}{i:Nat}(hi:i=(f 0).toNat % nl)
 (h60:a0j AB AF 60 [.agg (knC nl T X G),pll l] (bool AE))
 (h61:a0j AB AE 61 [.agg (knC nl T X G),pll l,int i] (.tuple [vsl (cellsOf (K.X i) l).length fun j=>(cellsOf (K.X i) l).getD j ⟨0,0⟩,prt K i l]))
 (rf:Nat->PlR) (hk: ∀j,j<(cellsOf (K.X i) l).length->a0j AB AE 49 [.agg (knC nl T X G),pll (K.pt i l j),wrA (m-1-j % (m-1)) (fun t=>f (1+(j % (m-1)+t))),int ((lv:Int)-1)] (rf j).av):
 a0j AB AE 49 [.agg (knC nl T X G),pll l,wrA m f,int lv] (j8y i (cellsOf (K.X i) l) rf).av:=by
 have hcl:(cellsOf (K.X i) l).length<=1000000:=AJ (j9v _ _) hll;obtain⟨k,rfl⟩: ∃k,m=k+1:=⟨m-1,by omega⟩;simp only[Nat.add_sub_cancel] at hk;unfold pll prt wrA at*
 obtain⟨W,hWe⟩:=xB fun j:Nat=>l.getD j 0;obtain⟨n,hn⟩:=xA l.length;obtain⟨N0,hNN⟩:=xA ((cellsOf (K.X i) l).length);obtain⟨CE,hCE⟩: ∃f:Nat->List DV,∀j,((cellsOf (K.X i) l).getD j ⟨0,0⟩).row=f j:=⟨fun j=>_,fun _=>rfl⟩;obtain⟨PN,hPN⟩: ∃f:Nat->Nat,∀j,(K.pt i l j).length=f j:=⟨fun j=>_,fun _=>rfl⟩;obtain⟨PE,hPE⟩: ∃f:Nat->Nat->Nat,∀j t,(K.pt i l j).getD t 0=f j t:=⟨fun j t=>_,fun _ _=>rfl⟩;have hRA:(j8y i (cellsOf (K.X i) l) rf).av= .agg [int i,.d (.sl 2 N0 CE),.d (.sl 3 N0 fun j=>if j<N0 then (if j<N0 then rf j else .none).row else d4k)]:=by rw[Ag];simp only[j8y,PlR.look,Ab,Aa,PlR.c,PlR.nx,hNN,hCE]
 rw[hRA];clear hRA;simp only[hWe,hn,vsl,hNN,hCE,hPN,hPE] at h60 h61 hk hcl⊢;obtain⟨kn,hkn⟩:=xA (knC nl T X G);have hkn2: ∃x0 x1,kn=[.d (.sl 1 nl x0),.d (.sl 1 T x1)]:=⟨_,_,hkn.symm⟩;rw[hkn] at h60 h61 hk⊢;obtain⟨x0,x1,rfl⟩:=hkn2;clear hkn;obtain⟨lk,h1⟩:=xB fun j:Nat=>(rf j).look;obtain⟨nc,h2⟩:=xB fun j:Nat=>(rf j).nc;obtain⟨nn,h3⟩:=xB fun j:Nat=>(rf j).nn;obtain⟨C,h4⟩: ∃g:Nat->Nat->List DV,∀j,(fun t=>((rf j).c t).row)=g j:=⟨fun j=>_,fun _=>rfl⟩;obtain⟨D,h5⟩: ∃g:Nat->Nat->List DV,∀j,(fun t=>if t<(rf j).nn then ((rf j).nx t).row else d4k)=g j:=⟨fun j=>_,fun _=>rfl⟩;have hrow: ∀j,(rf j).row=[.int .i64 (.v (lk j)),.sl 2 (nc j) (C j),.sl 3 (nn j) (D j)]:=fun j=>by rw[PlR.rowE,h1,h2,h3,h4,<-h3,h5]
 simp only[Ag,h1,h2,h3,h4] at hk;simp only[<-h3,h5] at hk;simp only[h3] at hk;clear h1 h2 h3 h4 h5 hWe hn hNN hCE hPN hPE;obtain⟨RE,hRE⟩: ∃g:Nat->List DV,(fun j=>if j<N0 then (if j<N0 then rf j else PlR.none).row else d4k)=g:=⟨_,rfl⟩;have hREj: ∀j,j<N0->RE j=[.int .i64 (.v (lk j)),.sl 2 (nc j) (C j),.sl 3 (nn j) (D j)]:=fun j hj=>by rw[<-hRE];simp only[if_pos hj];exact hrow j
 rw[hRE];clear hRE hrow;refine a0k AH okP k9x _ rfl fun E Sg hbs hS=> ?_;have e:=b2k hS;have en: ∀k:Nat,nat Sg (IX.v (AC k))=k:=fun k=>by show Sg.toNat (AC k)=k;rw[e.toNat];rfl
 have g1:Sg.ieq (AC lv) (AC 0)=AE:=by rw[e.ieq];exact beq_false_of_ne (by simp only[AD];omega)
 have g2:Sg.ieq (Sg.ofNat (k+1)) (AC 0)=AE:=by rw[e.ieq,e.ofNat];exact beq_false_of_ne (by simp only[AD];omega)
 have g3:Sg.ieq (Sg.ofNat nl) (AC 0)=AE:=by rw[e.ieq,e.ofNat];exact beq_false_of_ne (by simp only[AD];omega)
 have grem:Sg.irem (Sg.iwrap .i64 (f 0)) (Sg.ofNat nl)=AC i:=by
  obtain⟨q1,q2⟩:=hf 0 hm;have:Sg.iwrap .i64 (f 0)=f 0:=by rw[e.iwrap];exact b6g (by omega) (by omega)
  rw[this,k7o hS q1,hi];rfl
 have gnz:Sg.nz (Sg.ofNat nl):=k7t hS hnl;cbv;refine a0v hS _ h60 ?_;cbv;simp only[g1];cbv;simp only[g2];cbv;simp only[g3];cbv;have en0:nat Sg (IX.l (AC 0))=0:=rfl;refine a1g hS (a5p hS hm) ?_;refine a1g hS gnz ?_;simp only[en0,grem];refine a0v hS _ h61 ?_;cbv;refine e4p AH okP hS (σ:=T1) (fun s=>s.j<=N0/\ ∀t,t<s.j->s.e t=RE t) (fun s=>N0-s.j)
  (fun s=>⟨b5r [(2,.d (.sl 1 (k+1) fun j=>[.int .u16 (.v (f j))])),(3,int lv),(4,.ptr 0 0),(8,.ptr 1 0),(11,.d (.sl 1 N0 fun j=>[.sl 1 (PN j) fun t=>[.int .i64 (.v (PE j t))]])),(12,.ptr 2 0),(13,int s.j)] 84,[.var [.d (.sl 1 nl x0),.d (.sl 1 T x1)],.var [.any,.any,.any],.var [int i,.d (.sl 2 N0 CE),.msl 3 3 none s.j AE],.arr 3 s.j s.e],[3]⟩) ⟨0,fun _=>[]⟩ ⟨Nat.zero_le _,fun t ht=>absurd ht (AZ t)⟩ ?_ ?_
 ·refine (b4w.gh 2 2 3 (fun _=>[]) rfl rfl).trans (b4w.le ?_);exact a4c rfl ⟨AA _,AA _,AA _,AA _,AA _,AA _,a6c rfl,trivial⟩ (.cons (.refl _) (.cons (.var (.cons (Ac _) (.cons (Ac _) (.cons (Ac _) .nil)))) (.cons (.refl _) (.cons (.refl _) (.nil _))))) (by simp;omega) (.inr rfl) rfl
 rintro⟨j,ee⟩ ⟨hj,hall⟩ N hN;simp only at hj hall;cbv;split
 ·rename_i h;have hjl:j<N0:=d3r hS h;have hkj:=hk j hjl;have c2:Sg.nsub (Sg.toNat (Sg.ofNat (k+1))) 1=k:=by rw[e.nsub,e.toNat,e.ofNat];simp
  obtain⟨q,hq⟩: ∃q:Bool,decide (0<k)=q:=⟨_,rfl⟩;have gq:Sg.ilt (AC 0) (Sg.ofNat k)=q:=by rw[e.ilt,e.ofNat,<-hq];exact decide_eq_decide.2 (by simp only[AD];omega)
  have p1:Sg.pile 0 (AC 1):=by subst hS;show (0:Int)<=1;decide
  have p2:Sg.pile (AC 1) (Sg.ofNat (k+1)):=by subst hS;show (1:Int)<=AC (k+1);simp only[AD];omega
  have p3:Sg.pile (Sg.ofNat (k+1)) (Sg.ofNat (k+1)):=by subst hS;exact Ae _
  cbv;refine a1g hS p1 (a1g hS p2 (a1g hS p3 ?_));simp only[c2,gq];have rowj:=hREj j hjl;cases q
  ·have hk0:k=0:=by have:=of_decide_eq_false hq;omega
   have gA:a0j AB AE 49 [.agg [.d (.sl 1 nl x0),.d (.sl 1 T x1)],.d (.sl 1 (PN j) fun t=>[.int .i64 (.v ((PE j t:Nat):Int))]),.d (.sl 1 k (Sg.shift (fun j=>[.int .u16 (.v (f j))]) 1)),int (Sg.isub (AC lv) (AC 1))] (.agg [int (lk j),.d (.sl 2 (nc j) (C j)),.d (.sl 3 (nn j) (D j))]):=by refine hkj.like (.cons (AA _) (.cons (AA _) (.cons (AY (by rw[hk0];simp) fun t ht=>by omega) (.cons ?_ .nil))));rw[e.isub];exact AA _
   cbv;simp only[en];refine a1g hS (a5p hS hjl) (a1g hS (a9o hS (by simp only[AD];omega)) ?_);refine a0v hS _ gA ?_;cbv;refine a1g hS (c3d hS) (a1g hS (c3d hS) (a1g hS trivial (a1g hS (f1i hS (by omega)) ?_)));refine a1g hS (e1n hS (by omega)) ?_;refine hN ⟨j+1,fun t=>if t<j then ee t else RE j⟩ _ ⟨hjl,fun t ht=> ?_⟩ (by simp only;omega) (b4w.le (a4c rfl ⟨AA _,AA _,AA _,AA _,AA _,AA _,b2s hS,trivial⟩ (.cons (.refl _) (.cons (.refl _) (.cons (.var (.cons (AA _) (.cons (AA _) (.cons (d8n hS) .nil)))) (.cons (d7h hS (fun t ht=> ?_) ?_) (.nil _))))) (by simp;omega) (.inl ⟨rfl,rfl⟩) (j7y _)))
   ·simp only at ht⊢;by_cases et:t=j
    ·subst et;rw[if_neg (by omega)]
    ·rw[if_pos (by omega)];exact hall t (by omega)
   ·simp only[if_pos ht];exact RL.refl _
   ·simp only[if_neg (AT j)];rw[rowj];exact RL.refl _
  ·have hk0:0<k:=of_decide_eq_true hq;have hmod:j % k<k:=AS _ hk0;have gr:Sg.irem (AC j) (Sg.ofNat k)=AC (j % k):=k7o hS (AX j);have gA:a0j AB AE 49 [.agg [.d (.sl 1 nl x0),.d (.sl 1 T x1)],.d (.sl 1 (PN j) fun t=>[.int .i64 (.v ((PE j t:Nat):Int))]),.d (.sl 1 (Sg.nsub (Sg.toNat (Sg.ofNat k)) (Sg.toNat (AC (j % k)))) (Sg.shift (Sg.shift (fun j=>[.int .u16 (.v (f j))]) 1) (Sg.toNat (AC (j % k))))),int (Sg.isub (AC lv) (AC 1))] (.agg [int (lk j),.d (.sl 2 (nc j) (C j)),.d (.sl 3 (nn j) (D j))]):=by refine hkj.like (.cons (AA _) (.cons (AA _) (.cons (AY (by rw[e.nsub,e.toNat,e.toNat,e.ofNat];rfl) fun t ht=>by rw[e.shift,e.shift,e.toNat];rfl) (.cons ?_ .nil))));rw[e.isub];exact AA _
   have n1:Sg.nz (Sg.ofNat k):=k7t hS (by omega);have n2:Sg.pile 0 (AC (j % k)):=by subst hS;exact AX _
   have n3:Sg.pile (AC (j % k)) (Sg.ofNat k):=by subst hS;exact Int.ofNat_le.2 (by omega)
   have n4:Sg.pile (Sg.ofNat k) (Sg.ofNat k):=by subst hS;exact Ae _
   cbv;simp only[en,gr];refine a1g hS n1 (a1g hS n2 (a1g hS n3 (a1g hS n4 ?_)));refine a1g hS (a5p hS hjl) (a1g hS (a9o hS (by simp only[AD];omega)) ?_);refine a0v hS _ gA ?_;cbv;refine a1g hS (c3d hS) (a1g hS (c3d hS) (a1g hS trivial (a1g hS (f1i hS (by omega)) ?_)));refine a1g hS (e1n hS (by omega)) ?_;refine hN ⟨j+1,fun t=>if t<j then ee t else RE j⟩ _ ⟨hjl,fun t ht=> ?_⟩ (by simp only;omega) (b4w.le (a4c rfl ⟨AA _,AA _,AA _,AA _,AA _,AA _,b2s hS,trivial⟩ (.cons (.refl _) (.cons (.refl _) (.cons (.var (.cons (AA _) (.cons (AA _) (.cons (d8n hS) .nil)))) (.cons (d7h hS (fun t ht=> ?_) ?_) (.nil _))))) (by simp;omega) (.inl ⟨rfl,rfl⟩) (j7y _)))
   ·simp only at ht⊢;by_cases et:t=j
    ·subst et;rw[if_neg (by omega)]
    ·rw[if_pos (by omega)];exact hall t (by omega)
   ·simp only[if_pos ht];exact RL.refl _
   ·simp only[if_neg (AT j)];rw[rowj];exact RL.refl _
 ·rename_i h;have hjn:j=N0:=by have:=d3c hS h;omega
  subst hjn;cbv;refine a1g hS (e8l hS (AW _)) ?_;refine a3x.agg (.cons (AA _) (.cons (AA _) (.cons ?_ .nil)));exact AY rfl fun t ht=>hall t ht
theorem k9o {nl T:Nat}(hnl:nl<=4)(hT:T<=1000000){X:Nat->Nat->VaR}{G:Nat->Bool}{K:PbR}(hK:K.nl=nl)(hKX: ∀i,K.X i=X i)(hKG:K.G=G): ∀(lv:Nat),lv<=4-> ∀(l:List Nat),l≠[]->l.length<=1000000->(∀q,q∈l->q<T)-> ∀(m:Nat) (f:Nat->Int),m<=1000000->(∀j,j<m->0<=f j/\f j<=65535)->
 a0j AB AE 49 [.agg (knC nl T X G),pll l,wrA m f,int lv] (K.tr lv l m f).av:=by
 classical
 intro lv
 induction lv with
 |zero=>intro _ l hl0 hll hW m f hm hf;exact k9l (k2k hT hll hW (r:=decide (k1e G l)) decide_eq_true_iff) (.inr (.inl rfl))
 |succ lv ih=>
  intro hlv l hl0 hll hW m f hm hf;have h60:=k2k (nl:=nl) hT (X:=X) (G:=G) hll hW (r:=decide (k1e G l)) decide_eq_true_iff;by_cases h:k1e K.G l\/m=0\/K.nl=0
  ·rw[PbR.tr_leaf (by rcases h with h|h;exact .inl h;exact .inr (.inr h))];exact k9l h60 (by rcases h with h|h|h;exact .inl (decide_eq_true (hKG▸h));exact .inr (.inr (.inl h));exact .inr (.inr (.inr (hK▸h))))
  ·have h1: ¬k1e G l:=fun h'=>h (.inl (by rw[hKG];exact h'));have h2:0<m:=AO fun h'=>h (.inr (.inl h'));have h3:nl≠0:=fun h'=>h (.inr (.inr (hK.trans h')));rw[decide_eq_false h1] at h60;have hi:(f 0).toNat % nl<nl:=AS _ (by omega);have h61:=k3w (nl:=nl) (T:=T) (X:=X) (G:=G) hnl hT hl0 hll hW hi;rw[<-hKX] at h61;rw[PbR.tr,if_neg h,hK];refine k9n h3 hll (lv:=lv+1) (by omega) (by omega) h2 hm hf (K:=K) rfl h60 h61 _ fun j hj=> ?_;have hne:K.pt ((f 0).toNat % nl) l j≠[]:=j9e (j8e hj);have:=ih (by omega) (K.pt ((f 0).toNat % nl) l j) hne (AJ (AK _ _) hll) (fun q hq=>hW q (j8c.1 hq).1) (m-1-j % (m-1)) (fun t=>f (1+(j % (m-1)+t))) (by omega) (fun t ht=>hf _ (by
    by_cases h0:m-1=0
    ·omega
    ·have:=AS j (AO h0);omega))
   rwa [show ((lv+1:Nat):Int)-1=lv by omega]
theorem PbR.tr_cnt (K:PbR): ∀(lv k:Nat) (l:List Nat) (m:Nat) (f:Nat->Int),AP k (K.tr lv l m f)<=2*lv*l.length:=by
 intro lv
 induction lv with
 |zero=>intro k l m f;cases k<;>simp[PbR.tr,k0p,AP,Ab,Aa,b9p]
 |succ lv ih=>
  intro k l m f;by_cases h:k1e K.G l\/m=0\/K.nl=0
  ·rw[PbR.tr_leaf (by rcases h with h|h;exact .inl h;exact .inr (.inr h))];cases k<;>simp[k0p,AP,Ab,Aa,b9p]
  rw[PbR.tr,if_neg h];generalize (f 0).toNat % K.nl=i;have hl:=j9v (K.X i) l;have hs:=k0n (K.X i) (cellsOf (K.X i) l) (j9u (j8b _ l)) l fun p hp=>j7x.2 ⟨p,hp,rfl⟩;rw[<-k2o (fun v=>(j7u (K.X i) v l).length) ⟨0,0⟩] at hs;have e:2*(lv+1)*l.length=2*l.length+2*lv*l.length:=by rw[Nat.mul_add,Nat.add_mul];omega
  cases k with
  |zero=>simp only[j8y,AP,Ab,Aa];omega
  |succ k=>
   have hk:b9p (fun j=>AP k (K.tr lv (K.pt i l j) (m-1-j % (m-1)) fun t=>f (1+(j % (m-1)+t)))) (cellsOf (K.X i) l).length<=2*lv*l.length:=by refine AJ (k2w (g:=fun j=>2*lv*(K.pt i l j).length) fun j hj=>ih k _ _ _) ?_;rw[k1p];exact Nat.mul_le_mul_left _ (Nat.le_of_eq hs)
   rw[k3h];omega
def PbR.dc (K:PbR):Nat->PlR->List Nat->Prop
 |0,p,l=>p.look= -1/\k1e K.G l
 |d+1,p,l=>(p.look= -1/\k1e K.G l)\/ ∃i:Nat,p.look=i/\i<K.nl/\p.nc=(cellsOf (K.X i) l).length/\(∀j,j<p.nc->p.c j=(cellsOf (K.X i) l).getD j ⟨0,0⟩)/\ ∀j,j<p.nc->PbR.dc K d (p.nx j) (K.pt i l j)
theorem PbR.dc_leaf {K:PbR}{d:Nat}{p:PlR}{l:List Nat}(h:p.look= -1):K.dc d p l↔k1e K.G l:=by
 cases d with
 |zero=>exact⟨fun h=>h.2,fun h'=>⟨h,h'⟩⟩
 |succ d=>exact⟨fun h'=>by
   rcases h' with h'|⟨i,h1,_⟩
   ·exact h'.2
   ·omega,fun h'=> .inl ⟨h,h'⟩⟩
theorem PbR.dc_node {K:PbR}{d i:Nat}{p:PlR}{l:List Nat}(h:p.look=i):K.dc (d+1) p l↔i<K.nl/\p.nc=(cellsOf (K.X i) l).length/\(∀j,j<p.nc->p.c j=(cellsOf (K.X i) l).getD j ⟨0,0⟩)/\ ∀j,j<p.nc->K.dc d (p.nx j) (K.pt i l j):=by
 constructor
 ·rintro (⟨h1,_⟩|⟨i',h1,h2⟩)
  ·omega
  ·obtain rfl:i'=i:=by omega
   exact h2
 ·exact fun h2=> .inr ⟨i,h,h2⟩
theorem PbR.dc_cut {K:PbR}: ∀(d k:Nat) (p:PlR) (l:List Nat),d<=k->(K.dc d (AU k p) l↔K.dc d p l)
 |0,k,p,l,_=>by cases k<;>exact AN
 |d+1,k,p,l,h=>by obtain⟨k,rfl⟩: ∃m,k=m+1:=⟨k-1,by omega⟩;refine or_congr AN (exists_congr fun i=>and_congr AN (and_congr AN (and_congr AN (and_congr AN ?_))));exact forall_congr' fun j=>imp_congr_right fun _=>PbR.dc_cut d k (p.nx j) _ (by omega)
theorem PbR.same.dc {K K':PbR}: ∀{d:Nat} {p:PlR} {l:List Nat},K.same K' l->(K.dc d p l↔K'.dc d p l)
 |0,p,l,h=>and_congr AN h.dec
 |d+1,p,l,h=>or_congr (and_congr AN h.dec) (exists_congr fun i=>by
  rw[<-h.nl];refine and_congr_right fun _=>and_congr_right fun hi=> ?_;rw[j8q (h.X i hi)];refine and_congr_right fun hn=>and_congr_right fun _=>forall_congr' fun j=>imp_congr_right fun hj=> ?_;have hp:K.pt i l j=K'.pt i l j:=by unfold PbR.pt;rw[j8q (h.X i hi),j9d (h.X i hi)]
  rw[<-hp];exact PbR.same.dc (h.sub j8p))
theorem PlR.look_of {p:PlR}{lk:Int}{xs:List AV}(h:p.av= .agg (int lk::xs)):p.look=lk:=by have:=p.avE.symm.trans h;simp[int] at this;exact this.1
theorem k9k {f:Nat->Nat}: ∀{n i:Nat},i<n->f i<=b2o f n
 |0,i,h=>absurd h (AZ i)
 |n+1,i,h=>by
  simp only[b2o];by_cases e:i=n
  ·subst e;omega
  ·have:=k9k (f:=f) (show i<n by omega);omega
theorem PlR.deep_leaf {d n:Nat}{p:PlR}(hP:p.isP d)(h:p.look= -1):AG n p=0:=by
 have:p.nn=0:=by
  cases d with
  |zero=>obtain⟨_,_,a3,a4,_⟩:=hP;rw[a3,a4 h]
  |succ d=>obtain⟨_,_,a3,a4,_⟩:=hP;rw[a3,a4 h]
 cases n with
 |zero=>rfl
 |succ n=>rw[AG,this];rfl
theorem PbR.dc_can {K:PbR}(hA: ∀i,i<K.nl->K.A i=AF): ∀{d:Nat} {p:PlR} {l:List Nat},p.isP d->K.dc d p l->K.can (AG (d+1) p) l
 |0,p,l,hP,h=>by rw[PlR.deep_leaf hP h.1];exact h.2
 |d+1,p,l,hP,h=>by
  rcases h with⟨h1,h2⟩|⟨i,h1,h2,h3,h4,h5⟩
  ·rw[PlR.deep_leaf hP h1];exact h2
  ·obtain⟨_,_,a3,_,a5⟩:=hP;obtain⟨_,b2,b3⟩:=a5 (by omega);obtain⟨m,hm⟩: ∃m,AG (d+1+1) p=m+1:=⟨AG (d+1+1) p-1,by
    have:1+AG (d+1) (p.nx 0)<=AG (d+1+1) p:=k9k (f:=fun i=>1+AG (d+1) (p.nx i)) (show 0<p.nn by omega);omega⟩
   have hk: ∀j,j<p.nc->AG (d+1) (p.nx j)<=m:=fun j hj=>by have:1+AG (d+1) (p.nx j)<=AG (d+1+1) p:=k9k (f:=fun i=>1+AG (d+1) (p.nx i)) (show j<p.nn by omega);omega
   rw[hm];refine .inr ⟨i,h2,hA i h2,fun v hv=> ?_⟩;obtain⟨j,hj,rfl⟩:=k1f hv;exact PbR.can_le (PbR.dc_can hA (b3 j (by omega)).2.2 (h5 j (by omega))) (hk j (by omega))
theorem PbR.dc_better {K:PbR}(hA: ∀i,i<K.nl->K.A i=AF){d n:Nat}{p:PlR}{l:List Nat}(hP:p.isP d)(h:K.dc d p l)(hm:K.mind n l):n<=AG (d+1) p/\(AG (d+1) p=n->(K.bt n l).look<=p.look):=by
 have hge:n<=AG (d+1) p:=AI fun hlt=>hm.2 _ (by omega) (PbR.dc_can hA hP h);refine⟨hge,fun he=> ?_⟩;have hlk: -1<=p.look:=by cases d with
  |zero=>exact hP.1
  |succ d=>exact hP.1
 cases n with
 |zero=>exact hlk
 |succ n=>
  obtain⟨f1,f2,f3⟩:=hm.fst;rw[f3];cases d with
  |zero=>have:=PlR.deep_leaf (n:=0+1) hP h.1;omega
  |succ d=>
   rcases h with⟨h1,h2⟩|⟨i,h1,h2,h3,h4,h5⟩
   ·have:=PlR.deep_leaf (n:=d+1+1) hP h1;omega
   ·obtain⟨_,_,a3,_,a5⟩:=hP;obtain⟨_,b2,b3⟩:=a5 (by omega);have hsp:K.sp n l i:=⟨hA i h2,fun v hv=>by
     obtain⟨j,hj,rfl⟩:=k1f hv;have:1+AG (d+1) (p.nx j)<=AG (d+1+1) p:=k9k (f:=fun i=>1+AG (d+1) (p.nx i)) (show j<p.nn by omega);exact PbR.can_le (PbR.dc_can hA (b3 j (by omega)).2.2 (h5 j (by omega))) (by omega)⟩
    show ((j9f (K.sp n l) K.nl:Nat):Int)<=p.look;have:j9f (K.sp n l) K.nl<=i:=AI fun hlt=>(j9c (K.sp n l) K.nl).2.2 i (by omega) hsp;omega
def k8w:a0c×a0c:=match g7d with
 | .seq _ (.seq _ (.seq _ (.seq _ (.seq (.seq _ (.block _ (.range _ _ a b))) _))))=>(a,b)
 |_=>(.ret,.ret)
def k8d (s:LSt):a0f:= .loop s (b5r [(3,.ptr 0 0),(4,.ptr 1 0),(6,.ptr 2 0),(7,.ptr 3 0)] 60) [26,27] (fun ca cb=>comp AB g2i.A ca=some k8w.1/\comp AB g2i.A cb=some k8w.2)
def k7z (trow:List DV)(l:Int)(nc:Nat)(A B:Nat->Int)(nn:Nat)(lk:Nat->Int)(ncs nns:Nat->Nat)(C D:Nat->Nat->List DV)(p:Nat)(sn:Nat)(se:Nat->List DV)(lp:a0f):List a0f:=
 [.var [.dptr trow 0],.var [int l,.d (.sl 2 nc fun j=>[.int .u8 (.v (A j)),.int .i64 (.v (B j))]),.d (.sl 3 nn fun i=>[.int .i64 (.v (lk i)),.sl 2 (ncs i) (C i),.sl 3 (nns i) (D i)])],.var [bool AE],.var [int p],.var [.d (.sl 9 sn se)],.var [int l],lp]
theorem k8q (trow:List DV)(l:Int)(nc:Nat)(A B:Nat->Int)(nn:Nat)(lk:Nat->Int)(ncs nns:Nat->Nat)(C D:Nat->Nat->List DV)(p:Nat)(sn:Nat)(se:Nat->List DV)(n:Nat)(e9:Nat->List DV)(vf vn:Int)(z:Bool)(hnc:nc<=1000000)(hp:p<=nc)(hnn:nc<=nn)
 (h1:p=nc->z=AE) (h2:p<nc-> ¬(A p=vf/\B p=vn)->z=AE) (h3:p<nc->A p=vf->B p=vn->a0j AB AE 124 [.dptr trow 0,.agg [int (lk p),.d (.sl 2 (ncs p) (C p)),.d (.sl 3 (nns p) (D p))],.d (.sl 9 n e9)] (bool z)):
 b5d AB 6 [.agg [u8 vf,int vn],.msl 7 9 none n AE] (a2u (k7z trow l nc A B nn lk ncs nns C D p sn se (k8d .ready)) [.arr 9 n e9])
  (fun pg v h'=>(∀x,x∈pg->x∈([]:List Nat))/\v= .d (.bool z)/\ ∃o,h'=a2u (if z=AF then k7z trow l nc A B nn lk ncs nns C D (p+1) sn se (k8d .ready) else k7z trow l nc A B nn lk ncs nns C D p sn se (k8d (.done .ret))) [o]):=by
 refine b5d.cut (b9t AH okP (A:=g2i.A) rfl (fun _ _ h=>h) rfl fun ro E Sg hS=> ?_);have e:=b2k hS;have en: ∀k:Nat,nat Sg (IX.v (AC k))=k:=fun k=>by show Sg.toNat (AC k)=k;rw[e.toNat];rfl
 by_cases c1:p=nc
 ·have g1:Sg.ieq (AC p) (Sg.ofNat nc)=AF:=j6i hS c1;have hz:=h1 c1;subst hz;cbv;refine⟨fun h=>(nomatch h),_,_,_,rfl,?_⟩;cbv;simp only[g1];cbv;refine⟨fun h=>(nomatch h),_,_,_,rfl,[],fun m _ h=>h,?_⟩;refine⟨a2u (k7z trow l nc A B nn lk ncs nns C D p sn se (k8d (.done .ret))) [.arr 9 n e9],.d (.bool AE),?_,AA _,by simp[k7z,a2u],.inl ⟨rfl,rfl⟩,fun x h=>(nomatch h),rfl,_,rfl⟩;exact .cons (.refl _) (.cons (.refl _) (.cons (.refl _) (.cons (.refl _) (.cons (.refl _) (.cons (.refl _) (.cons (.refl _) (.cons (.refl _) (.nil _))))))))
 have c2:p<nc:=by omega
 have g1:Sg.ieq (AC p) (Sg.ofNat nc)=AE:=j6f hS c1;by_cases c3:A p=vf/\B p=vn
 rotate_left
 ·have hz:=h2 c2 c3;subst hz;have g3:Sg.bnot (Sg.band (Sg.ieq (A p) vf) (Sg.band (Sg.ieq (B p) vn) AF))=AF:=by
   rw[e.bnot,e.band,e.band,e.ieq,e.ieq];by_cases q1:A p=vf
   ·have q2:B p≠vn:=fun h=>c3 ⟨q1,h⟩;rw[q1,beq_false_of_ne q2];simp
   ·rw[beq_false_of_ne q1];rfl
  cbv;refine⟨fun h=>(nomatch h),_,_,_,rfl,?_⟩;cbv;simp only[g1];cbv;refine a1g hS (a5p hS c2) ?_;simp only[en,g3];cbv;refine⟨fun h=>(nomatch h),_,_,_,rfl,[],fun m _ h=>h,?_⟩;refine⟨a2u (k7z trow l nc A B nn lk ncs nns C D p sn se (k8d (.done .ret))) [.arr 9 n e9],.d (.bool AE),?_,AA _,by simp[k7z,a2u],.inl ⟨rfl,rfl⟩,fun x h=>(nomatch h),rfl,_,rfl⟩;exact .cons (.refl _) (.cons (.refl _) (.cons (.refl _) (.cons (.refl _) (.cons (.refl _) (.cons (.refl _) (.cons (.refl _) (.cons (.refl _) (.nil _))))))))
 have h124:=h3 c2 c3.1 c3.2;have g3:Sg.bnot (Sg.band (Sg.ieq (A p) vf) (Sg.band (Sg.ieq (B p) vn) AF))=AE:=by rw[e.bnot,e.band,e.band,e.ieq,e.ieq,c3.1,c3.2];simp
 cbv;refine⟨fun h=>(nomatch h),_,_,_,rfl,?_⟩;cbv;simp only[g1];cbv;refine a1g hS (a5p hS c2) ?_;simp only[en,g3];cbv;refine a1g hS (a5p hS (show p<nn by omega)) ?_;simp only[en];refine a1g hS (e8l hS (AW _)) ?_;refine a0v hS _ h124 ?_;cases z
 ·cbv;refine⟨fun h=>(nomatch h),_,_,_,rfl,[],fun m _ h=>h,?_⟩;refine⟨a2u (k7z trow l nc A B nn lk ncs nns C D p sn se (k8d (.done .ret))) [.frz 9 n e9],.d (.bool AE),?_,AA _,by simp[k7z,a2u],.inl ⟨rfl,rfl⟩,fun x h=>(nomatch h),rfl,_,rfl⟩;exact .cons (.refl _) (.cons (.refl _) (.cons (.refl _) (.cons (.refl _) (.cons (.refl _) (.cons (.refl _) (.cons (.refl _) (.cons (.refl _) (.nil _))))))))
 ·cbv;refine a1g hS (e1n hS (by omega)) ?_;refine⟨fun h=>(nomatch h),_,_,_,rfl,[],fun m _ h=>h,?_⟩;refine⟨a2u (k7z trow l nc A B nn lk ncs nns C D (p+1) sn se (k8d .ready)) [.frz 9 n e9],.d (.bool AF),?_,AA _,by simp[k7z,a2u],.inl ⟨rfl,rfl⟩,fun x h=>(nomatch h),rfl,_,rfl⟩;exact .cons (.refl _) (.cons (.refl _) (.cons (.refl _) (.cons (.var (.cons (b2s hS) .nil)) (.cons (.refl _) (.cons (.refl _) (.cons (.refl _) (.cons (.refl _) (.nil _))))))))
theorem k8b {x0 x1:DV}{tl:List DV}{nl n:Nat}{se:Nat->List DV}(p:PlR)(h0:p.look= -1){r:Bool}(h130:a0j AB AF 130 [.d (.sl 9 n se)] (bool r)):
 a0j AB AE 124 [.dptr (x0::x1:: .int .i64 (.v nl)::tl) 0,p.av,.d (.sl 9 n se)] (bool r):=by
 obtain⟨lk,nc,nn,C,D,h1,h2⟩:=p.avX;have h3:lk= -1:=(PlR.look_of h1).symm.trans h0;subst h3;rw[h1];refine a0k AH okP f0c _ rfl fun E Sg hbs hS=> ?_;have e:=b2k hS;have g1:Sg.ilt (-1) (AC 0)=AF:=by rw[e.ilt];rfl
 cbv;simp only[g1];cbv;refine a0v hS _ h130 ?_;cbv;exact AA _
theorem k8i {x0 x1:DV}{tl:List DV}{nl n:Nat}{se:Nat->List DV}(p:PlR)(h0:(nl:Int)<=p.look):
 a0j AB AE 124 [.dptr (x0::x1:: .int .i64 (.v nl)::tl) 0,p.av,.d (.sl 9 n se)] (bool AE):=by
 obtain⟨lk,nc,nn,C,D,h1,h2⟩:=p.avX;have h3:(nl:Int)<=lk:=by rw[<-PlR.look_of h1];exact h0
 rw[h1];refine a0k AH okP f0c _ rfl fun E Sg hbs hS=> ?_;have e:=b2k hS;have g1:Sg.ilt lk (AC 0)=AE:=by rw[e.ilt];exact decide_eq_false (by show¬lk<0;omega)
 have g2:Sg.ile (AC nl) lk=AF:=by rw[e.ile];exact decide_eq_true h3
 cbv;simp only[g1];cbv;simp only[g2];cbv;exact AA _
theorem k8g {x0 x1:DV}{tl:List DV}{nl:Nat}(hnl:nl<=4)(F:Nat->Nat->VaR)(g:Nat->Bool){l:List Nat}(hl0:l≠[])(hll:l.length<=1000000)(p:PlR)(hnn:p.nn=p.nc)(hnc6:p.nc<=1000000){i:Nat}(h0:p.look=i)(hil:i<nl)
 (hok: ∀q,q∈l->a1i (F q i)/\0<=(F q i).fault) {X:Nat->VaR} (hX: ∀q,F q i=X q) (b:Nat->Bool)
 (hk: ∀j,j<p.nc->j<(cellsOf X l).length->p.c j=(cellsOf X l).getD j ⟨0,0⟩->a0j AB AE 124 [.dptr (x0::x1:: .int .i64 (.v nl)::tl) 0,(p.nx j).av,.d (.sl 9 (j7u X ((cellsOf X l).getD j ⟨0,0⟩) l).length fun t=>spR F g ((j7u X ((cellsOf X l).getD j ⟨0,0⟩) l).getD t 0))] (bool (b j)))
 {r:Bool} (hr:r=AF↔p.nc=(cellsOf X l).length/\(∀j,j<p.nc->p.c j=(cellsOf X l).getD j ⟨0,0⟩)/\ ∀j,j<p.nc->b j=AF):
 a0j AB AE 124 [.dptr (x0::x1:: .int .i64 (.v nl)::tl) 0,p.av,.d (.sl 9 l.length fun j=>spR F g (l.getD j 0))] (bool r):=by
 classical
 obtain⟨NN,hNN⟩:=xA ((cellsOf X l).length);obtain⟨SS,hSS⟩:=xB fun p:Nat=>(cellsOf X l).getD p ⟨0,0⟩;obtain⟨lk,ncs,nns,C,D,hrow,hav,hpav⟩:=p.kids;rw[hpav,h0];obtain⟨nc,hnc⟩:=xA p.nc;obtain⟨pc,hpc⟩:=xA p.c;rw[hnn,hnc] at hav;rw[hnn];simp only[hnc,hpc,hNN,hSS] at hk hr hnc6⊢;obtain⟨kd,hkd⟩:=xB fun j:Nat=>(p.nx j).av;simp only[hkd] at hk hav;clear hpav hnc hnn hrow hkd h0 hpc;obtain⟨A,hA⟩:=xB fun j:Nat=>(pc j).fault;obtain⟨B,hB⟩:=xB fun j:Nat=>(pc j).n;have hvs:vsl nc pc= .d (.sl 2 nc fun j=>[.int .u8 (.v (A j)),.int .i64 (.v (B j))]):=by show AV.d (.sl 2 nc fun j=>[.int .u8 (.v (pc j).fault),.int .i64 (.v (pc j).n)])=_;simp only[hA,hB]
 rw[hvs];have hv: ∀a b:VaR,a.fault=b.fault->a.n=b.n->a=b:=fun a b h1 h2=>by cases a;cases b;simp only at h1 h2;subst h1 h2;rfl
 have hAB: ∀j,(A j=(SS j).fault/\B j=(SS j).n)↔pc j=SS j:=fun j=>by rw[<-hA,<-hB];exact⟨fun h=>hv _ _ h.1 h.2,fun h=>by rw[h];exact⟨rfl,rfl⟩⟩
 obtain⟨zf,hzf⟩: ∃f:Nat->Bool,∀j,f j=AF↔(j<nc/\pc j=SS j)/\b j=AF:=⟨fun j=>decide _,fun j=>decide_eq_true_iff⟩;obtain⟨trow,htr⟩: ∃t:List DV,(x0::x1:: .int .i64 (.v nl)::tl)=t:=⟨_,rfl⟩;rw[htr] at hk;obtain⟨n,hn⟩:=xA l.length;obtain⟨se,hse⟩: ∃f:Nat->List DV,(fun j=>spR F g (l.getD j 0))=f:=⟨_,rfl⟩;have hsl:AV.d (.sl 9 l.length fun j=>spR F g (l.getD j 0))= .d (.sl 9 n se):=by rw[hn,hse]
 rw[hsl];have hNl:NN<=1000000:=by rw[<-hNN];exact AJ (j9v _ _) hll
 refine a0k AH okP f0c _ rfl fun E Sg hbs hS=> ?_;have e:=b2k hS;have g1:Sg.ilt (AC i) (AC 0)=AE:=by rw[e.ilt];exact decide_eq_false (by simp only[AD];omega)
 have g2:Sg.ile (AC nl) (AC i)=AE:=by rw[e.ile];exact decide_eq_false (by simp only[AD];omega)
 cbv;simp only[g1];cbv;simp only[g2];cbv;refine h3v hS (a1h.frame (k2q (.sl 9 n se) .nil i ⟨n,se,rfl⟩) [] rfl rfl trivial) ?_;rintro pg v H' ⟨pg0,v0,h0,⟨rfl,rfl,rfl⟩,rfl,rfl,rfl⟩;cbv;refine i0x hS rfl ?_;have hg:=k3v (k:=7) (y:=6) (a:=4) (b:=5) (by decide) (by decide) (by decide)
  (fun p=>k7z trow i nc A B nc lk ncs nns C D p n se (k8d .ready))
  (fun p=>k7z trow i nc A B nc lk ncs nns C D p n se (k8d (.done .ret)))
  (fun _=>rfl) (fun _=>rfl) (fun _=>rfl) (fun _=>rfl) l hl0 hll i (by omega) F g hok (by rw[hsl];rfl) rfl X hX SS hSS NN hNN zf [] (fun x hx=>by cases hx) ?_
 ·refine a1h.heap (a1h.mono ?_ hg) (.cons (.var (.cons (by rw[<-htr];exact AA _) .nil)) (.cons (.refl _) (.cons (.refl _) (.cons (.var (.cons (a6c rfl) .nil)) (.cons (.refl _) (.cons (.refl _) (.cons (a9v.loop (d2w rfl ⟨AA _,AA _,AA _,AA _,trivial⟩) fun a b h=>h) (.nil _)))))))) rfl;rintro pg v H' ⟨rfl,rfl,hcase⟩;refine⟨fun h=>(nomatch h),?_⟩;rcases hcase with⟨hallz,rfl⟩|⟨p,hp,hz1,hz2,rfl⟩
  ·refine⟨_,_,_,_,rfl,?_⟩;cbv;refine a0s ?_;by_cases hc:NN=nc
   ·refine (j6i hS hc).trans ?_;exact (hr.2 ⟨hc.symm,fun j hj=>((hzf j).1 (hallz j (by omega))).1.2,fun j hj=>((hzf j).1 (hallz j (by omega))).2⟩).symm
   ·refine (j6f hS hc).trans ?_;cases r with
    |false=>rfl
    |true=>exact absurd (hr.1 rfl).1.symm hc
  ·refine⟨_,_,_,_,rfl,?_⟩;cbv;refine a0s ?_;cases r with
   |false=>rfl
   |true=>obtain⟨q1,q2,q3⟩:=hr.1 rfl;have:=(hzf p).2 ⟨⟨by omega,q2 p (by omega)⟩,q3 p (by omega)⟩;rw[this] at hz2;cases hz2
 ·intro q m pe hq hzz hlen hpe;refine k8q trow i nc A B nc lk ncs nns C D q n se m pe (SS q).fault (SS q).n (zf q) hnc6 ?_ (AW _) (fun h=> ?_) (fun h1 h2=> ?_) (fun h1 h2 h3=> ?_)
  ·rcases Nat.eq_zero_or_pos q with h0|h0
   ·omega
   ·have:=((hzf (q-1)).1 (hzz (q-1) (by omega))).1.1;omega
  ·cases hz:zf q with
   |false=>rfl
   |true=>have:=((hzf q).1 hz).1.1;omega
  ·cases hz:zf q with
   |false=>rfl
   |true=>exact absurd ((hAB q).2 ((hzf q).1 hz).1.2) h2
  ·have h4:=(hAB q).1 ⟨h2,h3⟩;have h5:=hk q h1 hq h4;rw[hav q h1] at h5;have h6:zf q=b q:=by
    cases hb:b q with
    |true=>exact (hzf q).2 ⟨⟨h1,h4⟩,hb⟩
    |false=>
     cases hz:zf q with
     |false=>rfl
     |true=>have:=((hzf q).1 hz).2;rw[hb] at this;cases this
   rw[h6];exact h5.like (.cons (AA _) (.cons (AA _) (.cons (AY hlen.symm fun j hj=>hpe j hj) .nil)))
theorem k8l {nl:Nat}(hnl:nl<=4)(x0 x1:DV)(tl:List DV)(F:Nat->Nat->VaR)(g:Nat->Bool){K:PbR}(hK:K.nl=nl)(hKX: ∀i q,K.X i q=F q i)(hKG:K.G=g): ∀(d:Nat),d<=4-> ∀p:PlR,p.ok->p.isP d->PlR.slim d p-> ∀l:List Nat,l≠[]->l.length<=1000000->(∀i,i<nl-> ∀q,q∈l->a1i (F q i)/\0<=(F q i).fault)-> ∀r:Bool,(r=AF↔K.dc d p l)->
 a0j AB AE 124 [.dptr (x0::x1:: .int .i64 (.v nl)::tl) 0,p.av,.d (.sl 9 l.length fun j=>spR F g (l.getD j 0))] (bool r):=by
 classical
 have leaf: ∀l:List Nat,l≠[]->l.length<=1000000-> ∀r:Bool,(r=AF↔k1e K.G l)->a0j AB AF 130 [.d (.sl 9 l.length fun j=>spR F g (l.getD j 0))] (bool r):=fun l hl0 hll r hr=>by
  obtain⟨dd,hdd⟩: ∃dd:Bool,dd=AF↔ ∃i,i<l.length/\g (l.getD i 0)≠g (l.getD 0 0):=⟨decide _,decide_eq_true_iff⟩;have h130:=a1e (k2h (AM.2 hl0) hll (fun j=>spR F g (l.getD j 0)) (fun i k=>(F (l.getD i 0) k).fault) (fun i k=>(F (l.getD i 0) k).n) (fun i=>g (l.getD i 0)) (fun i=>rfl) dd hdd);have:r=!dd:=by
   rw[hKG,k1q] at hr;cases dd with
   |true=>
    obtain⟨i,h1,h2⟩:=hdd.1 rfl;cases r with
    |false=>rfl
    |true=>exact absurd (hr.1 rfl i h1) h2
   |false=>exact hr.2 fun j hj=>AI fun h=>by have:=hdd.2 ⟨j,hj,h⟩;cases this
  rw[this];exact h130
 intro d
 induction d with
 |zero=>intro _ p hp hP hsl l hl0 hll hok r hr;obtain⟨a1,a2,a3,a4,a5⟩:=hP;have h0:p.look= -1:=AI fun h=>absurd (a5 h).1 (AT 0);exact k8b p h0 (leaf l hl0 hll r (hr.trans (PbR.dc_leaf h0)))
 |succ d ih=>
  intro hd p hp hP hsl l hl0 hll hok r hr;obtain⟨a1,a2,a3,a4,a5⟩:=hP;by_cases h0:p.look= -1
  ·exact k8b p h0 (leaf l hl0 hll r (hr.trans (PbR.dc_leaf h0)))
  obtain⟨i,hi⟩: ∃i:Nat,p.look=i:=⟨p.look.toNat,by omega⟩;rw[PbR.dc_node hi,hK] at hr;by_cases hil:i<nl
  rotate_left
  ·have:r=AE:=by cases r with
    |false=>rfl
    |true=>exact absurd (hr.1 rfl).1 hil
   subst this;exact k8i p (by omega)
  obtain⟨_,b2,b3⟩:=a5 h0;obtain⟨_,_,_,_,o5⟩:=p.ok_iff.1 hp;refine k8g hnl F g hl0 hll p a3 (by have:=hsl.1;omega) hi hil (hok i hil) (X:=K.X i) (fun q=>(hKX i q).symm) (fun j=>decide (K.dc d (p.nx j) (K.pt i l j))) (fun j hj hj2 hc=> ?_) ?_
  ·have hne:K.pt i l j≠[]:=j9e (j8e hj2);exact ih (by omega) (p.nx j) (o5 j (by omega)) (b3 j hj).2.2 (hsl.2.2 j (by omega)) _ hne (AJ (AK _ _) hll) (fun i' hi' q hq=>hok i' hi' q (j8c.1 hq).1) _ decide_eq_true_iff
  ·rw[hr];simp only[decide_eq_true_eq];exact⟨fun h=>h.2,fun h=>⟨hil,h⟩⟩
theorem k8j (A B:DiR){ns no nl:Nat}{sz od:Nat->Int}{lk:Nat->DiR}(q:PlR){fe:Int}(h0:fe≠0)(h35:a0j AB AF 35 [q.av] (int fe)):
 a0j AB AF 89 [q.av,isl ns sz,isl no od,dsl nl lk,A.av,B.av] (bool AE):=by
 obtain⟨ins,isz,ino,iod,ine,ien,inn,ivar,ink,ikid,iroot⟩:=A;obtain⟨gns,gsz,gno,god,gne,gen,gnn,gvar,gnk,gkid,groot⟩:=B;obtain⟨l',nc,nn,C,D,h1,_⟩:=q.avX;rw[h1] at h35⊢;clear h1;refine a1e (a0k AH okP g7c _ rfl fun E Sg hbs hS=> ?_);have e:=b2k hS;have g0:Sg.bnot (Sg.ieq fe (AC 0))=AF:=by rw[e.ieq,e.bnot,beq_false_of_ne (show fe≠AC 0 from h0)];rfl
 cbv;refine a0v hS _ h35 ?_;cbv;simp only[g0];cbv;exact AA _
theorem k8s (A B:DiR){ns no nl:Nat}{sz od:Nat->Int}{lk:Nat->DiR}(q:PlR){x0 x1 x2 x3:DV}{n:Nat}{e4:Nat->List DV}{r:Bool}(h35:a0j AB AF 35 [q.av] (int 0))(h108:a0j AB AE 108 [isl ns sz,isl no od,dsl nl lk,A.av,B.av] (.tuple [.dptr [x0,x1,x2,x3,.sl 9 n e4] 0,int 0]))
 (h124:a0j AB AE 124 [.dptr [x0,x1,x2,x3,.sl 9 n e4] 0,q.av,.d (.sl 9 n e4)] (bool r)):
 a0j AB AF 89 [q.av,isl ns sz,isl no od,dsl nl lk,A.av,B.av] (bool r):=by
 obtain⟨ins,isz,ino,iod,ine,ien,inn,ivar,ink,ikid,iroot⟩:=A;obtain⟨gns,gsz,gno,god,gne,gen,gnn,gvar,gnk,gkid,groot⟩:=B;obtain⟨l',nc,nn,C,D,h1,_⟩:=q.avX;rw[h1] at h35 h124⊢;clear h1;refine a1e (a0k AH okP g7c _ rfl fun E Sg hbs hS=> ?_);have e:=b2k hS;cbv;refine a0v hS _ h35 ?_;cbv;simp only[e.ieq,e.bnot];cbv;refine a0v hS _ h108 ?_;cbv;simp only[e.ieq,e.bnot];cbv;refine a0v hS _ h124 ?_;cbv;exact AA _
theorem k8n (c:CaR)(hns:c.ns<=8)(hno:c.no<=8)(hnl:c.nl<=6)(hl: ∀i,i<c.nl->(c.lk i).fit)(hi:c.inn.fit)(hg:c.goal.fit)(p q:PlR)(h36:a0j AB AE 36 [p.av] q.av){r:Bool}(h89:a0j AB AF 89 [q.av,isl c.ns c.sz,isl c.no c.od,dsl c.nl c.lk,c.inn.av,c.goal.av] (bool r)):
 a0j AB AF 47 [c.av,p.av] (bool r):=by
 have q1:=h7c (n:=c.ns) (by omega) c.sz;have q2:=h7c (n:=c.no) (by omega) c.od;have q3:=h9z c.nl (by omega) c.lk hl;have q4:=h8i c.inn hi;have q5:=h8i c.goal hg;obtain⟨l',nc,nn,C,D,h1,_⟩:=p.avX;rw[h1] at h36⊢;clear h1;obtain⟨l2,nc2,nn2,C2,D2,h1,_⟩:=q.avX;rw[h1] at h36 h89;clear h1;obtain⟨ns,sz,no,od,nl,lk,⟨ins,isz,ino,iod,ine,ien,inn,ivar,ink,ikid,iroot⟩,⟨gns,gsz,gno,god,gne,gen,gnn,gvar,gnk,gkid,groot⟩⟩:=c;simp only[CaR.av,DiR.cs,AQ,AR] at*
 refine a1e (a0k AH okP g9f _ rfl fun E Sg hbs hS=> ?_);have e:=b2k hS;cbv
 repeat' (first|(refine a0v hS _ h36 ?_;cbv)|(refine a0v hS _ q1 ?_;cbv)|(refine a0v hS _ q2 ?_;cbv)|(refine a0v hS _ q3 ?_;cbv)|(refine a0v hS _ q4 ?_;cbv)|(refine a0v hS _ q5 ?_;cbv)|(refine a0v hS _ h89 ?_;cbv)|refine a1g hS (c3d hS) ?_)
 exact AA _
theorem CaR.ok.prove {c:CaR}{T:Nat}(h:c.ok T)(hT:T<=36)(hpos:0<(c.P T).length)
 (h108:a0j AB AE 108 [isl c.ns c.sz,isl c.no c.od,dsl c.nl c.lk,c.inn.av,c.goal.av] (.tuple [.dptr (i0q c.ns c.sz c.no c.od c.nl (c.P T).length (fun j=>(c.W T j:Int)) c.X c.G) 0,int 0])) (p:PlR) (hp:p.ok) (hcnt:AP 6 p<300) {r:Bool} (hr:r=AF↔p.isP 4/\c.K.dc 4 p (c.P T)):
 a0j AB AF 47 [c.av,p.av] (bool r):=by
 classical
 have hf:=h.fit;have hl: ∀i,i<c.nl->(c.lk i).fit:=fun i hi=>by have:=hf.dg i (by omega);rwa [c.dg_lk hi] at this
 have hi:c.inn.fit:=by have:=hf.dg c.nl (by omega);rwa [c.dg_in] at this
 have hg:c.goal.fit:=by have:=hf.dg (c.nl+1) (by omega);rwa [c.dg_goal] at this
 obtain⟨z24,hz24⟩: ∃z:Bool,z=AF↔p.isP 4:=⟨decide _,decide_eq_true_iff⟩;have h35:=e0r p hp hcnt z24 hz24;have h36:=d1z p hcnt;have hlen:(c.P T).length<=T:=h8g _ T;have hne:c.P T≠[]:=AM.1 hpos;have hmem: ∀p,p∈c.P T->p<T:=fun p hp=>((i0h _ T _).1 hp).1;refine k8n c hf.ns hf.no hf.nl hl hi hg p (AU 6 p) h36 ?_;cases z24 with
 |false=>
  have:r=AE:=by cases r with
   |false=>rfl
   |true=>have:=hz24.2 (hr.1 rfl).1;cases this
  subst this;exact k8j _ _ _ (by decide) h35
 |true=>
  have hP:p.isP 4:=hz24.1 rfl;have hr2:r=AF↔c.K.dc 4 p (c.P T):=hr.trans ⟨fun h=>h.2,fun h=>⟨hP,h⟩⟩;have hq:(AU 6 p).isP 4:=(PlR.isP_cut 4 6 p (by omega)).2 hP;have h124:=k8l h.nl (.sl 1 c.ns fun i=>[.int .i64 (.v (c.sz i))]) (.sl 1 c.no fun i=>[.int .i64 (.v (c.od i))]) [.sl 1 (c.P T).length fun j=>[.int .i64 (.v (c.W T j:Int))],.sl 9 (c.P T).length fun j=>spR c.F c.G ((c.P T).getD j 0)] c.F c.G (K:=c.Kp fun _=>AE) rfl (fun _ _=>rfl) rfl 4 (by omega) (AU 6 p) (PlR.ok_cut 6 p hp) hq (PlR.slim_cut 6 p hcnt 4) (c.P T) hne (by omega) (fun i hi q hq=>by
   show a1i (cel c.nl c.X i q)/\0<=(cel c.nl c.X i q).fault;unfold cel;rw[if_pos hi];exact h.cell (by omega) (hmem q hq)) r (hr2.trans (((c.K_same _).dc).trans (PbR.dc_cut 4 6 p _ (by omega)).symm))
  exact k8s _ _ _ h35 h108 h124
theorem PbR.tr_ok (K:PbR)(h4:K.nl<=4): ∀(lv:Nat) (l:List Nat) (m:Nat) (f:Nat->Int),l.length<=1000000->(∀i,i<K.nl-> ∀p,p∈l->a1i (K.X i p)/\0<=(K.X i p).fault)->(K.tr lv l m f).ok:=by
 intro lv
 induction lv with
 |zero=>intro l m f _ _;exact k3f
 |succ lv ih=>
  intro l m f hl hok;by_cases h:k1e K.G l\/m=0\/K.nl=0
  ·rw[PbR.tr_leaf (by rcases h with h|h;exact .inl h;exact .inr (.inr h))];exact k3f
  rw[PbR.tr,if_neg h];have hi:(f 0).toNat % K.nl<K.nl:=AS _ (AO fun h'=>h (.inr (.inr h')));generalize (f 0).toNat % K.nl=i at hi⊢;have hcl:(cellsOf (K.X i) l).length<=1000000:=AJ (j9v _ _) hl;refine⟨⟨by omega,by omega⟩,by omega,by omega,fun j hj=> ?_,fun j hj=> ?_⟩
  ·obtain⟨p,hp,hx⟩:=j7x.1 (j8e (show j<(cellsOf (K.X i) l).length from hj));show (0<=((cellsOf (K.X i) l).getD j ⟨0,0⟩).fault/\((cellsOf (K.X i) l).getD j ⟨0,0⟩).fault<=255)/\c5t ((cellsOf (K.X i) l).getD j ⟨0,0⟩).n;rw[<-hx];obtain⟨g1,g2⟩:=hok i hi p hp;exact g1.bd g2
  ·show PlR.ok (if j<(cellsOf (K.X i) l).length then _ else .none);rw[if_pos hj];exact ih _ _ _ (AJ (AK _ _) hl) fun i' hi' p hp=>hok i' hi' p (j8c.1 hp).1
theorem k9h (c:CaR)(m:Nat)(f:Nat->Int)(z:Bool)(h48:a0j AB AF 48 [c.av] (bool z))(h:z=AE\/12<m):a0j AB AF 10 [c.av,wrA m f] (bool AF):=by
 have haw:=c4a;unfold wrA;obtain⟨ns,sz,no,od,nl,lk,⟨ins,isz,ino,iod,ine,ien,inn,ivar,ink,ikid,iroot⟩,⟨gns,gsz,gno,god,gne,gen,gnn,gvar,gnk,gkid,groot⟩⟩:=c;simp only[CaR.av,DiR.cs,AQ,AR] at*
 refine a1e (a0k AH okP k9w _ rfl fun E Sg hbs hS=> ?_);have e:=b2k hS;cbv;refine a0v hS _ h48 ?_;cases z
 ·cbv;refine a0v hS _ haw ?_;cbv;exact AA _
 have h12:12<m:=by simpa using h
 have g1:Sg.ilt (AC 12) (Sg.ofNat m)=AF:=by rw[e.ilt,e.ofNat];exact decide_eq_true (by simp only[AD];omega)
 cbv;simp only[g1];cbv;refine a0v hS _ haw ?_;cbv;exact AA _
theorem k9i (c:CaR){m:Nat}(hm:m<=12)(f:Nat->Int){nl n T:Nat}{W:Nat->Int}{X:Nat->Nat->VaR}{G:Nat->Bool}{p q:PlR}{pr:Bool}(h48:a0j AB AF 48 [c.av] (bool AF))(h29:a0j AB AE 29 [c.av] (.tuple [isl n W,.agg (knC nl T X G)]))
 (h49:a0j AB AE 49 [.agg (knC nl T X G),isl n W,wrA m f,int 4] p.av) (h47:a0j AB AF 47 [c.av,p.av] (bool pr)) {r:PlR} {d dp:Nat} (hpr:pr=AF->a0j AB AE 20 [c.av] (.tuple [r.av,int d,int 0])/\a0j AB AE 36 [p.av] q.av/\a0j AB AF 37 [q.av] (.tuple [int dp,int 0])/\d<=dp/\(dp=d->r.look<=p.look)):
 a0j AB AF 10 [c.av,wrA m f] (bool AF):=by
 have haw:=c4a;obtain⟨lk',nc,nn,C,D,h1,_⟩:=p.avX;have hp:=PlR.look_of h1;rw[h1] at h49 h47 hpr;clear h1;obtain⟨lk2,nc2,nn2,C2,D2,h1,_⟩:=q.avX;rw[h1] at hpr;clear h1;obtain⟨lk3,nc3,nn3,C3,D3,h1,_⟩:=r.avX;have hr:=PlR.look_of h1;rw[h1] at hpr;clear h1;rw[hp,hr] at hpr;unfold wrA at*
 obtain⟨ns,sz,no,od,nl',lk,⟨ins,isz,ino,iod,ine,ien,inn,ivar,ink,ikid,iroot⟩,⟨gns,gsz,gno,god,gne,gen,gnn,gvar,gnk,gkid,groot⟩⟩:=c;simp only[CaR.av,DiR.cs,AQ,AR,knC] at*
 refine a1e (a0k AH okP k9w _ rfl fun E Sg hbs hS=> ?_);have e:=b2k hS;have g1:Sg.ilt (AC 12) (Sg.ofNat m)=AE:=by rw[e.ilt,e.ofNat];exact decide_eq_false (by simp only[AD];omega)
 cbv;refine a0v hS _ h48 ?_;cbv;simp only[g1];cbv;refine a0v hS _ h29 ?_;cbv;refine a0v hS _ h49 ?_;cbv;refine a0v hS _ h47 ?_;cases pr
 ·cbv;refine a0v hS _ haw ?_;cbv;exact AA _
 obtain⟨h20,h36,h37,hge,heq⟩:=hpr rfl;obtain⟨q1,hq1⟩: ∃b:Bool,decide (d<dp)=b:=⟨_,rfl⟩;have g2:Sg.ilt (AC d) (AC dp)=q1:=by rw[e.ilt,<-hq1];exact decide_eq_decide.2 ⟨fun h=>Ad.1 h,fun h=>Ad.2 h⟩
 cbv;refine a0v hS _ h20 ?_;cbv;refine a0v hS _ h36 ?_;cbv;refine a0v hS _ h37 ?_;cbv;simp only[e.ieq,BEq.rfl];cbv;simp only[e.ieq,BEq.rfl];cbv;simp only[g2];cases q1
 rotate_left
 ·cbv;refine a0v hS _ haw ?_;cbv;exact AA _
 have hd:dp=d:=by have:=of_decide_eq_false hq1;omega
 subst hd;have g3:Sg.ile lk3 lk'=AF:=by rw[e.ile];exact decide_eq_true (heq rfl)
 cbv;simp only[e.ieq,BEq.rfl];cbv;simp only[g3];cbv;refine a0v hS _ haw ?_;cbv;exact AA _
theorem k9j (c:CaR)(hw:c.wf)(m:Nat)(f:Nat->Int)(hf0: ∀j,j<m->0<=f j/\f j<=65535):a0j AB AF 10 [c.av,wrA m f] (bool AF):=by
 classical
 by_cases ht:h6v c
 rotate_left
 ·exact k9h c m f AE (k6u c (i3u c AE (by simp[ht]))) (.inl rfl)
 have h18:=i3u c AF (by simp[ht]);have hf:=ht.fit hw;have hl: ∀i,i<c.nl->(c.lk i).fit:=fun i hi=>by have:=hf.dg i (by omega);rwa [c.dg_lk hi] at this
 have hi:c.inn.fit:=by have:=hf.dg c.nl (by omega);rwa [c.dg_in] at this
 have hg:c.goal.fit:=by have:=hf.dg (c.nl+1) (by omega);rwa [c.dg_goal] at this
 rcases i1x c ht hw with⟨er,h0,⟨k1,k2,h21⟩,h108⟩|⟨T,h,hT,hpos,h21,h108⟩
 ·exact k9h c m f AE (k6t c h18 h21 (z:=AE) (beq_false_of_ne h0).symm) (.inl rfl)
 have h48:=k6t c h18 h21 (z:=AF) rfl;by_cases hm:12<m
 ·exact k9h c m f AF h48 (.inr hm)
 have hlen:(c.P T).length<=T:=h8g _ T;have hne:c.P T≠[]:=AM.1 hpos;have hmem: ∀p,p∈c.P T->p<T:=fun p hp=>((i0h _ T _).1 hp).1;have hcell: ∀i,i<c.nl-> ∀p,p∈c.P T->a1i (c.X i p)/\0<=(c.X i p).fault:=fun i hi p hp=>h.cell (by omega) (hmem p hp);have h49:=k9o (K:=c.K) h.nl (show T<=1000000 by omega) (X:=c.X) (G:=c.G) rfl (fun _=>rfl) rfl 4 (by omega) (c.P T) hne (by omega) hmem m f (by omega) hf0;have hpok:=PbR.tr_ok c.K h.nl 4 (c.P T) m f (by omega) hcell;have hcnt:=PbR.tr_cnt c.K 4 6 (c.P T) m f;generalize c.K.tr 4 (c.P T) m f=p at h49 hpok hcnt;have hcnt:AP 6 p<300:=by have:2*4*(c.P T).length<=8*36:=Nat.mul_le_mul (by omega) (by omega);omega
 obtain⟨pr,hpr⟩: ∃r:Bool,r=AF↔p.isP 4/\c.K.dc 4 p (c.P T):=⟨decide _,decide_eq_true_iff⟩;have h47:=h.prove hT hpos h108 p hpok hcnt hpr;obtain⟨z,d,r,hb⟩:=h.bst hT hpos h108;refine k9i c (by omega) f h48 (h.places hT) h49 h47 (q:=AU 6 p) (r:=r) (d:=d) (dp:=AG 5 p) (fun e=> ?_);obtain⟨hP,hdc⟩:=hpr.1 e;have hcan:=PbR.dc_can (K:=c.K) (fun _ _=>rfl) hP hdc;have hz:z=AF:=by
  cases z with
  |true=>rfl
  |false=>exact absurd hcan ((hb.res.2 rfl).2.2 _)
 subst hz;obtain⟨g1,g2⟩:=hb.res.1 rfl;obtain⟨b1,b2⟩:=PbR.dc_better (K:=c.K) (fun _ _=>rfl) hP hdc g1;refine⟨k3m c hf.ns hf.no hf.nl hl hi hg hb.h73,d1z p hcnt,?_,b1,fun h=>by rw[g2];exact b2 h⟩;exact c8q p hpok hcnt AF ⟨fun _=>hP,fun _=>rfl⟩ _ rfl
end Go.Proofs.Tryz.Run
