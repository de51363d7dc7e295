/- LookNone answers true. Conditions: none. -/
import Derived.Test.YtbglklaocjifhaaGreatEJr
open List renaming getD_eq_getElem?_getD->AA,getElem?_eq_getElem->AB,getElem_of_mem->AF
open Nat renaming lt_trans->AC
open Classical renaming byContradiction->AD
open Bool renaming true->AE,false->AG
set_option linter.unusedSimpArgs false
set_option linter.unusedVariables false
namespace Go.Proofs.Tryz.Run
open Go Go.Vf Go.Proofs
open Go.Proofs.YtbglklaocjifhaaGreat
theorem PbR.bt_look {K:PbR}: ∀{d:Nat} {l:List Nat},K.mind d l->((K.bt d l).look= -1↔d=0)
 |0,l,_=>⟨fun _=>rfl,fun _=>rfl⟩
 |n+1,l,hm=>by
  obtain⟨f1,f2,f3⟩:=hm.fst;rw[f3];exact⟨fun h=>by
   have h':((j9f (K.sp n l) K.nl:Nat):Int)= -1:=h;omega,fun h=>by omega⟩
theorem CaR.W_lt2 {c:CaR}{T i j:Nat}(hij:i<j)(hj:j<(c.P T).length):c.W T i<c.W T j:=by have h:=List.pairwise_iff_getElem.1 (k6n (c.X c.nl) T) i j (AC hij hj) hj hij;unfold CaR.W;rw[AA,AA,AB hj,AB (AC hij hj)];exact h
theorem k6s (c:CaR)(hw:c.wf):a0j Tryz.prog AE 16 [c.av] (bool AE):=by
 classical
 by_cases ht:h6v c
 rotate_left
 ·exact k6o c (k6u c (i3u c AG (by simp[ht])))
 have h18:=i3u c AE (by simp[ht]);have hf:=ht.fit hw;have hl: ∀i,i<c.nl->(c.lk i).fit:=fun i hi=>by have:=hf.dg i (by omega);rwa [c.dg_lk hi] at this
 have hi:c.inn.fit:=by have:=hf.dg c.nl (by omega);rwa [c.dg_in] at this
 have hg:c.goal.fit:=by have:=hf.dg (c.nl+1) (by omega);rwa [c.dg_goal] at this
 rcases i1x c ht hw with⟨er,h0,⟨k1,k2,h21⟩,h108⟩|⟨T,h,hT,h1,h21,h108⟩
 ·exact k6o c (k6t c h18 h21 (z:=AG) (beq_false_of_ne h0).symm)
 have h48:=k6t c h18 h21 (z:=AE) rfl;have hne:c.P T≠[]:=List.length_pos_iff.1 h1;obtain⟨k1,k2,k3,k4,_⟩:=h4s h.fr;have hlen:(c.P T).length<=T:=h8g _ T;have hpl: ∀p,p<T->i2j c.sz (h5j c.sz c.ns p) c.ns/\h4w c.sz (h5j c.sz c.ns p) c.ns=p:=fun p hp=>h5s (fun j hj=>(k2 j hj).1) p (by rw[<-h.hT];exact Int.ofNat_lt.2 hp);obtain⟨dd,hdd⟩: ∃dd:Bool,dd=AE↔ ∃i,i<(c.P T).length/\c.G ((c.P T).getD i 0)≠c.G ((c.P T).getD 0 0):=⟨decide _,decide_eq_true_iff⟩;have hdec:(!dd)=AE↔k1e c.G (c.P T):=by
  rw[k1q];constructor
  ·intro h j hj;cases he:(c.G ((c.P T).getD j 0)==c.G ((c.P T).getD 0 0)) with
   |true=>simpa using he
   |false=>have:=hdd.2 ⟨j,hj,by simpa using he⟩;rw[this] at h;cases h
  ·intro h;cases hd:dd with
   |false=>rfl
   |true=>obtain⟨i,h1,h2⟩:=hdd.1 hd;exact absurd (h i h1) h2
 have h130:=a1e (k2h h1 (by omega) (fun j=>spR c.F c.G ((c.P T).getD j 0)) (fun i k=>(c.F ((c.P T).getD i 0) k).fault) (fun i k=>(c.F ((c.P T).getD i 0) k).n) (fun i=>c.G ((c.P T).getD i 0)) (fun i=>rfl) dd hdd);have h57:=k5o c hf.ns hf.no hf.nl hl hi hg (k5y _ _ h108 h130);obtain⟨a,ha⟩: ∃a:Nat->Nat->Bool,∀i j,a i j=AE↔(∀k,k<c.nl->c.X k (c.W T i)=c.X k (c.W T j))/\c.G (c.W T i)≠c.G (c.W T j):=⟨fun i j=>decide _,fun i j=>decide_eq_true_iff⟩;have ha4: ∀i j,a i j=AE↔(∀k,k<4->cel c.nl c.X k (c.W T i)=cel c.nl c.X k (c.W T j))/\c.G (c.W T i)≠c.G (c.W T j):=fun i j=>by
  rw[ha];refine and_congr_left fun _=>⟨fun h1 k hk=> ?_,fun h1 k hk=> ?_⟩
  ·unfold cel;by_cases h2:k<c.nl
   ·rw[if_pos h2,if_pos h2];exact h1 k h2
   ·rw[if_neg h2,if_neg h2]
  ·have:=h1 k (by have:=h.nl;omega);unfold cel at this
   rwa [if_pos hk,if_pos hk] at this
 have h112: ∀j,j<(c.P T).length->a0j Tryz.prog AG 112 [.agg [isl c.ns c.sz,isl c.no c.od],int (c.W T j)] (isl c.ns (h5j c.sz c.ns (c.W T j))):=fun j hj=>
  i2t (by omega) c.sz c.od _ k2 k3 (hpl _ (CaR.W_lt hj)).1 _ (hpl _ (CaR.W_lt hj)).2
 obtain⟨z,d,r,hb⟩:=h.best_ex hT h1 h108;have h20:=k3m c hf.ns hf.no hf.nl hl hi hg hb.h73;have h29:=h.places hT;rcases i4u (c.P T).length a with hno|⟨x,y,hxy⟩
 ·have h81:=i0g c.inn c.goal (by omega) h108 (fun p=>h5j c.sz c.ns p) h112 a ha4 _ (.inl ⟨hno,rfl⟩);have h31:=h8l c hf.ns hf.no hf.nl hl hi hg h81;have hz:z=AE:=by
   cases z with
   |true=>rfl
   |false=>
    exfalso;refine (hb.res.2 rfl).2.2 c.nl (PbR.can_all c.K c.nl (c.P T) (Nat.le_refl _) (fun _ _=>rfl) fun p hp q hq he=> ?_);obtain⟨i,hi',rfl⟩:=AF hp;obtain⟨j,hj',rfl⟩:=AF hq;have wi:c.W T i=(c.P T)[i]:=by unfold CaR.W;rw[AA,AB hi'];rfl
    have wj:c.W T j=(c.P T)[j]:=by unfold CaR.W;rw[AA,AB hj'];rfl
    rw[<-wi,<-wj] at he⊢;show c.G (c.W T i)=c.G (c.W T j);have he': ∀k,k<c.nl->c.X k (c.W T i)=c.X k (c.W T j):=he;rcases Nat.lt_trichotomy i j with h5|h5|h5
    ·exact AD fun h6=>by have:=hno i j h5 hj';rw[(ha i j).2 ⟨he',h6⟩] at this;cases this
    ·rw[h5]
    ·exact AD fun h6=>by have:=hno j i h5 hi';rw[(ha j i).2 ⟨fun k hk=>(he' k hk).symm,fun h7=>h6 h7.symm⟩] at this;cases this
  subst hz;obtain⟨g1,g2⟩:=hb.res.1 rfl;have hd0:(!dd)=AE↔d=0:=by
   rw[hdec];exact⟨fun hh=>by
    rcases Nat.eq_zero_or_pos d with h5|h5
    ·exact h5
    ·exact absurd hh (g1.2 0 h5),fun hh=>by subst hh;exact g1.1⟩
  exact k6p c (PbR.res_le hb.res) hd0 (hd0.trans (by rw[g2];exact (PbR.bt_look g1).symm)) h48 h29 h20 h31 h57
 ·have h81:=i0g c.inn c.goal (by omega) h108 (fun p=>h5j c.sz c.ns p) h112 a ha4 _ (.inr ⟨x,y,hxy,rfl⟩);have h31:=h8l c hf.ns hf.no hf.nl hl hi hg h81;have hz:z=AG:=by
   cases z with
   |false=>rfl
   |true=>exfalso;obtain⟨g1,_⟩:=hb.res.1 rfl;obtain⟨e1,e2⟩:=(ha x y).1 hxy.1.2.2;exact e2 (PbR.can_alike (K:=c.K) g1.1 _ (j9r (show x<(c.P T).length from AC hxy.1.1 hxy.1.2.1)) _ (j9r (show y<(c.P T).length from hxy.1.2.1)) e1)
  subst hz;obtain⟨_,h2,_⟩:=hb.res.2 rfl;have hdd0:(!dd)=AG:=by
   cases hq:(!dd) with
   |false=>rfl
   |true=>exact absurd (PbR.can_dec (K:=c.K) (hdec.1 hq) 0) ((hb.res.2 rfl).2.2 0)
  rw[hdd0] at h57;obtain⟨hd0,hr,_⟩:=hb.res.2 rfl;subst hd0 hr;obtain⟨e1,e2⟩:=(ha x y).1 hxy.1.2.2;have hx:x<(c.P T).length:=AC hxy.1.1 hxy.1.2.1;have hy:=hxy.1.2.1;have hsz: ∀i,i<c.ns->1<=c.sz i/\c.sz i<=12:=k2;have num: ∀p,p<T->a0j Tryz.prog AE 45 [isl c.ns c.sz,isl c.ns (h5j c.sz c.ns p)] (int p):=fun p hp=>by refine j4x (by omega) c.sz _ hsz (by rw[<-h.hT];omega) (fun i hi=>(hpl p hp).1 i hi) _ ?_;rw[j4y];exact (hpl p hp).2
  have plc43: ∀p,p<T->a0j Tryz.prog AE 43 [isl c.ns c.sz,isl c.ns (h5j c.sz c.ns p)] (bool AE):=fun p hp=>
   j5n (by omega) (fun i hi=>⟨(hsz i hi).1,by have:=(hsz i hi).2;omega⟩) AE ⟨fun _=>⟨rfl,fun i hi=>(hpl p hp).1 i hi⟩,fun _=>rfl⟩
  exact k6q c hf.nl (T:=T) (by omega) (CaR.W_lt2 hxy.1.1 hy) (CaR.W_lt hy) e1 e2 ((i0h _ T _).1 (j9r hx)).2 ((i0h _ T _).1 (j9r hy)).2 h48 h29 h20 h31 h57
   (plc43 _ (CaR.W_lt hx)) (plc43 _ (CaR.W_lt hy)) (num _ (CaR.W_lt hx)) (num _ (CaR.W_lt hy)) (by have:=h.list c.nl (by omega);rwa [c.dg_in] at this)
end Go.Proofs.Tryz.Run
