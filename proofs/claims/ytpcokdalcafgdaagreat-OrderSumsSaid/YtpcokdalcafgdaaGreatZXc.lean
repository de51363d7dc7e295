/- OrderSums answers true: the walk. Conditions: none. -/
import Derived.Test.YtpcokdalcafgdaaGreatZXb
set_option linter.unusedSimpArgs false
set_option linter.unusedVariables false
namespace Go.Proofs.Tryz.Run
open Go Go.Vf Go.Proofs
open Go.Proofs.YtpcokdalcafgdaaGreat
theorem FamOk.one {n:Nat}{l:Nat→DiR}(h:FamOk n l){i:Nat}(hi:i<n):FamOk 1 (fun _=>l i):=
 ⟨by omega,fun _ _=>h.fit i hi,fun _ _=>h.flt i hi,fun _ _=>h.di i hi,fun _ _=>⟨rfl,rfl⟩⟩
def twice (n:Nat)(l:Nat→DiR)(i:Nat):DiR:=if i<n then l i else l 0
theorem FamOk.two {n:Nat}{l:Nat→DiR}(h:FamOk n l)(hn:n<8):FamOk (n+1) (twice n l):=by
 have h0:=h.pos.1
 have key: ∀i,∃j,j<n∧twice n l i=l j:=fun i=>by
  unfold twice
  by_cases hi:i<n
  ·exact⟨i,hi,by rw[if_pos hi]⟩
  ·exact⟨0,h0,by rw[if_neg hi]⟩
 have k0:twice n l 0=l 0:=by unfold twice;rw[if_pos h0]
 refine⟨by omega,fun i hi=> ?_,fun i hi=> ?_,fun i hi=> ?_,fun i hi=> ?_⟩
 all_goals obtain⟨j,hj,e⟩:=key i
 all_goals first|rw[k0,e]|rw[e]
 ·exact h.fit j hj
 ·exact h.flt j hj
 ·exact h.di j hj
 ·exact h.fr j hj
theorem lk_app {P:Program}{A:Ann}{ro:Option Nat}{E:Ent}{Sg:Sig}(hS:Sg=std P A ro E){sz n:Nat}{e e2 e':Nat→List DV}(h1: ∀j,j<n→RL (e j) (e' j))(h2:RL (e2 0) (e' n)):Like (.d (.sl sz (Sg.nadd n 1) (Sg.app n e e2))) (.d (.sl sz (n+1) e')):=by
 refine Like.slr (by rw[(stdE hS).nadd]) fun j hj=> ?_
 rw[(stdE hS).nadd] at hj
 rw[(stdE hS).app]
 by_cases h:j<n
 ·rw[if_pos h];exact h1 j h
 ·obtain rfl:j=n:=by omega
  rw[if_neg h,Nat.sub_self];exact h2
set_option maxHeartbeats 16000000 in
set_option maxRecDepth 100000 in
theorem orderSums7 (n:Nat)(l:Nat→DiR)(hw: ∀i,i<n→(l i).wf):PureF Tryz.prog true 7 [dsl n l] (bool true):=by
 have haw:=awake_true
 by_cases ht:thins n l∧famErr n l 0
 rotate_left
 ·have h34:=ready34 n l hw false (by simp only[ht,Bool.false_eq_true])
  refine pure_bool (pureF_of_fn Tryz.mixed okP ok7r _ rfl fun E Sg hb hS=> ?_)
  cbv
  refine callb_i hS _ h34 ?_
  cbv
  refine callb_i hS _ haw ?_
  cbv
  exact Like.refl _
 have h34:=ready34 n l hw true (by simp only[ht,and_self])
 have hn4:=ht.1.1
 have hF:=FamOk.mk' (n:=n) (l:=l) (by omega) (fun i hi=>(ht.1.2 i hi).1.fit (hw i hi)) (fun i hi=>(hw i hi).2.2) ht.2
 have hF2:=hF.two (by omega)
 have h19:=copy19 n (by omega) l hF.fit
 have h19r:=copy19r n (by omega) l hF.fit
 have h19o:=fun i hi=>copy19 1 (by omega) (fun _=>l i) (hF.one hi).fit
 have h35:=copy35 (l 0).sz (l 0).od (fun j=>((l 0).en j).row) (l 0).var (l 0).nk (l 0).kid (l 0).root (hF.fit 0 hF.pos.1).ns (hF.fit 0 hF.pos.1).no (hF.fit 0 hF.pos.1).ne (hF.fit 0 hF.pos.1).nn (hF.fit 0 hF.pos.1).nk
 obtain⟨w,hwv⟩: ∃w:Nat→Int,∀j,j<(l 0).ns→w j=cnt (famW l n).on j:=⟨_,fun j _=>rfl⟩
 obtain⟨q1,q2⟩:=hF.costs w hwv
 obtain⟨q3,_⟩:=hF2.costs _ fun j _=>rfl
 have q4: ∀i,i<n→PureF Tryz.prog true 18 [dsl 1 fun _=>l i] (.tuple [int ((l i).nn:Nat),int 0]):=fun i hi=>by
  have h:=((hF.one hi).costs _ fun j _=>rfl).1
  rw[cost_one (hF.di i hi) (hF.fit i hi)] at h
  exact h
 have ec:(famW (twice n l) (n+1)).on=(famW l n).on:=cost_again hF.pos.1 (hF.di 0 hF.pos.1) (fun i hi=>if_pos hi) (by unfold twice;rw[if_neg (by omega)])
 rw[ec] at q3
 have hsum:sumTo w (l 0).ns=(famW l n).on.length:=by rw[←hF.cost];exact sumTo_congr hwv
 have hle:=cost_le (l:=l) (n:=n) (fun i hi j hj=>((hF.good i hi).nk j hj).2) n (Nat.le_refl _)
 have hge: ∀i,i<n→(l i).nn≤(famW l n).on.length:=fun i hi=>cost_ge hi (hF.di i hi)
 have hlen:=hF.len
 have hwb: ∀j,j<(l 0).ns→0≤w j∧w j≤1000000000:=fun j hj=>by rw[hwv j hj];have:=cnt_le (famW l n).on j;omega
 have hbd:=sumTo_bd hwb
 have hp:=hF.pos.1
 have hns:(l 0).ns≤6:=(frErr_ok (hF.di 0 hp).fr).1
 obtain⟨Q,hQ⟩: ∃Q:Nat,(famW l n).on.length=Q:=⟨_,rfl⟩
 rw[hQ] at q1 q3 hsum hle hge hlen
 obtain⟨m,hm⟩: ∃m:Nat,(l 0).ns=m:=⟨_,rfl⟩
 rw[hm] at q2 hsum hwb hbd hns
 refine pure_bool (pureF_of_fn Tryz.mixed okP ok7r _ rfl fun E Sg hb hS=> ?_)
 have e:=stdE hS
 cbv
 refine callb_i hS _ h34 ?_
 cbv
 refine callb_i hS _ h19 ?_
 cbv
 refine callb_i hS _ q1 ?_
 cbv
 refine callb_i hS _ h19 ?_
 cbv
 refine callb_i hS _ q2 ?_
 cbv
 refine req_i hS (i_inbN hS hp) ?_
 refine call_c hS h19r ?_
 rintro pg v H' ⟨rfl,rfl,rfl⟩
 cbv
 have hn0:nat Sg (IX.l (Int.ofNat 0))=0:=rfl
 simp only[hn0]
 refine req_i hS (i_same hS) ?_
 refine callb_i hS _ h35 ?_
 cbv
 refine req_i hS trivial (req_i hS (i_leA hS (by omega)) (req_i hS (i_le hS (Nat.le_refl _)) ?_))
 refine callb_i hS _ (PureF.like (.cons (lk_app hS (fun j hj=>by rw[twice,if_pos hj];exact .refl _) (by rw[twice,if_neg (Nat.lt_irrefl n)];exact .refl _)) .nil) q3) ?_
 cbv
 simp only[e.ieq,e.bnot]
 cbv
 simp only[e.ieq,e.bnot]
 cbv
 simp only[e.ieq,e.bnot]
 cbv
 simp only[e.ieq,e.bnot,BEq.rfl]
 cbv
 obtain⟨D,hD⟩: ∃D:Nat→Int,∀i,(Q:Int)-sumTo w i=D i:=⟨_,fun _=>rfl⟩
 have hD0:D 0=Q:=by rw[←hD];simp[sumTo]
 have hD1: ∀i,D (i+1)=D i-w i:=fun i=>by rw[←hD,←hD,sumTo];omega
 have hDm:D m=0:=by rw[←hD,hsum];exact Int.sub_self _
 have hQi:(Q:Int)≤48000:=Int.ofNat_le.2 (show Q≤48000 from hlen)
 have hQ0:0≤(Q:Int):=Int.natCast_nonneg _
 have hDb: ∀i,i≤m→ -1000000000000000≤D i∧D i≤1000000000000000:=fun i hi=>by
  have h1:=hbd i hi
  have h2:((i:Nat):Int)≤1000000:=Int.ofNat_le.2 (show i≤1000000 by omega)
  have h3:sumTo w i≤1000000000000000-48000:=by
   have:=h1.2
   have h4:(1000000000:Int)*(i:Int)≤1000000000*999999:=Int.mul_le_mul_of_nonneg_left (Int.ofNat_le.2 (show i≤999999 by omega)) (by decide)
   exact Int.le_trans this (Int.le_trans h4 (by decide))
  have h5:=h1.1
  clear h1
  rw[←hD];omega
 obtain⟨S,hS0,hS1⟩: ∃S:Nat→Nat,S 0=0∧ ∀i,S (i+1)=S i+(l i).nn:=⟨sumN fun i=>(l i).nn,rfl,fun _=>rfl⟩
 have hSN: ∀i,S i=sumN (fun i=>(l i).nn) i:=fun i=>by
  induction i with
  |zero=>rw[hS0];rfl
  |succ i ih=>rw[hS1,ih];rfl
 have hSb: ∀i,i≤n→S i≤48000*i:=fun i hi=>by
  induction i with
  |zero=>rw[hS0];omega
  |succ i ih=>
   have h1:=ih (by omega)
   have h2:=hge i (by omega)
   rw[hS1];omega
 rw[←hSN] at hle
 refine loop_i Tryz.mixed okP hS (fun i=>i≤m) (fun i=>m-i)
  (fun i=>⟨mkTs [(0,dsl n l),(3,int Q),(5,isl m w),(7,int (D i)),(9,int i)] 115,[],[0]⟩) 0 (by omega) ?_ ?_
 ·exact le_mk rfl ⟨Like.refl _,Like.refl _,Like.refl _,lk_v hD0.symm,lk_l rfl,trivial⟩ (.nil _) (by simp;omega) (.inl ⟨by cbv,by cbv⟩) rfl
 ·intro i hi N hN
  have hb1:=hDb i hi
  cbv
  split
  ·rename_i h
   have hlt:i<m:=t_ltN hS h
   have hb2:=hDb (i+1) hlt
   have hwi:=hwb i hlt
   cbv
   simp only[nat,e.toNat,Int.ofNat_eq_natCast,Int.toNat_natCast]
   refine req_i hS (i_inbN hS hlt) (req_i hS (i_inrS hS (by omega)) (req_i hS (i_inc hS (by omega)) ?_))
   exact hN (i+1) _ hlt (by omega) (le_mk rfl ⟨Like.refl _,Like.refl _,Like.refl _,lk_v (by simp only[e.isub];exact (hD1 i).symm),v_inc hS,trivial⟩ (.nil _) (by simp;omega) (.inr rfl) rfl)
  ·rename_i h
   have hin:i=m:=by have:=f_ltN hS h;omega
   subst hin
   cbv
   refine loop_i Tryz.mixed okP hS (fun i=>i≤n) (fun i=>n-i)
    (fun j=>⟨mkTs [(0,dsl n l),(3,int Q),(7,int (D i)),(10,int (S j)),(11,int j)] 115,[],[0]⟩) 0 (by omega) ?_ ?_
   ·exact le_mk rfl ⟨Like.refl _,Like.refl _,Like.refl _,lk_l (by rw[hS0];rfl),lk_l rfl,trivial⟩ (.nil _) (by simp;omega) (.inr rfl) rfl
   ·intro j hj N2 hN2
    have hs1:=hSb j hj
    cbv
    split
    ·rename_i h
     have hjn:j<n:=t_ltN hS h
     have hs2:=hSb (j+1) hjn
     cbv
     refine req_i hS (i_inc hS (by omega)) (req_i hS (i_ile hS (Int.natCast_nonneg _)) (req_i hS (i_ile hS (by simp only[e.iadd,Int.ofNat_eq_natCast];omega)) (req_i hS (i_ile hS (by simp only[e.iadd,e.ofNat,Int.ofNat_eq_natCast];omega)) ?_)))
     refine callb_i hS _ (PureF.like (.cons (Like.slr (by simp only[e.nsub,e.toNat,e.iadd,Int.ofNat_eq_natCast];omega) fun p hp=> ?_) .nil) (h19o j hjn)) ?_
     ·obtain rfl:p=0:=by
       simp only[e.nsub,e.toNat,e.iadd,Int.ofNat_eq_natCast] at hp
       omega
      simp only[e.shift,e.toNat,Int.ofNat_eq_natCast,Int.toNat_natCast]
      exact .refl _
     cbv
     refine callb_i hS _ (q4 j hjn) ?_
     cbv
     simp only[e.ieq,e.bnot]
     cbv
     simp only[nat,e.toNat,e.ieq,e.bnot,e.ofNat,Int.ofNat_eq_natCast,Int.toNat_natCast]
     refine req_i hS (i_inbN hS hjn) ?_
     simp only[BEq.rfl,Bool.not_true]
     cbv
     simp only[show Sg.ilt (Int.ofNat Q) (Int.ofNat (l j).nn)=false by rw[e.ilt];simp only[Int.ofNat_eq_natCast,decide_eq_false_iff_not,Int.not_lt];exact Int.ofNat_le.2 (hge j hjn)]
     cbv
     have hgj:=hge j hjn
     refine req_i hS (i_inrA hS ?_) (req_i hS (i_inc hS (by omega)) ?_)
     ·simp only[Int.ofNat_eq_natCast]
      have h1:((S j:Nat):Int)≤480000:=Int.ofNat_le.2 (show S j≤480000 by omega)
      have h2:(((l j).nn:Nat):Int)≤48000:=Int.ofNat_le.2 (show (l j).nn≤48000 by omega)
      have h3:=Int.natCast_nonneg (S j)
      have h4:=Int.natCast_nonneg (l j).nn
      exact⟨Int.le_trans (by decide) (Int.add_nonneg h3 h4),Int.le_trans (Int.add_le_add h1 h2) (by decide)⟩
     ·exact hN2 (j+1) _ hjn (by omega) (le_mk rfl ⟨Like.refl _,Like.refl _,Like.refl _,lk_v (by simp only[e.iadd];rw[hS1];rfl),v_inc hS,trivial⟩ (.nil _) (by simp;omega) (.inr rfl) rfl)
    ·rename_i h
     have hjn:j=n:=by have:=f_ltN hS h;omega
     cbv
     simp only[e.ieq,hDm]
     cbv
     simp only[show Sg.ile (Int.ofNat Q) (Int.ofNat (S j))=true by rw[e.ile];simp only[Int.ofNat_eq_natCast,decide_eq_true_eq];rw[hjn];exact Int.ofNat_le.2 hle]
     cbv
     refine callb_i hS _ haw ?_
     cbv
     exact Like.refl _
end Go.Proofs.Tryz.Run
