/- OrderMoves answers true: the walk. Conditions: none. -/
import Derived.Test.YtpcokdalcafgdaaGreatZYe
import Derived.Test.YtpcokdalcafgdaaGreatZXc
import Derived.Test.YtpcokdalcafgdaaGreatZOh
set_option linter.unusedSimpArgs false
set_option linter.unusedVariables false
namespace Go.Proofs.Tryz.Run
open Go Go.Vf Go.Proofs
open Go.Proofs.YtpcokdalcafgdaaGreat
section
variable {P:Program} {A:Ann} {ro:Option Nat} {E:Ent} {Sg:Sig}
theorem w_u8 (hS:Sg=std P A ro E){z:Int}(h:0≤z∧z≤255):Sg.iwrap .i64 z=z:=by rw[(stdE hS).iwrap];exact wrap64 (by omega) (by omega)
theorem rem_nat (hS:Sg=std P A ro E){z:Int}{n:Nat}(h:0≤z):Sg.irem z (Sg.ofNat n)=((z.toNat % n:Nat):Int):=by
 rw[(stdE hS).irem,(stdE hS).ofNat]
 obtain⟨k,rfl⟩: ∃k:Nat,z=k:=⟨z.toNat,by omega⟩
 rw[Int.toNat_natCast,Int.tmod_eq_emod_of_nonneg h];rfl
theorem i_nzN (hS:Sg=std P A ro E){n:Nat}(h:n≠0):Sg.nz (Sg.ofNat n):=by subst hS;exact fun h2=>h (Int.ofNat.inj h2)
end
set_option maxHeartbeats 16000000 in
set_option maxRecDepth 100000 in
theorem orderMoves9 (n:Nat)(l:Nat→DiR)(hw: ∀i,i<n→(l i).wf)(f t:Int)(hf:0≤f∧f≤255)(htt:0≤t∧t≤255):PureF Tryz.prog true 9 [dsl n l,u8 f,u8 t] (bool true):=by
 have haw:=awake_true
 by_cases ht:thins n l∧famErr n l 0
 rotate_left
 ·have h34:=ready34 n l hw false (by simp only[ht,Bool.false_eq_true])
  refine pure_bool (pureF_of_fn Tryz.mixed okP ok9 _ rfl fun E Sg hb hS=> ?_)
  cbv
  refine callb_i hS _ h34 ?_
  cbv
  refine callb_i hS _ haw ?_
  cbv
  exact Like.refl _
 have h34:=ready34 n l hw true (by simp only[ht,and_self])
 have hn4:=ht.1.1
 have hF:=FamOk.mk' (n:=n) (l:=l) (by omega) (fun i hi=>(ht.1.2 i hi).1.fit (hw i hi)) (fun i hi=>(hw i hi).2.2) ht.2
 have hp:=hF.pos.1
 have hns:=(frErr_ok (hF.di 0 hp).fr).1
 have hs:prod (l 0).sz (l 0).ns≤1000:=by
  have:=(ht.1.2 0 hp).2 (fam_ok ht.2|>.2 0 hp).1
  omega
 have hno:=hF.ons
 by_cases h0:(l 0).ns=0
 ·obtain⟨ns,hnse⟩: ∃ns,(l 0).ns=ns:=⟨_,rfl⟩
  rw[hnse] at h0
  refine pure_bool (pureF_of_fn Tryz.mixed okP ok9 _ rfl fun E Sg hb hS=> ?_)
  have e:=stdE hS
  cbv
  refine callb_i hS _ h34 ?_
  cbv
  refine req_i hS (i_inbN hS hp) ?_
  have hn0:nat Sg (IX.l (Int.ofNat 0))=0:=rfl
  simp only[hn0,hnse,h0,e.ofNat,e.ieq]
  cbv
  refine callb_i hS _ haw ?_
  cbv
  exact Like.refl _
 obtain⟨i,hi⟩: ∃i,i=f.toNat % (l 0).ns:=⟨_,rfl⟩
 obtain⟨k,hk⟩: ∃k,k=t.toNat % (l 0).ns:=⟨_,rfl⟩
 have hin:i<(l 0).ns:=by rw[hi];exact Nat.mod_lt _ (by omega)
 have hkn:k<(l 0).ns:=by rw[hk];exact Nat.mod_lt _ (by omega)
 have hord:=hF.ord
 rw[←hno] at hin hkn
 have hfr:=fun p q hp hq=>hF.frMv (p:=p) (q:=q) hp hq
 obtain⟨G,hG⟩: ∃G:Nat→Nat→DiR,∀p,mvF l i p=G p:=⟨fun p=>mvF l i p,fun _=>rfl⟩
 have hGok: ∀p,p<(l 0).no→FamOk n (G p):=fun p hp=>by rw[←hG];exact hF.chg hs (hfr i p hin hp)
 have hswap: ∀p q:Nat,p+1<(l 0).no→(q=p∧i≤p∨q=p+1∧p<i)→PureF Tryz.prog false 36 [dsl n (G q),int p] (.tuple [dsl n (G (if q=p then p+1 else p)),int 0]):=fun p q hp hq=>by
  have h1:=(swap36 (hGok q (by omega)) p).2 p rfl (by rw[←hG];show p+2≤(l 0).no;omega)
  refine PureF.resLike (Likes.tuple (.cons ?_ (.cons (Like.refl _) .nil))) h1
  rw[←hG q,←hG]
  have h2:=hF.chgLike2 (no:=(l 0).no) (no':=(l 0).no) (od:=mvd (l 0).no (l 0).od i q) (od':=mvd (l 0).no (mvd (l 0).no (l 0).od i q) p (p+1)) (hfr i q hin (by omega)) (by
   have h5:=(hGok q (by omega)).frMv (p:=p) (q:=p+1)
   rw[←hG] at h5
   exact h5 (by show p<(l 0).no;omega) (by show p+1<(l 0).no;omega))
  refine h2.trans (chg_like fun j hj=> ?_)
  rcases hq with⟨rfl,h3⟩|⟨rfl,h3⟩
  ·rw[if_pos rfl];exact mvd_up _ hin hp hj h3
  ·rw[if_neg (by omega)];exact mvd_down _ hin hp hj h3
 have hod:0≤(l 0).od i∧(l 0).od i≤((l 0).no:Int)-1:=by rw[hno];exact (hord.2 i hin).1
 have hmv1:=(move37 hF ((l 0).od i) k).2 i k hin rfl rfl hkn
 have hmv2:PureF Tryz.prog false 37 [dsl n (G k),int ((l 0).od i),int i] (.tuple [dsl n l,int 0]):=by
  have h1:=(move37 (hGok k hkn) ((l 0).od i) i).2 k i (by rw[←hG];exact hkn) (by
   rw[←hG]
   show (l 0).od i=mvd (l 0).no (l 0).od i k k
   rw[mvd_src hin hkn _ hkn]
   unfold srcF
   (repeat' split)<;>first|rfl|omega) rfl (by rw[←hG];exact hin)
  refine PureF.resLike (Likes.tuple (.cons ?_ (.cons (Like.refl _) .nil))) h1
  rw[←hG k]
  exact hF.back (no:=(l 0).no) (hfr i k hin hkn) fun j hj=>mvd_back _ hin hkn hj
 have h19:=copy19 n (by omega) l hF.fit
 have h19k:=copy19 n (by omega) (G k) (hGok k hkn).fit
 have h27:=(hGok k hkn).same
 have h27l:=hF.same
 rw[hG] at hmv1
 have hl0:Like (dsl n l) (dsl n (G i)):=by
  rw[←hG]
  exact hF.ownLike.trans (chg_like fun j hj=>(mvd_same _ hin hj).symm)
 obtain⟨ns,hnse⟩: ∃ns,(l 0).ns=ns:=⟨_,rfl⟩
 obtain⟨ch,hch⟩: ∃ch,(l 0).od i=ch:=⟨_,rfl⟩
 obtain⟨o1,ho1⟩: ∃o1,(l 0).od=o1:=⟨_,rfl⟩
 rw[hch] at hmv1 hmv2
 rw[ho1] at hch
 simp only[hno,hnse] at hin hkn hswap hi hk hns h0
 rw[hnse] at hno
 have hno2:(l 0).no=ns:=hno
 clear hG hGok
 refine pure_bool (pureF_of_fn Tryz.mixed okP ok9 _ rfl fun E Sg hb hS=> ?_)
 have e:=stdE hS
 have er:=fun z h=>rem_nat (n:=ns) hS (z:=z) h
 cbv
 refine callb_i hS _ h34 ?_
 cbv
 refine req_i hS (i_inbN hS hp) ?_
 have hn0:nat Sg (IX.l (Int.ofNat 0))=0:=rfl
 simp only[hn0,hnse]
 have hb0:((ns:Int)==Int.ofNat 0)=false:=beq_false_of_ne (by simpa using h0)
 simp only[e.ieq,e.ofNat,hb0]
 cbv
 simp only[hn0]
 simp only[hnse,hno2,ho1,w_u8 hS hf,w_u8 hS htt,er f hf.1,er t htt.1,←hi,←hk,nat,e.toNat,Int.toNat_natCast,hch]
 have hi2:((i:Nat):Int)<ns:=Int.ofNat_lt.2 hin
 refine req_i hS (i_inbN hS hp) (req_i hS (i_nzN hS h0) (req_i hS (i_nzN hS h0) (req_i hS (i_inbN hS hp) (req_i hS (i_inbN hS hin) ?_))))
 refine callb_i hS _ h19 ?_
 cbv
 refine callb_i hS _ hmv1 ?_
 cbv
 simp only[e.ieq,e.bnot,BEq.rfl,Bool.not_true]
 cbv
 refine callb_i hS _ h19 ?_
 cbv
 refine loop_i Tryz.mixed okP hS (fun p=>p<ns∧(i≤p∧p≤k∨k≤p∧p≤i)) (fun p=>(p-k)+(k-p))
  (fun p=>⟨mkTs [(0,dsl n l),(8,int i),(9,int k),(10,int ch),(11,dsl n (G k)),(13,dsl n (G p)),(14,int p)] 110,[],[]⟩) i ⟨hin,by omega⟩ ?_ ?_
 ·exact le_mk rfl ⟨Like.refl _,Like.refl _,Like.refl _,Like.refl _,Like.refl _,hl0,Like.refl _,trivial⟩ (.nil _) (by omega) (.inr rfl) rfl
 ·rintro p ⟨hpn,hpk⟩ N hN
  cbv
  split
  ·rename_i h
   have hne:p≠k:=fun h2=>t_ne hS h (by rw[h2])
   cbv
   split
   ·rename_i h2
    have hlt:p<k:=Int.ofNat_lt.1 (t_lt hS h2)
    have hsw:=hswap p p (by omega) (.inl ⟨rfl,by omega⟩)
    rw[if_pos rfl] at hsw
    cbv
    refine req_i hS (i_inc hS (by omega)) ?_
    refine callb_i hS _ hsw ?_
    cbv
    simp only[e.ieq,e.bnot,BEq.rfl,Bool.not_true]
    cbv
    exact hN (p+1) _ ⟨by omega,by omega⟩ (by omega) (le_mk rfl ⟨Like.refl _,Like.refl _,Like.refl _,Like.refl _,Like.refl _,Like.refl _,v_inc hS,trivial⟩ (.nil _) (by omega) (.inr rfl) rfl)
   ·rename_i h2
    have hlt:k≤p:=Int.ofNat_le.1 (f_lt hS h2)
    obtain⟨q,rfl⟩: ∃q,p=q+1:=⟨p-1,by omega⟩
    have hsw:=hswap q (q+1) (by omega) (.inr ⟨rfl,by omega⟩)
    rw[if_neg (by omega)] at hsw
    have hq1:Sg.isub (Int.ofNat (q+1)) (Int.ofNat 1)=(q:Int):=by rw[e.isub];simp
    have hq2: -9223372036854775808≤(q:Int)∧(q:Int)≤9223372036854775807:=by omega
    cbv
    simp only[hq1]
    refine req_i hS (i_inr hS hq2) (req_i hS (i_inr hS hq2) ?_)
    refine callb_i hS _ hsw ?_
    cbv
    simp only[e.ieq,e.bnot,BEq.rfl,Bool.not_true]
    cbv
    exact hN q _ ⟨by omega,by omega⟩ (by omega) (le_mk rfl ⟨Like.refl _,Like.refl _,Like.refl _,Like.refl _,Like.refl _,Like.refl _,Like.refl _,trivial⟩ (.nil _) (by omega) (.inr rfl) rfl)
  ·rename_i h
   cbv
   have hpk2:p=k:=Int.ofNat.inj (f_ne hS h)
   subst hpk2
   refine callb_i hS _ h19k ?_
   cbv
   refine callb_i hS _ hmv2 ?_
   cbv
   refine callb_i hS _ h27 ?_
   cbv
   simp only[e.ieq,BEq.rfl]
   cbv
   refine callb_i hS _ h27l ?_
   cbv
   refine callb_i hS _ haw ?_
   cbv
   exact Like.refl _
end Go.Proofs.Tryz.Run
