/- The program's Of: the strides. The program's Of. The reference's number of a place. Conditions: none. -/
import Derived.Test.YtpcokdalcafgdaaGreatZXf
import Derived.Test.YtpcokdalcafgdaaGreatZSq
import Derived.Test.YtpcokdalcafgdaaGreatZLq
set_option linter.unusedSimpArgs false
set_option linter.unusedVariables false
namespace Go.Proofs.Tryz.Run
open Go Go.Vf Go.Proofs
open Go.Proofs.YtpcokdalcafgdaaGreat
theorem back134 {ns:Nat}(sz:Nat→Int):ACall Tryz.prog 134 [isl ns sz] [] (fun pg v h'=>pg=[]∧v= .fn 168 [] [.ptr 0 0]∧h'=[.var [isl ns sz]]):=by
 refine acall_c Tryz.mixed okP ok134 rfl fun E Sg hb hS F hF=> ?_
 cbv
 exact⟨[],by simp,hF (.cons (.refl _) (.nil _)) (Like.refl _) (by simp) (.inr rfl) ⟨rfl,rfl,rfl⟩⟩
def rgH (o0 o1 o2 o3 o4 o5 o6 o7 o8 B o10 D b o13:AObj):List AObj:=[o0,o1,o2,o3,o4,o5,o6,o7,o8,B,o10,D,b,o13]
set_option maxHeartbeats 4000000 in
theorem back168 {ns:Nat}(hns:ns≤1000000)(sz:Nat→Int)(J:Nat→Nat)(hJ: ∀p,p<ns→J p=ns-1-p)(o0 o1 o2 o3 o4 o5 o6 o7 o8 o10 o13:AObj)(B D:Nat→AObj)
 (hY: ∀p,p<ns→YCall Tryz.prog 13 [int (J p),int (sz (J p))] (rgH o0 o1 o2 o3 o4 o5 o6 o7 o8 (B p) o10 (D p) (.var [isl ns sz]) o13) (fun pg v h'=>pg=[]∧v= .d (.bool true)∧h'=rgH o0 o1 o2 o3 o4 o5 o6 o7 o8 (B (p+1)) o10 (D (p+1)) (.var [isl ns sz]) o13)):
 ACall Tryz.prog 168 [.yl 13,.ptr 12 0] (rgH o0 o1 o2 o3 o4 o5 o6 o7 o8 (B 0) o10 (D 0) (.var [isl ns sz]) o13) (fun pg v h'=>pg=[]∧h'=rgH o0 o1 o2 o3 o4 o5 o6 o7 o8 (B ns) o10 (D ns) (.var [isl ns sz]) o13):=by
 obtain⟨K,hK⟩: ∃K:Nat→Int,∀p,K p=(ns:Int)-1-p:=⟨_,fun _=>rfl⟩
 have hK1: ∀p,p<ns→K p=J p:=fun p hp=>by rw[hK,hJ p hp];omega
 have hKp: ∀p,p≤ns→0≤K p→p<ns:=fun p hp h=>by rw[hK] at h;omega
 have hKn: ∀p,p≤ns→K p<0→p=ns:=fun p hp h=>by rw[hK] at h;omega
 have hK2: ∀p,K (p+1)=K p-1:=fun p=>by rw[hK,hK];omega
 have hK0:K 0=(ns:Int)-1:=by rw[hK];omega
 refine acall_c Tryz.mixed okP ok168 rfl fun E Sg hb hS F hF=> ?_
 simp only[rgH,List.length_cons,List.length_nil] at hb
 have e:=stdE hS
 cbv
 refine req_i hS (i_inrS hS (by simp only[e.ofNat,Int.ofNat_eq_natCast];show-9223372036854775808≤(ns:Int)-1∧(ns:Int)-1≤9223372036854775807;omega)) ?_
 refine loop_i Tryz.mixed okP hS (fun p=>p≤ns) (fun p=>ns-p)
  (fun p=>⟨mkTs [(0,.yl 13),(1,.ptr 12 0),(3,int (K p))] 19,rgH o0 o1 o2 o3 o4 o5 o6 o7 o8 (B p) o10 (D p) (.var [isl ns sz]) o13,[]⟩) 0 (by omega) ?_ ?_
 ·refine le_mk rfl ⟨Like.refl _,Like.refl _,lk_v ?_,trivial⟩ (LikesO.same _) (by simp[rgH];omega) (.inr rfl) rfl
  simp only[e.isub,e.ofNat,hK0,IX.val,Int.ofNat_eq_natCast]
  rfl
 ·intro p hp N hN
  cbv
  split
  ·rename_i h
   have hlt:p<ns:=hKp p hp (t_le hS h)
   have hj:=hK1 p hlt
   have hjn:J p<ns:=by rw[hJ p hlt];omega
   have hyp:=hY p hlt
   cbv
   simp only[nat,e.toNat,hj,Int.toNat_natCast]
   refine req_i hS (i_inbN hS hjn) ?_
   refine yld_c hS hyp ?_
   rintro pg v H' ⟨rfl,rfl,rfl⟩
   cbv
   refine req_i hS (i_inrS hS (show-9223372036854775808≤(J p:Int)-1∧(J p:Int)-1≤9223372036854775807 by omega)) ?_
   exact hN (p+1) _ hlt (by omega) (le_mk rfl ⟨Like.refl _,Like.refl _,lk_v (by simp only[e.isub,hK2,hj,Int.ofNat_eq_natCast];rfl),trivial⟩ (LikesO.same _) (by simp[rgH];omega) (.inr rfl) rfl)
  ·rename_i h
   have hpn:p=ns:=hKn p hp (f_le hS h)
   subst hpn
   cbv
   exact⟨[],by simp,hF (LikesO.same _) (Like.refl _) (by simp[rgH]) (.inr rfl) ⟨rfl,rfl⟩⟩
end Go.Proofs.Tryz.Run
set_option linter.unusedSimpArgs false
set_option linter.unusedVariables false
namespace Go.Proofs.Tryz.Run
open Go Go.Vf Go.Proofs
open Go.Proofs.YtpcokdalcafgdaaGreat
def tailP (sz:Nat→Int)(ns:Nat):Nat→Int
 |0=>1
 |p+1=>tailP sz ns p*sz (ns-1-p)
theorem tailP_prod (sz:Nat→Int)(ns:Nat): ∀p,p≤ns→prod sz (ns-p)*tailP sz ns p=prod sz ns
 |0,_=>by simp[tailP]
 |p+1,h=>by
  have ih:=tailP_prod sz ns p (by omega)
  obtain⟨q,hq⟩: ∃q,ns-p=q+1:=⟨ns-p-1,by omega⟩
  rw[hq,prod] at ih
  rw[tailP,show ns-(p+1)=q by omega,show ns-1-p=q by omega,←ih,Int.mul_assoc,Int.mul_comm (tailP sz ns p)]
theorem tailP_bd {sz:Nat→Int}{ns:Nat}(hs: ∀i,i<ns→1≤sz i∧sz i≤12)(hp:prod sz ns≤2000): ∀p,p≤ns→1≤tailP sz ns p∧tailP sz ns p≤2000:=fun p hpn=>by
 have h1: ∀p,p≤ns→1≤tailP sz ns p:=fun p=>by
  induction p with
  |zero=>intro _;simp[tailP]
  |succ p ih=>
   intro h
   have:=ih (by omega)
   have h2:=(hs (ns-1-p) (by omega)).1
   rw[tailP]
   exact Int.le_trans (by decide) (Int.mul_le_mul this h2 (by decide) (by omega))
 refine⟨h1 p hpn,?_⟩
 have h2:=tailP_prod sz ns p hpn
 have h3:=prod_pos (g:=sz) (n:=ns-p) fun i hi=>(hs i (by omega)).1
 have h4:1*tailP sz ns p≤prod sz (ns-p)*tailP sz ns p:=Int.mul_le_mul_of_nonneg_right h3 (by have:=h1 p hpn;omega)
 omega
def i95:ICode×ICode:=match c95 with| .seq _ (.seq _ (.seq _ (.seq _ (.seq (.seq _ (.block _ (.range _ _ a b))) _))))=>(a,b)|_=>(.ret,.ret)
def lp95:AObj:= .loop .ready (mkTs [(3,.ptr 0 0),(4,.ptr 1 0),(5,.ptr 2 0),(6,.ptr 3 0),(9,.ptr 8 0),(10,.ptr 10 0),(11,.ptr 11 0)] 61) [31,32] (fun ca cb=>comp Tryz.prog x95.A ca=some i95.1∧comp Tryz.prog x95.A cb=some i95.2)
def outO (o:OfR)(s:Law.Mk)(t:Int):DiR:=
 ⟨o.ns,o.sz,o.no,o.od,s.oe.length,fun i=>s.oe.getD i ⟨0,0⟩,s.on.length,fun i=>(s.on.getD i ⟨0,[]⟩).var,fun i=>(s.on.getD i ⟨0,[]⟩).kids.length,fun i j=>(s.on.getD i ⟨0,[]⟩).kids.getD j 0,t⟩
def ogH (o:OfR)(B:Nat→Int)(l1 l2:AV)(T:Int)(X:AObj):List AObj:=
 [.var [isl o.ns o.sz],.var [isl o.no o.od],.var [vsl o.T o.C],.var [.d .nil,.d .nil,.d .nil,.d .nil,int 0],.var [.any,.any],.map true [.u8,.i64] 0 (fun _=>none),.map true ks13 0 (fun _=>none),
   .var [isl o.ns o.sz,isl o.no o.od,isl o.ns o.sz,isl o.no o.od,l1,l2,int 0,.map 5,.map 6],.var [.ptr 7 0],arrI o.ns B,.var [.msl 9 1 none o.ns false],.var [int T],.var [isl o.ns o.sz],X,.var [.fn 137 [] [.ptr 1 0,.ptr 8 0,.ptr 2 0,.ptr 0 0,.ptr 14 0,.ptr 10 0]]]
def ogA:List AV:=[int 0,int 0,.ptr 1 0,.ptr 8 0,.ptr 2 0,.ptr 0 0,.ptr 14 0,.ptr 10 0]
def gst:AObj:= .arr 2 0 fun _=>[]
theorem nilH_app {l sz:Nat}(c:List AObj): ∀{a b:List AObj},Vf.nilH l sz a b→Vf.nilH l sz (a++c) (b++c)
 |[],[],_=>nilH_same _ _ _
 |_::_,_::_,⟨h,t⟩=>⟨h,nilH_app c t⟩
 |[],_::_,h=>by simp[Vf.nilH] at h
 |_::_,[],h=>by simp[Vf.nilH] at h
theorem of137g (o:OfR)(B:Nat→Int)(hB: ∀i,i<o.ns→B i=o.str i)(T:Int)(X:AObj)(s:Law.Mk)(t:Int)
 (hrec:ACall Tryz.prog 137 (ofA 0 0) (ofH o 0 0 (fun _=>none) (fun _=>none) (fun _=>[]) (fun _=>[])) (ofK o s t)):
 ACall Tryz.prog 137 ogA (ogH o B (.d .nil) (.d .nil) T X) (fun pg v h'=> ∃pg1,framed (ogH o B (.msl 15 2 none 0 false) (.msl 16 2 none 0 false) T X++[gst,gst]) [7,5,6,15,16,1,8,2,0,14,10,9] (ofK o s t) pg1 v h'∧pg=pg1.filter fun l=>decide (l<15)):=by
 have hfr:=ACall.frame (args':=ogA) hrec (H:=ogH o B (.msl 15 2 none 0 false) (.msl 16 2 none 0 false) T X++[gst,gst]) [7,5,6,15,16,1,8,2,0,14,10,9] rfl rfl
  (show _∧_ from⟨LikeO.refl _,LikeO.refl _,LikeO.refl _,LikeO.refl _,LikeO.refl _,LikeO.refl _,LikeO.refl _,LikeO.refl _,LikeO.refl _,LikeO.refl _,LikeO.refl _,LikeO.arrI rfl fun i hi=>by rw[hB i hi],trivial⟩)
 have sm: ∀l,nilL l 2 ogA ogA:=fun l=>nilL_same _ _ _
 have h2:=ACall.nilH (h:=ogH o B (.msl 15 2 none 0 false) (.d .nil) T X++[gst]) (h2:=ogH o B (.msl 15 2 none 0 false) (.msl 16 2 none 0 false) T X++[gst]) 2 (fun _=>[]) hfr (sm _)
  (nilH_app (a:=ogH o B (.msl 15 2 none 0 false) (.d .nil) T X) (b:=ogH o B (.msl 15 2 none 0 false) (.msl 16 2 none 0 false) T X) _ ⟨.inl rfl,.inl rfl,.inl rfl,.inl rfl,.inl rfl,.inl rfl,.inl rfl,.inr ⟨_,_,rfl,rfl,.inl rfl,.inl rfl,.inl rfl,.inl rfl,.inl rfl,.inr ⟨rfl,rfl⟩,.inl rfl,.inl rfl,.inl rfl,trivial⟩,nilH_same _ _ _⟩)
 have h1:=ACall.nilH (h:=ogH o B (.d .nil) (.d .nil) T X) (h2:=ogH o B (.msl 15 2 none 0 false) (.d .nil) T X) 2 (fun _=>[]) h2 (sm _)
  ⟨.inl rfl,.inl rfl,.inl rfl,.inl rfl,.inl rfl,.inl rfl,.inl rfl,.inr ⟨_,_,rfl,rfl,.inl rfl,.inl rfl,.inl rfl,.inl rfl,.inr ⟨rfl,rfl⟩,.inl rfl,.inl rfl,.inl rfl,.inl rfl,trivial⟩,nilH_same _ _ _⟩
 exact h1.pgs
set_option maxHeartbeats 16000000 in
set_option maxRecDepth 100000 in
theorem of95 (o:OfR)(hfr:frErr o.ns o.no o.sz o.od=0)(hT:(o.T:Int)=prod o.sz o.ns)(hc: ∀i,i<o.T→(0≤(o.C i).fault∧(o.C i).fault≤4)∧ -9999≤(o.C i).n∧(o.C i).n≤9999)(hco: ∀i,i<o.T→cellOk (o.C i))
 (hst: ∀i,i<o.ns→(o.str i:Int)=tailP o.sz o.ns (o.ns-1-i)) (s:Law.Mk) (t:Int)
 (hrec:ACall Tryz.prog 137 (ofA 0 0) (ofH o 0 0 (fun _=>none) (fun _=>none) (fun _=>[]) (fun _=>[])) (ofK o s t)):
 PureF Tryz.prog false 95 [isl o.ns o.sz,isl o.no o.od,vsl o.T o.C] (.tuple [(outO o s t).av,int 0]):=by
 obtain⟨k1,k2,k3,k4,_⟩:=frErr_ok hfr
 have h109:=checkFrame109 (n:=o.ns) (m:=o.no) (by omega) (by omega) o.sz o.od 0 hfr
 have hmk:=newMaker133 (ns:=o.ns) (no:=o.no) (by omega) (by omega) o.sz o.od
 have h134:=back134 (ns:=o.ns) o.sz
 have h135:=cells135 (n:=o.T) (by have:(o.T:Int)≤2000:=by rw[hT];exact k3
                                  omega) o.C (fun i hi=>(hc i hi).1.1) true (by simpa using hco)
 have hbd:=tailP_bd k2 k3
 have htot:tailP o.sz o.ns o.ns=o.T:=by have:=tailP_prod o.sz o.ns o.ns (Nat.le_refl _);rw[Nat.sub_self,prod,Int.one_mul] at this;rw[this,hT]
 obtain⟨res,hres⟩: ∃res,res=(outO o s t).av:=⟨_,rfl⟩
 rw[←hres]
 obtain⟨P,hP0,hP1,hPe⟩: ∃P:Nat→Int,P 0=1∧(∀p,P (p+1)=P p*o.sz (o.ns-1-p))∧ ∀p,tailP o.sz o.ns p=P p:=⟨tailP o.sz o.ns,rfl,fun _=>rfl,fun _=>rfl⟩
 simp only[hPe] at hbd htot hst
 clear hPe hco hT hfr hc
 obtain⟨ns,sz,no,od,T,C,str⟩:=o
 simp only at h109 hmk h134 h135 hbd htot hst hP1 k1 k2 k4
 obtain⟨J,hJ⟩: ∃J:Nat→Nat,∀p,J p=ns-1-p:=⟨_,fun _=>rfl⟩
 simp only[←hJ] at hP1
 obtain⟨B,hB⟩: ∃B:Nat→Nat→Int,∀p i,B p i=if ns-p≤i then P (ns-1-i) else 0:=⟨_,fun _ _=>rfl⟩
 refine pureF_of_fn Tryz.mixed okP ok95 _ rfl fun E Sg hb hS=> ?_
 have e:=stdE hS
 cbv
 refine callb_i hS _ h109 ?_
 cbv
 simp only[e.ieq,e.bnot]
 cbv
 refine call_c hS (ACall.frame hmk [] rfl rfl trivial) ?_
 rintro pg v H' ⟨pg0,v0,h0,⟨rfl,rfl,rfl⟩,rfl,rfl,rfl⟩
 cbv
 refine req_i hS (i_ile hS (by simp only[e.ofNat];exact Int.natCast_nonneg _)) (req_i hS (i_ileN hS (by omega)) ?_)
 refine call_c hS (ACall.frame h134 [] rfl rfl trivial) ?_
 rintro pg v H' ⟨pg0,v0,h0,⟨rfl,rfl,rfl⟩,rfl,rfl,rfl⟩
 cbv
 refine range_i hS rfl ?_
 have hr:=back168 (ns:=ns) (by omega) sz J (fun p _=>hJ p) (.var [isl ns sz]) (.var [isl no od]) (.var [vsl T C]) (.var [.d .nil,.d .nil,.d .nil,.d .nil,int 0]) (.var [.any,.any]) (.map true [.u8,.i64] 0 fun _=>none) (.map true ks13 0 fun _=>none)
  (.var [isl ns sz,isl no od,isl ns sz,isl no od,.d .nil,.d .nil,int 0,.map 5,.map 6]) (.var [.ptr 7 0]) (.var [.msl 9 1 none ns false]) lp95 (fun p=>arrI ns (B p)) (fun p=> .var [int (P p)]) ?_
 ·refine ACall.mono ?_ (hr.heap (.cons (.refl _) (.cons (.refl _) (.cons (.refl _) (.cons (.var (.cons (Like.refl _) (.cons (Like.refl _) (.cons (Like.refl _) (.cons (Like.refl _) (.cons (lk_l rfl) .nil)))))) (.cons (.refl _) (.cons (.refl _) (.cons (.refl _) (.cons (.refl _) (.cons (.refl _)
   (.cons ?_ (.cons ?_ (.cons (.var (.cons (lk_l hP0.symm) .nil)) (.cons (.refl _) (.cons (LikeO.loop ?_ fun a b h=>h) (.nil _))))))))))))))) rfl)
  ·rintro pg v H' ⟨rfl,rfl⟩
   cbv
   refine⟨fun h=>(nomatch h),_,_,_,_,rfl,?_⟩
   cbv
   simp only[e.ieq,e.bnot,e.ofNat,htot,BEq.rfl,Bool.not_true]
   cbv
   refine callb_i hS _ h135 ?_
   cbv
   refine call_c hS (of137g ⟨ns,sz,no,od,T,C,str⟩ (B ns) (fun i hi=>by rw[hB,if_pos (by omega)];exact (hst i hi).symm) _ _ s t hrec) ?_
   rintro pg v H' ⟨pg1,⟨pg0,v0,h0,⟨rfl,q1,q2,f1,f2,e1,e2,w1,rfl,rfl⟩,rfl,rfl,rfl⟩,hpg⟩
   have hpg0:pg=[]:=hpg
   subst hpg0
   clear hpg
   cbv
   refine req_i hS (i_same hS) (req_i hS (i_le hS (Nat.le_refl _)) (req_i hS (i_le hS (Nat.le_refl _)) ?_))
   subst hres
   exact Likes.tuple (.cons (Likes.agg (.cons (Like.refl _) (.cons (Like.refl _) (.cons (out_ends w1) (.cons (out_nodes w1) (.cons (Like.refl _) .nil)))))) (.cons (lk_l rfl) .nil))
  ·simp only[e.toNat,e.ofNat,Int.toNat_natCast]
   exact lkO_rep hS fun j hj=>by rw[hB,if_neg (by omega)];exact .one (.int rfl)
  ·simp only[e.toNat,e.ofNat,Int.toNat_natCast]
   exact .refl _
  ·exact likes_mk rfl ⟨Like.refl _,Like.refl _,Like.refl _,Like.refl _,Like.refl _,Like.refl _,Like.refl _,trivial⟩
 ·intro p hp
  have hjn:J p<ns:=by rw[hJ];omega
  have hb1:=hbd p (by omega)
  have hb2:=hbd (p+1) hp
  have hP:=hP1 p
  refine YCall.cut (ycall_of_ev Tryz.mixed okP (A:=x95.A) rfl (fun _ _ h=>h) rfl fun ro E Sg hS=> ?_)
  have e:=stdE hS
  cbv
  refine⟨fun h=>(nomatch h),_,_,_,rfl,?_⟩
  cbv
  simp only[nat,e.toNat,Int.ofNat_eq_natCast,Int.toNat_natCast]
  refine req_i hS (i_inbN hS hjn) (req_i hS (i_lt hS hjn) (req_i hS (i_inrM hS (by rw[←hP];omega)) ?_))
  refine⟨fun h=>(nomatch h),_,_,_,rfl,[],fun m _ h=>h,?_⟩
  cbv
  refine⟨rgH _ _ _ _ _ _ _ _ _ (arrI ns (B (p+1))) _ (.var [int (P (p+1))]) _ lp95,.d (.bool true),.cons (.refl _) (.cons (.refl _) (.cons (.refl _) (.cons (.refl _) (.cons (.refl _) (.cons (.refl _) (.cons (.refl _) (.cons (.refl _) (.cons (.refl _)
   (.cons (lkO_upd hS ?_ ?_) (.cons (.refl _) (.cons (.var (.cons (lk_v ?_) .nil)) (.cons (.refl _) (.cons (LikeO.loop (likes_mk rfl ⟨Like.refl _,Like.refl _,Like.refl _,Like.refl _,Like.refl _,Like.refl _,Like.refl _,trivial⟩) fun a b h=>h) (.nil _)))))))))))))),Like.refl _,by simp[rgH],.inr rfl,rfl,rfl,rfl⟩
  ·intro j hj hne
   rw[hJ] at hne
   rw[hB,hB]
   by_cases h:ns-p≤j
   ·rw[if_pos h,if_pos (by omega)];exact .refl _
   ·rw[if_neg h,if_neg (by omega)];exact .refl _
  ·intro _
   rw[hB,hJ,if_pos (by omega),show ns-1-(ns-1-p)=p by omega]
   exact .refl _
  ·simp only[e.imul];exact hP.symm
end Go.Proofs.Tryz.Run
set_option linter.unusedSimpArgs false
set_option linter.unusedVariables false
namespace Go.Proofs.Tryz.Run
open Go Go.Vf Go.Proofs
open Go.Proofs.YtpcokdalcafgdaaGreat
def numH (sz g:Nat→Int):Nat→Int
 |0=>0
 |i+1=>numH sz g i*sz i+g i
theorem prod_mono {sz:Nat→Int}{n:Nat}(hs: ∀i,i<n→1≤sz i): ∀m,m≤n→prod sz m≤prod sz n:=fun m hm=>by
 induction n with
 |zero=>rw[show m=0 by omega];exact Int.le_refl _
 |succ n ih=>
  by_cases e:m=n+1
  ·rw[e];exact Int.le_refl _
  ·have h1:=ih (fun i hi=>hs i (by omega)) (by omega)
   have h2:=prod_pos (g:=sz) (n:=n) fun i hi=>hs i (by omega)
   have h3:=hs n (by omega)
   rw[prod]
   refine Int.le_trans h1 ?_
   have:=Int.mul_le_mul_of_nonneg_left h3 (show 0≤prod sz n by omega)
   omega
theorem numH_bd {sz g:Nat→Int}{n:Nat}(hg: ∀i,i<n→0≤g i∧g i<sz i): ∀m,m≤n→0≤numH sz g m∧numH sz g m<prod sz m
 |0,_=>by simp[numH,prod]
 |m+1,h=>by
  have ih:=numH_bd hg m (by omega)
  have hm:=hg m (by omega)
  rw[numH,prod]
  have h1:0≤numH sz g m*sz m:=Int.mul_nonneg ih.1 (by omega)
  have h2:(numH sz g m+1)*sz m≤prod sz m*sz m:=Int.mul_le_mul_of_nonneg_right (by omega) (by omega)
  rw[Int.add_mul,Int.one_mul] at h2
  omega
set_option maxHeartbeats 4000000 in
theorem number112 {ns:Nat}(hns:ns≤1000000)(sz g:Nat→Int)(hs: ∀i,i<ns→1≤sz i∧sz i≤12)(hp:prod sz ns≤2000)(hg: ∀i,i<ns→0≤g i∧g i<sz i)(r:Int)(hr:numH sz g ns=r):PureF Tryz.prog true 112 [isl ns sz,isl ns g] (int r):=by
 have hb:=numH_bd hg
 have hpm:=prod_mono (sz:=sz) (n:=ns) fun i hi=>(hs i hi).1
 obtain⟨N0,hN0,hN1,hN2⟩: ∃N:Nat→Int,N 0=0∧(∀i,N (i+1)=N i*sz i+g i)∧ ∀i,numH sz g i=N i:=⟨numH sz g,rfl,fun _=>rfl,fun _=>rfl⟩
 simp only[hN2] at hb hr
 have hbb: ∀i,i≤ns→0≤N0 i∧N0 i<2000:=fun i hi=>⟨(hb i hi).1,by have:=(hb i hi).2;have:=hpm i hi;omega⟩
 clear hb hpm hN2
 refine pure_int (pureF_of_fn Tryz.mixed okP ok112 _ rfl fun E Sg hbs hS=> ?_)
 have e:=stdE hS
 cbv
 refine loop_i Tryz.mixed okP hS (fun i=>i≤ns) (fun i=>ns-i)
  (fun i=>⟨mkTs [(0,isl ns sz),(1,isl ns g),(5,int (N0 i)),(6,int i)] 25,[],[]⟩) 0 (by omega) ?_ ?_
 ·exact le_mk rfl ⟨Like.refl _,Like.refl _,lk_l hN0.symm,lk_l rfl,trivial⟩ (.nil _) (by omega) (.inr rfl) rfl
 ·intro i hi N hN
  have h1:=hbb i hi
  cbv
  split
  ·rename_i h
   have hlt:i<ns:=t_ltN hS h
   have h2:=hbb (i+1) hlt
   have h3:=hs i hlt
   have h4:=hg i hlt
   have h5:=hN1 i
   have h6:0≤N0 i*sz i:=Int.mul_nonneg h1.1 (by omega)
   have h7:N0 i*sz i≤2000*sz i:=Int.mul_le_mul_of_nonneg_right (by omega) (by omega)
   cbv
   simp only[nat,e.toNat,e.imul,Int.ofNat_eq_natCast,Int.toNat_natCast]
   refine req_i hS (i_inbN hS hlt) (req_i hS (i_inbN hS hlt) (req_i hS (i_inr hS (by omega)) (req_i hS (i_inrA hS (by omega)) (req_i hS (i_inc hS (by omega)) ?_))))
   exact hN (i+1) _ hlt (by omega) (le_mk rfl ⟨Like.refl _,Like.refl _,lk_v (by simp only[e.iadd];exact h5.symm),v_inc hS,trivial⟩ (.nil _) (by omega) (.inr rfl) rfl)
  ·rename_i h
   have hin:i=ns:=by have:=f_ltN hS h;omega
   subst hin
   cbv
   exact lk_v hr
def mulR (sz:Nat→Int)(c:Nat):Nat→Int
 |0=>1
 |m+1=>mulR sz c m*sz (c+1+m)
theorem mulR_prod (sz:Nat→Int)(c:Nat): ∀m,prod sz (c+1)*mulR sz c m=prod sz (c+1+m)
 |0=>by simp[mulR]
 |m+1=>by rw[mulR,←Int.mul_assoc,mulR_prod sz c m];rfl
theorem numH_congr {sz g h:Nat→Int}: ∀{m},(∀i,i<m→g i=h i)→numH sz g m=numH sz h m
 |0,_=>rfl
 |m+1,e=>by rw[numH,numH,numH_congr fun i hi=>e i (by omega),e m (by omega)]
theorem numH_set (sz g:Nat→Int)(c:Nat)(k:Int): ∀m,numH sz (setAt g c k) (c+1+m)=numH sz g (c+1+m)+(k-g c)*mulR sz c m
 |0=>by
  show numH sz (setAt g c k) (c+1)=numH sz g (c+1)+(k-g c)*1
  rw[numH,numH,numH_congr (h:=g) fun i hi=>by simp only[setAt,if_neg (show¬i=c by omega)]]
  simp only[setAt,if_pos]
  omega
 |m+1=>by
  show numH sz (setAt g c k) (c+1+m+1)=numH sz g (c+1+m+1)+(k-g c)*mulR sz c (m+1)
  rw[numH,numH,numH_set sz g c k m,mulR]
  simp only[setAt,if_neg (show¬c+1+m=c by omega)]
  rw[Int.add_mul,Int.mul_assoc]
  omega
theorem mulR_tail {sz:Nat→Int}{ns c:Nat}(hc:c<ns)(hs: ∀i,i<ns→1≤sz i):mulR sz c (ns-1-c)=tailP sz ns (ns-1-c):=by
 have h1:=mulR_prod sz c (ns-1-c)
 have h2:=tailP_prod sz ns (ns-1-c) (by omega)
 rw[show c+1+(ns-1-c)=ns by omega] at h1
 rw[show ns-(ns-1-c)=c+1 by omega,←h1] at h2
 have h3:=prod_pos (g:=sz) (n:=c+1) fun i hi=>hs i (by omega)
 exact (Int.eq_of_mul_eq_mul_left (by omega) h2).symm
theorem num_step {sz:Nat→Int}{ns c:Nat}(hc:c<ns)(hs: ∀i,i<ns→1≤sz i)(g:Nat→Int)(h0:g c=0)(k:Int):numH sz (setAt g c k) ns=numH sz g ns+k*tailP sz ns (ns-1-c):=by
 have h:=numH_set sz g c k (ns-1-c)
 rw[show c+1+(ns-1-c)=ns by omega,h0,mulR_tail hc hs,Int.sub_zero] at h
 exact h
end Go.Proofs.Tryz.Run
