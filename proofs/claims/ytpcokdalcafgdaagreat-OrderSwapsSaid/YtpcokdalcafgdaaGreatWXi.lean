/- The program's Of: the strides. The program's Of. The reference's number of a place. Conditions: none. -/
import Derived.Test.YtpcokdalcafgdaaGreatWLq
import Derived.Test.YtpcokdalcafgdaaGreatWNa
import Derived.Test.YtpcokdalcafgdaaGreatWNc
import Derived.Test.YtpcokdalcafgdaaGreatWLh
import Derived.Test.YtpcokdalcafgdaaGreatWNb
import Derived.Test.YtpcokdalcafgdaaGreatWOh
import Derived.Test.YtpcokdalcafgdaaGreatWPm0
import Derived.Test.YtpcokdalcafgdaaGreatWQd
import Derived.Test.YtpcokdalcafgdaaGreatWQf
import Derived.Test.YtpcokdalcafgdaaGreatWQh
import Derived.Test.YtpcokdalcafgdaaGreatWSd
import Derived.Test.YtpcokdalcafgdaaGreatWSg
import Derived.Test.YtpcokdalcafgdaaGreatWSi
import Derived.Test.YtpcokdalcafgdaaGreatWSq
import Derived.Test.YtpcokdalcafgdaaGreatWSv
import Derived.Test.YtpcokdalcafgdaaGreatWUf
import Derived.Test.YtpcokdalcafgdaaGreatWUi
import Derived.Test.YtpcokdalcafgdaaGreatWXf
set_option linter.unusedSimpArgs false
set_option linter.unusedVariables false
set_option maxHeartbeats 0
set_option maxRecDepth 100000
namespace Go.Proofs.Tryz.Run
open Go Go.Vf Go.Proofs
open Go.Proofs.YtpcokdalcafgdaaGreat
theorem e5n {ns:Nat}(sz:Nat->Int):a0g Tryz.prog 134 [isl ns sz] [] (fun pg v h'=>pg=[]/\v= .fn 168 [] [.ptr 0 0]/\h'=[.var [isl ns sz]]):=by
 refine a1b Tryz.mixed okP f0m rfl fun E Sg hb hS F hF=> ?_
 cbv
 exact⟨[],by simp,hF (.cons (.refl _) (.nil _)) (a0b.refl _) (by simp) (.inr rfl) ⟨rfl,rfl,rfl⟩⟩
def rgH (o0 o1 o2 o3 o4 o5 o6 o7 o8 B o10 D b o13:a0i):List a0i:=[o0,o1,o2,o3,o4,o5,o6,o7,o8,B,o10,D,b,o13]
theorem e7c {ns:Nat}(hns:ns<=1000000)(sz:Nat->Int)(J:Nat->Nat)(hJ: ∀p,p<ns->J p=ns-1-p)(o0 o1 o2 o3 o4 o5 o6 o7 o8 o10 o13:a0i)(B D:Nat->a0i)
 (hY: ∀p,p<ns->a5s Tryz.prog 13 [int (J p),int (sz (J p))] (rgH o0 o1 o2 o3 o4 o5 o6 o7 o8 (B p) o10 (D p) (.var [isl ns sz]) o13) (fun pg v h'=>pg=[]/\v= .d (.bool true)/\h'=rgH o0 o1 o2 o3 o4 o5 o6 o7 o8 (B (p+1)) o10 (D (p+1)) (.var [isl ns sz]) o13)):
 a0g Tryz.prog 168 [.yl 13,.ptr 12 0] (rgH o0 o1 o2 o3 o4 o5 o6 o7 o8 (B 0) o10 (D 0) (.var [isl ns sz]) o13) (fun pg v h'=>pg=[]/\h'=rgH o0 o1 o2 o3 o4 o5 o6 o7 o8 (B ns) o10 (D ns) (.var [isl ns sz]) o13):=by
 obtain⟨K,hK⟩: ∃K:Nat->Int,∀p,K p=(ns:Int)-1-p:=⟨_,fun _=>rfl⟩
 have hK1: ∀p,p<ns->K p=J p:=fun p hp=>by rw[hK,hJ p hp];omega
 have hKp: ∀p,p<=ns->0<=K p->p<ns:=fun p hp h=>by rw[hK] at h;omega
 have hKn: ∀p,p<=ns->K p<0->p=ns:=fun p hp h=>by rw[hK] at h;omega
 have hK2: ∀p,K (p+1)=K p-1:=fun p=>by rw[hK,hK];omega
 have hK0:K 0=(ns:Int)-1:=by rw[hK];omega
 refine a1b Tryz.mixed okP f0g rfl fun E Sg hb hS F hF=> ?_
 simp only[rgH,List.length_cons,List.length_nil] at hb
 have e:=a5x hS
 cbv
 refine a0a hS (b3f hS (by simp only[e.ofNat,Int.ofNat_eq_natCast];show-9223372036854775808<=(ns:Int)-1/\(ns:Int)-1<=9223372036854775807;omega)) ?_
 refine a0y Tryz.mixed okP hS (fun p=>p<=ns) (fun p=>ns-p)
  (fun p=>⟨a2l [(0,.yl 13),(1,.ptr 12 0),(3,int (K p))] 19,rgH o0 o1 o2 o3 o4 o5 o6 o7 o8 (B p) o10 (D p) (.var [isl ns sz]) o13,[]⟩) 0 (by omega) ?_ ?_
 ·refine a0m rfl ⟨a0b.refl _,a0b.refl _,a1f ?_,trivial⟩ (a2f.same _) (by simp[rgH];omega) (.inr rfl) rfl
  simp only[e.isub,e.ofNat,hK0,IX.val,Int.ofNat_eq_natCast]
  rfl
 ·intro p hp N hN
  cbv
  split
  ·rename_i h
   have hlt:p<ns:=hKp p hp (f6u hS h)
   have hj:=hK1 p hlt
   have hjn:J p<ns:=by rw[hJ p hlt];omega
   have hyp:=hY p hlt
   cbv
   simp only[nat,e.toNat,hj,Int.toNat_natCast]
   refine a0a hS (a1d hS hjn) ?_
   refine e6g hS hyp ?_
   rintro pg v H' ⟨rfl,rfl,rfl⟩
   cbv
   refine a0a hS (b3f hS (show-9223372036854775808<=(J p:Int)-1/\(J p:Int)-1<=9223372036854775807 by omega)) ?_
   exact hN (p+1) _ hlt (by omega) (a0m rfl ⟨a0b.refl _,a0b.refl _,a1f (by simp only[e.isub,hK2,hj,Int.ofNat_eq_natCast];rfl),trivial⟩ (a2f.same _) (by simp[rgH];omega) (.inr rfl) rfl)
  ·rename_i h
   have hpn:p=ns:=hKn p hp (f5e hS h)
   subst hpn
   cbv
   exact⟨[],by simp,hF (a2f.same _) (a0b.refl _) (by simp[rgH]) (.inr rfl) ⟨rfl,rfl⟩⟩
def a2s (sz:Nat->Int)(ns:Nat):Nat->Int
 |0=>1
 |p+1=>a2s sz ns p*sz (ns-1-p)
theorem a6m (sz:Nat->Int)(ns:Nat): ∀p,p<=ns->prod sz (ns-p)*a2s sz ns p=prod sz ns
 |0,_=>by simp[a2s]
 |p+1,h=>by
  have ih:=a6m sz ns p (by omega)
  obtain⟨q,hq⟩: ∃q,ns-p=q+1:=⟨ns-p-1,by omega⟩
  rw[hq,prod] at ih
  rw[a2s,show ns-(p+1)=q by omega,show ns-1-p=q by omega,<-ih,Int.mul_assoc,Int.mul_comm (a2s sz ns p)]
theorem b4b {sz:Nat->Int}{ns:Nat}(hs: ∀i,i<ns->1<=sz i/\sz i<=12)(hp:prod sz ns<=2000): ∀p,p<=ns->1<=a2s sz ns p/\a2s sz ns p<=2000:=fun p hpn=>by
 have h1: ∀p,p<=ns->1<=a2s sz ns p:=fun p=>by
  induction p with
  |zero=>intro _;simp[a2s]
  |succ p ih=>
   intro h
   have:=ih (by omega)
   have h2:=(hs (ns-1-p) (by omega)).1
   rw[a2s]
   exact Int.le_trans (by decide) (Int.mul_le_mul this h2 (by decide) (by omega))
 refine⟨h1 p hpn,?_⟩
 have h2:=a6m sz ns p hpn
 have h3:=a4m (g:=sz) (n:=ns-p) fun i hi=>(hs i (by omega)).1
 have h4:1*a2s sz ns p<=prod sz (ns-p)*a2s sz ns p:=Int.mul_le_mul_of_nonneg_right h3 (by have:=h1 p hpn;omega)
 omega
def i95:a2d×a2d:=match c95 with| .seq _ (.seq _ (.seq _ (.seq _ (.seq (.seq _ (.block _ (.range _ _ a b))) _))))=>(a,b)|_=>(.ret,.ret)
def f9b:a0i:= .loop .ready (a2l [(3,.ptr 0 0),(4,.ptr 1 0),(5,.ptr 2 0),(6,.ptr 3 0),(9,.ptr 8 0),(10,.ptr 10 0),(11,.ptr 11 0)] 61) [31,32] (fun ca cb=>comp Tryz.prog x95.A ca=some i95.1/\comp Tryz.prog x95.A cb=some i95.2)
def e0b (o:OfR)(s:Law.Mk)(t:Int):DiR:=
 ⟨o.ns,o.sz,o.no,o.od,s.oe.length,fun i=>s.oe.getD i ⟨0,0⟩,s.on.length,fun i=>(s.on.getD i ⟨0,[]⟩).var,fun i=>(s.on.getD i ⟨0,[]⟩).kids.length,fun i j=>(s.on.getD i ⟨0,[]⟩).kids.getD j 0,t⟩
def ogH (o:OfR)(B:Nat->Int)(l1 l2:AV)(T:Int)(X:a0i):List a0i:=
 [.var [isl o.ns o.sz],.var [isl o.no o.od],.var [vsl o.T o.C],.var [.d .nil,.d .nil,.d .nil,.d .nil,int 0],.var [.any,.any],.map true [.u8,.i64] 0 (fun _=>none),.map true d1q 0 (fun _=>none),
   .var [isl o.ns o.sz,isl o.no o.od,isl o.ns o.sz,isl o.no o.od,l1,l2,int 0,.map 5,.map 6],.var [.ptr 7 0],arrI o.ns B,.var [.msl 9 1 none o.ns false],.var [int T],.var [isl o.ns o.sz],X,.var [.fn 137 [] [.ptr 1 0,.ptr 8 0,.ptr 2 0,.ptr 0 0,.ptr 14 0,.ptr 10 0]]]
def ogA:List AV:=[int 0,int 0,.ptr 1 0,.ptr 8 0,.ptr 2 0,.ptr 0 0,.ptr 14 0,.ptr 10 0]
def gst:a0i:= .arr 2 0 fun _=>[]
theorem c9b {l sz:Nat}(c:List a0i): ∀{a b:List a0i},Vf.nilH l sz a b->Vf.nilH l sz (a++c) (b++c)
 |[],[],_=>a5q _ _ _
 |_::_,_::_,⟨h,t⟩=>⟨h,c9b c t⟩
 |[],_::_,h=>by simp[Vf.nilH] at h
 |_::_,[],h=>by simp[Vf.nilH] at h
theorem f4b (o:OfR)(B:Nat->Int)(hB: ∀i,i<o.ns->B i=o.str i)(T:Int)(X:a0i)(s:Law.Mk)(t:Int)
 (hrec:a0g Tryz.prog 137 (ofA 0 0) (ofH o 0 0 (fun _=>none) (fun _=>none) (fun _=>[]) (fun _=>[])) (ofK o s t)):
 a0g Tryz.prog 137 ogA (ogH o B (.d .nil) (.d .nil) T X) (fun pg v h'=> ∃pg1,c8w (ogH o B (.msl 15 2 none 0 false) (.msl 16 2 none 0 false) T X++[gst,gst]) [7,5,6,15,16,1,8,2,0,14,10,9] (ofK o s t) pg1 v h'/\pg=pg1.filter fun l=>decide (l<15)):=by
 have hfr:=a0g.frame (args':=ogA) hrec (H:=ogH o B (.msl 15 2 none 0 false) (.msl 16 2 none 0 false) T X++[gst,gst]) [7,5,6,15,16,1,8,2,0,14,10,9] rfl rfl
  (show _/\_ from⟨a0f.refl _,a0f.refl _,a0f.refl _,a0f.refl _,a0f.refl _,a0f.refl _,a0f.refl _,a0f.refl _,a0f.refl _,a0f.refl _,a0f.refl _,a0f.arrI rfl fun i hi=>by rw[hB i hi],trivial⟩)
 have sm: ∀l,d0j l 2 ogA ogA:=fun l=>b1b _ _ _
 have h2:=a0g.nilH (h:=ogH o B (.msl 15 2 none 0 false) (.d .nil) T X++[gst]) (h2:=ogH o B (.msl 15 2 none 0 false) (.msl 16 2 none 0 false) T X++[gst]) 2 (fun _=>[]) hfr (sm _)
  (c9b (a:=ogH o B (.msl 15 2 none 0 false) (.d .nil) T X) (b:=ogH o B (.msl 15 2 none 0 false) (.msl 16 2 none 0 false) T X) _ ⟨.inl rfl,.inl rfl,.inl rfl,.inl rfl,.inl rfl,.inl rfl,.inl rfl,.inr ⟨_,_,rfl,rfl,.inl rfl,.inl rfl,.inl rfl,.inl rfl,.inl rfl,.inr ⟨rfl,rfl⟩,.inl rfl,.inl rfl,.inl rfl,trivial⟩,a5q _ _ _⟩)
 have h1:=a0g.nilH (h:=ogH o B (.d .nil) (.d .nil) T X) (h2:=ogH o B (.msl 15 2 none 0 false) (.d .nil) T X) 2 (fun _=>[]) h2 (sm _)
  ⟨.inl rfl,.inl rfl,.inl rfl,.inl rfl,.inl rfl,.inl rfl,.inl rfl,.inr ⟨_,_,rfl,rfl,.inl rfl,.inl rfl,.inl rfl,.inl rfl,.inr ⟨rfl,rfl⟩,.inl rfl,.inl rfl,.inl rfl,.inl rfl,trivial⟩,a5q _ _ _⟩
 exact h1.pgs
theorem of95 (o:OfR)(hfr:a2e o.ns o.no o.sz o.od=0)(hT:(o.T:Int)=prod o.sz o.ns)(hc: ∀i,i<o.T->(0<=(o.C i).fault/\(o.C i).fault<=4)/\ -9999<=(o.C i).n/\(o.C i).n<=9999)(hco: ∀i,i<o.T->a2c (o.C i))
 (hst: ∀i,i<o.ns->(o.str i:Int)=a2s o.sz o.ns (o.ns-1-i)) (s:Law.Mk) (t:Int)
 (hrec:a0g Tryz.prog 137 (ofA 0 0) (ofH o 0 0 (fun _=>none) (fun _=>none) (fun _=>[]) (fun _=>[])) (ofK o s t)):
 a0j Tryz.prog false 95 [isl o.ns o.sz,isl o.no o.od,vsl o.T o.C] (.tuple [(e0b o s t).av,int 0]):=by
 obtain⟨k1,k2,k3,k4,_⟩:=a1k hfr
 have h109:=a6v (n:=o.ns) (m:=o.no) (by omega) (by omega) o.sz o.od 0 hfr
 have hmk:=b5o (ns:=o.ns) (no:=o.no) (by omega) (by omega) o.sz o.od
 have h134:=e5n (ns:=o.ns) o.sz
 have h135:=c6z (n:=o.T) (by have:(o.T:Int)<=2000:=by rw[hT];exact k3
                             omega) o.C (fun i hi=>(hc i hi).1.1) true (by simpa using hco)
 have hbd:=b4b k2 k3
 have htot:a2s o.sz o.ns o.ns=o.T:=by have:=a6m o.sz o.ns o.ns (Nat.le_refl _);rw[Nat.sub_self,prod,Int.one_mul] at this;rw[this,hT]
 obtain⟨res,hres⟩: ∃res,res=(e0b o s t).av:=⟨_,rfl⟩
 rw[<-hres]
 obtain⟨P,hP0,hP1,hPe⟩: ∃P:Nat->Int,P 0=1/\(∀p,P (p+1)=P p*o.sz (o.ns-1-p))/\ ∀p,a2s o.sz o.ns p=P p:=⟨a2s o.sz o.ns,rfl,fun _=>rfl,fun _=>rfl⟩
 simp only[hPe] at hbd htot hst
 clear hPe hco hT hfr hc
 obtain⟨ns,sz,no,od,T,C,str⟩:=o
 simp only at h109 hmk h134 h135 hbd htot hst hP1 k1 k2 k4
 obtain⟨J,hJ⟩: ∃J:Nat->Nat,∀p,J p=ns-1-p:=⟨_,fun _=>rfl⟩
 simp only[<-hJ] at hP1
 obtain⟨B,hB⟩: ∃B:Nat->Nat->Int,∀p i,B p i=if ns-p<=i then P (ns-1-i) else 0:=⟨_,fun _ _=>rfl⟩
 refine a0d Tryz.mixed okP g3m _ rfl fun E Sg hb hS=> ?_
 have e:=a5x hS
 cbv
 refine a0e hS _ h109 ?_
 cbv
 simp only[e.ieq,e.bnot]
 cbv
 refine a1a hS (a0g.frame hmk [] rfl rfl trivial) ?_
 rintro pg v H' ⟨pg0,v0,h0,⟨rfl,rfl,rfl⟩,rfl,rfl,rfl⟩
 cbv
 refine a0a hS (b0e hS (by simp only[e.ofNat];exact Int.natCast_nonneg _)) (a0a hS (f4o hS (by omega)) ?_)
 refine a1a hS (a0g.frame h134 [] rfl rfl trivial) ?_
 rintro pg v H' ⟨pg0,v0,h0,⟨rfl,rfl,rfl⟩,rfl,rfl,rfl⟩
 cbv
 refine c5d hS rfl ?_
 have hr:=e7c (ns:=ns) (by omega) sz J (fun p _=>hJ p) (.var [isl ns sz]) (.var [isl no od]) (.var [vsl T C]) (.var [.d .nil,.d .nil,.d .nil,.d .nil,int 0]) (.var [.any,.any]) (.map true [.u8,.i64] 0 fun _=>none) (.map true d1q 0 fun _=>none)
  (.var [isl ns sz,isl no od,isl ns sz,isl no od,.d .nil,.d .nil,int 0,.map 5,.map 6]) (.var [.ptr 7 0]) (.var [.msl 9 1 none ns false]) f9b (fun p=>arrI ns (B p)) (fun p=> .var [int (P p)]) ?_
 ·refine a0g.mono ?_ (hr.heap (.cons (.refl _) (.cons (.refl _) (.cons (.refl _) (.cons (.var (.cons (a0b.refl _) (.cons (a0b.refl _) (.cons (a0b.refl _) (.cons (a0b.refl _) (.cons (a1m rfl) .nil)))))) (.cons (.refl _) (.cons (.refl _) (.cons (.refl _) (.cons (.refl _) (.cons (.refl _)
   (.cons ?_ (.cons ?_ (.cons (.var (.cons (a1m hP0.symm) .nil)) (.cons (.refl _) (.cons (a0f.loop ?_ fun a b h=>h) (.nil _))))))))))))))) rfl)
  ·rintro pg v H' ⟨rfl,rfl⟩
   cbv
   refine⟨fun h=>(nomatch h),_,_,_,_,rfl,?_⟩
   cbv
   simp only[e.ieq,e.bnot,e.ofNat,htot,BEq.rfl,Bool.not_true]
   cbv
   refine a0e hS _ h135 ?_
   cbv
   refine a1a hS (f4b ⟨ns,sz,no,od,T,C,str⟩ (B ns) (fun i hi=>by rw[hB,if_pos (by omega)];exact (hst i hi).symm) _ _ s t hrec) ?_
   rintro pg v H' ⟨pg1,⟨pg0,v0,h0,⟨rfl,q1,q2,f1,f2,e1,e2,w1,rfl,rfl⟩,rfl,rfl,rfl⟩,hpg⟩
   have hpg0:pg=[]:=hpg
   subst hpg0
   clear hpg
   cbv
   refine a0a hS (a6d hS) (a0a hS (b0h hS (Nat.le_refl _)) (a0a hS (b0h hS (Nat.le_refl _)) ?_))
   subst hres
   exact a1r.tuple (.cons (a1r.agg (.cons (a0b.refl _) (.cons (a0b.refl _) (.cons (c9d w1) (.cons (c1y w1) (.cons (a0b.refl _) .nil)))))) (.cons (a1m rfl) .nil))
  ·simp only[e.toNat,e.ofNat,Int.toNat_natCast]
   exact b8y hS fun j hj=>by rw[hB,if_neg (by omega)];exact .one (.int rfl)
  ·simp only[e.toNat,e.ofNat,Int.toNat_natCast]
   exact .refl _
  ·exact a5e rfl ⟨a0b.refl _,a0b.refl _,a0b.refl _,a0b.refl _,a0b.refl _,a0b.refl _,a0b.refl _,trivial⟩
 ·intro p hp
  have hjn:J p<ns:=by rw[hJ];omega
  have hb1:=hbd p (by omega)
  have hb2:=hbd (p+1) hp
  have hP:=hP1 p
  refine a5s.cut (a7l Tryz.mixed okP (A:=x95.A) rfl (fun _ _ h=>h) rfl fun ro E Sg hS=> ?_)
  have e:=a5x hS
  cbv
  refine⟨fun h=>(nomatch h),_,_,_,rfl,?_⟩
  cbv
  simp only[nat,e.toNat,Int.ofNat_eq_natCast,Int.toNat_natCast]
  refine a0a hS (a1d hS hjn) (a0a hS (c4n hS hjn) (a0a hS (f0j hS (by rw[<-hP];omega)) ?_))
  refine⟨fun h=>(nomatch h),_,_,_,rfl,[],fun m _ h=>h,?_⟩
  cbv
  refine⟨rgH _ _ _ _ _ _ _ _ _ (arrI ns (B (p+1))) _ (.var [int (P (p+1))]) _ f9b,.d (.bool true),.cons (.refl _) (.cons (.refl _) (.cons (.refl _) (.cons (.refl _) (.cons (.refl _) (.cons (.refl _) (.cons (.refl _) (.cons (.refl _) (.cons (.refl _)
   (.cons (b5v hS ?_ ?_) (.cons (.refl _) (.cons (.var (.cons (a1f ?_) .nil)) (.cons (.refl _) (.cons (a0f.loop (a5e rfl ⟨a0b.refl _,a0b.refl _,a0b.refl _,a0b.refl _,a0b.refl _,a0b.refl _,a0b.refl _,trivial⟩) fun a b h=>h) (.nil _)))))))))))))),a0b.refl _,by simp[rgH],.inr rfl,rfl,rfl,rfl⟩
  ·intro j hj hne
   rw[hJ] at hne
   rw[hB,hB]
   by_cases h:ns-p<=j
   ·rw[if_pos h,if_pos (by omega)];exact .refl _
   ·rw[if_neg h,if_neg (by omega)];exact .refl _
  ·intro _
   rw[hB,hJ,if_pos (by omega),show ns-1-(ns-1-p)=p by omega]
   exact .refl _
  ·simp only[e.imul];exact hP.symm
def b0g (sz g:Nat->Int):Nat->Int
 |0=>0
 |i+1=>b0g sz g i*sz i+g i
theorem c4h {sz:Nat->Int}{n:Nat}(hs: ∀i,i<n->1<=sz i): ∀m,m<=n->prod sz m<=prod sz n:=fun m hm=>by
 induction n with
 |zero=>rw[show m=0 by omega];exact Int.le_refl _
 |succ n ih=>
  by_cases e:m=n+1
  ·rw[e];exact Int.le_refl _
  ·have h1:=ih (fun i hi=>hs i (by omega)) (by omega)
   have h2:=a4m (g:=sz) (n:=n) fun i hi=>hs i (by omega)
   have h3:=hs n (by omega)
   rw[prod]
   refine Int.le_trans h1 ?_
   have:=Int.mul_le_mul_of_nonneg_left h3 (show 0<=prod sz n by omega)
   omega
theorem d4o {sz g:Nat->Int}{n:Nat}(hg: ∀i,i<n->0<=g i/\g i<sz i): ∀m,m<=n->0<=b0g sz g m/\b0g sz g m<prod sz m
 |0,_=>by simp[b0g,prod]
 |m+1,h=>by
  have ih:=d4o hg m (by omega)
  have hm:=hg m (by omega)
  rw[b0g,prod]
  have h1:0<=b0g sz g m*sz m:=Int.mul_nonneg ih.1 (by omega)
  have h2:(b0g sz g m+1)*sz m<=prod sz m*sz m:=Int.mul_le_mul_of_nonneg_right (by omega) (by omega)
  rw[Int.add_mul,Int.one_mul] at h2
  omega
theorem d6x {ns:Nat}(hns:ns<=1000000)(sz g:Nat->Int)(hs: ∀i,i<ns->1<=sz i/\sz i<=12)(hp:prod sz ns<=2000)(hg: ∀i,i<ns->0<=g i/\g i<sz i)(r:Int)(hr:b0g sz g ns=r):a0j Tryz.prog true 112 [isl ns sz,isl ns g] (int r):=by
 have hb:=d4o hg
 have hpm:=c4h (sz:=sz) (n:=ns) fun i hi=>(hs i hi).1
 obtain⟨N0,hN0,hN1,hN2⟩: ∃N:Nat->Int,N 0=0/\(∀i,N (i+1)=N i*sz i+g i)/\ ∀i,b0g sz g i=N i:=⟨b0g sz g,rfl,fun _=>rfl,fun _=>rfl⟩
 simp only[hN2] at hb hr
 have hbb: ∀i,i<=ns->0<=N0 i/\N0 i<2000:=fun i hi=>⟨(hb i hi).1,by have:=(hb i hi).2;have:=hpm i hi;omega⟩
 clear hb hpm hN2
 refine a1y (a0d Tryz.mixed okP f0y _ rfl fun E Sg hbs hS=> ?_)
 have e:=a5x hS
 cbv
 refine a0y Tryz.mixed okP hS (fun i=>i<=ns) (fun i=>ns-i)
  (fun i=>⟨a2l [(0,isl ns sz),(1,isl ns g),(5,int (N0 i)),(6,int i)] 25,[],[]⟩) 0 (by omega) ?_ ?_
 ·exact a0m rfl ⟨a0b.refl _,a0b.refl _,a1m hN0.symm,a1m rfl,trivial⟩ (.nil _) (by omega) (.inr rfl) rfl
 ·intro i hi N hN
  have h1:=hbb i hi
  cbv
  split
  ·rename_i h
   have hlt:i<ns:=c3a hS h
   have h2:=hbb (i+1) hlt
   have h3:=hs i hlt
   have h4:=hg i hlt
   have h5:=hN1 i
   have h6:0<=N0 i*sz i:=Int.mul_nonneg h1.1 (by omega)
   have h7:N0 i*sz i<=2000*sz i:=Int.mul_le_mul_of_nonneg_right (by omega) (by omega)
   cbv
   simp only[nat,e.toNat,e.imul,Int.ofNat_eq_natCast,Int.toNat_natCast]
   refine a0a hS (a1d hS hlt) (a0a hS (a1d hS hlt) (a0a hS (a9w hS (by omega)) (a0a hS (d3d hS (by omega)) (a0a hS (a4t hS (by omega)) ?_))))
   exact hN (i+1) _ hlt (by omega) (a0m rfl ⟨a0b.refl _,a0b.refl _,a1f (by simp only[e.iadd];exact h5.symm),a5c hS,trivial⟩ (.nil _) (by omega) (.inr rfl) rfl)
  ·rename_i h
   have hin:i=ns:=by have:=d4h hS h;omega
   subst hin
   cbv
   exact a1f hr
def e3j (sz:Nat->Int)(c:Nat):Nat->Int
 |0=>1
 |m+1=>e3j sz c m*sz (c+1+m)
theorem c1p (sz:Nat->Int)(c:Nat): ∀m,prod sz (c+1)*e3j sz c m=prod sz (c+1+m)
 |0=>by simp[e3j]
 |m+1=>by rw[e3j,<-Int.mul_assoc,c1p sz c m];rfl
theorem b7e {sz g h:Nat->Int}: ∀{m},(∀i,i<m->g i=h i)->b0g sz g m=b0g sz h m
 |0,_=>rfl
 |m+1,e=>by rw[b0g,b0g,b7e fun i hi=>e i (by omega),e m (by omega)]
theorem c8b (sz g:Nat->Int)(c:Nat)(k:Int): ∀m,b0g sz (a0r g c k) (c+1+m)=b0g sz g (c+1+m)+(k-g c)*e3j sz c m
 |0=>by
  show b0g sz (a0r g c k) (c+1)=b0g sz g (c+1)+(k-g c)*1
  rw[b0g,b0g,b7e (h:=g) fun i hi=>by simp only[a0r,if_neg (show¬i=c by omega)]]
  simp only[a0r,if_pos]
  omega
 |m+1=>by
  show b0g sz (a0r g c k) (c+1+m+1)=b0g sz g (c+1+m+1)+(k-g c)*e3j sz c (m+1)
  rw[b0g,b0g,c8b sz g c k m,e3j]
  simp only[a0r,if_neg (show¬c+1+m=c by omega)]
  rw[Int.add_mul,Int.mul_assoc]
  omega
theorem d7i {sz:Nat->Int}{ns c:Nat}(hc:c<ns)(hs: ∀i,i<ns->1<=sz i):e3j sz c (ns-1-c)=a2s sz ns (ns-1-c):=by
 have h1:=c1p sz c (ns-1-c)
 have h2:=a6m sz ns (ns-1-c) (by omega)
 rw[show c+1+(ns-1-c)=ns by omega] at h1
 rw[show ns-(ns-1-c)=c+1 by omega,<-h1] at h2
 have h3:=a4m (g:=sz) (n:=c+1) fun i hi=>hs i (by omega)
 exact (Int.eq_of_mul_eq_mul_left (by omega) h2).symm
theorem d9d {sz:Nat->Int}{ns c:Nat}(hc:c<ns)(hs: ∀i,i<ns->1<=sz i)(g:Nat->Int)(h0:g c=0)(k:Int):b0g sz (a0r g c k) ns=b0g sz g ns+k*a2s sz ns (ns-1-c):=by
 have h:=c8b sz g c k (ns-1-c)
 rw[show c+1+(ns-1-c)=ns by omega,h0,d7i hc hs,Int.sub_zero] at h
 exact h
end Go.Proofs.Tryz.Run
