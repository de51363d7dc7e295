/- The reference's part: the recursion. The reference's part: a choice. Conditions: none. -/
import Derived.Test.YtpcokdalcafgdaaGreatWLq
import Derived.Test.YtpcokdalcafgdaaGreatWNa
import Derived.Test.YtpcokdalcafgdaaGreatWNc
import Derived.Test.YtpcokdalcafgdaaGreatWLh
import Derived.Test.YtpcokdalcafgdaaGreatWNb
import Derived.Test.YtpcokdalcafgdaaGreatWOh
import Derived.Test.YtpcokdalcafgdaaGreatWPm0
import Derived.Test.YtpcokdalcafgdaaGreatWQd
import Derived.Test.YtpcokdalcafgdaaGreatWQf
import Derived.Test.YtpcokdalcafgdaaGreatWQh
import Derived.Test.YtpcokdalcafgdaaGreatWSd
import Derived.Test.YtpcokdalcafgdaaGreatWSn
import Derived.Test.YtpcokdalcafgdaaGreatWSv
import Derived.Test.YtpcokdalcafgdaaGreatWUf
import Derived.Test.YtpcokdalcafgdaaGreatWUi
import Derived.Test.YtpcokdalcafgdaaGreatWXf
import Derived.Test.YtpcokdalcafgdaaGreatWXi
set_option linter.unusedSimpArgs false
set_option linter.unusedVariables false
set_option maxHeartbeats 0
set_option maxRecDepth 100000
namespace Go.Proofs.Tryz.Run
open Go Go.Vf Go.Proofs
open Go.Proofs.YtpcokdalcafgdaaGreat
structure PtR where
 qe:Nat
 ef:Nat->Int
 en:Nat->Int
 qn:Nat
 av:Nat->Int
 an:Nat->Nat
 ak:Nat->Nat->Int
structure PtR.is (p:PtR)(s:Law.Mk):Prop where
 oe:veL p.qe p.ef p.en=s.oe
 on:ndL p.qn p.av p.an p.ak=s.on
 an: ∀j,j<p.qn->p.an j<=12
theorem PtR.is.qe {p:PtR}{s:Law.Mk}(h:p.is s):p.qe=s.oe.length:=by rw[<-h.oe,veL,a0k]
theorem PtR.is.qn {p:PtR}{s:Law.Mk}(h:p.is s):p.qn=s.on.length:=by rw[<-h.on,ndL,a0k]
def PtR.av1 (p:PtR)(o:OfR)(root:Int):AV:= .agg [isl o.ns o.sz,isl o.no o.od,.msl 0 2 none p.qe false,.msl 1 2 none p.qn false,int root]
def PtR.h (p:PtR):List a0i:=[arV p.qe p.ef p.en,arB p.qn p.av p.an p.ak]
def ptK (o:OfR)(g:Nat->Int)(root:Int)(s:Law.Mk)(t:Int)(pg:List Nat)(v:AV)(h':List a0i):Prop:=
 pg=[0,1]/\ ∃p:PtR,p.is s/\v= .tuple [p.av1 o root,int t]/\h'=p.h++[arrI o.ns g]
def ptA (o:OfR)(p:PtR)(root:Int)(r:Nat):List AV:=[p.av1 o root,vsl o.T o.C,int r,.msl 2 1 none o.ns false]
theorem e7m (o:OfR)(ho:o.ok)(hp:prod o.sz o.ns<=2000)(g:Nat->Int)(hg: ∀i,i<o.ns->0<=g i/\g i<o.sz i)(num:Nat)(hnum:b0g o.sz g o.ns=num)(hnT:num<o.T)(root:Int)(s:Law.Mk)(p:PtR)(hps:p.is s)(hb:s.oe.length<=1000000):
 a0g Tryz.prog 81 (ptA o p root o.no) (p.h++[arrI o.ns g]) (ptK o g root (Law.mkEnd s (o.C num)).1 (Law.mkEnd s (o.C num)).2):=by
 have h112:=d6x (ns:=o.ns) (by have:=ho.ns;omega) o.sz g ho.sz hp hg num hnum
 have hqe:=hps.qe
 have hoe:=hps.oe
 have hon:=hps.on
 have han:=hps.an
 obtain⟨cf,cn,hcc⟩: ∃cf cn,o.C num=⟨cf,cn⟩:=⟨_,_,rfl⟩
 obtain⟨Cf,Cn,hC⟩: ∃Cf Cn:Nat->Int,o.C=fun i=>⟨Cf i,Cn i⟩:=⟨fun i=>(o.C i).fault,fun i=>(o.C i).n,rfl⟩
 have hval:(Law.mkEnd s (o.C num)).2= -1-(Law.at1 s.oe (o.C num):Int):=rfl
 rw[hval,hcc]
 obtain⟨R,hR⟩: ∃R,Law.at1 s.oe (⟨cf,cn⟩:VaR)=R:=⟨_,rfl⟩
 have hRf: ∀m,m<p.qe->(p.ef m=cf/\p.en m=cn)->(∀q,q<m-> ¬(p.ef q=cf/\p.en q=cn))->R=m:=fun m hm h hq=>by
  rw[<-hR,<-hoe]
  exact c2c hm (by rw[h.1,h.2]) fun q hq' e=>hq q hq' (by injection e with a b;exact⟨a,b⟩)
 have hRn:(∀q,q<p.qe-> ¬(p.ef q=cf/\p.en q=cn))->(⟨cf,cn⟩:VaR)∉s.oe/\R=p.qe:=fun hq=>by
  rw[<-hR,<-hoe]
  exact c9m fun q hq' e=>hq q hq' (by injection e with a b;exact⟨a,b⟩)
 have hmk:(Law.mkEnd s ⟨cf,cn⟩).1={s with oe:=Law.onceE s.oe ⟨cf,cn⟩}:=rfl
 rw[hmk,hR]
 obtain⟨ns,sz,no,od,T,C,str⟩:=o
 obtain⟨qe,ef,en,qn,av,an,ak⟩:=p
 simp only at h112 hqe hoe hon han hC hcc hRf hRn hnT
 subst hC
 simp only[VaR.mk.injEq] at hcc
 obtain⟨hcc1,hcc2⟩:=hcc
 clear hval hmk hps
 refine a1b Tryz.mixed okP f7b rfl fun E Sg hb0 hS F hF=> ?_
 simp only[PtR.h,List.length_cons,List.length_nil,List.length_append] at hb0
 have e:=a5x hS
 cbv
 simp only[f1f hS rfl]
 cbv
 refine a0a hS (b0h hS (Nat.le_refl _)) ?_
 refine a0e hS _ h112 ?_
 cbv
 simp only[nat,e.toNat,Int.ofNat_eq_natCast,Int.toNat_natCast,hcc1,hcc2]
 refine a0a hS (a1d hS hnT) ?_
 have hqb:qe<=1000000:=by omega
 refine a0y Tryz.mixed okP hS (fun m=>m<=qe/\ ∀q,q<m-> ¬(ef q=cf/\en q=cn)) (fun m=>qe-m)
  (fun m=>⟨a2l [(4,.ptr 3 0),(8,.ptr 4 0),(10,.ptr 5 0),(11,int m)] 142,[arV qe ef en,arB qn av an ak,arrI ns g,.var [isl ns sz,isl no od,.msl 0 2 none qe false,.msl 1 2 none qn false,int root],.var [.d .nil,.d .nil,.d .nil,.d .nil,int 0],.var [u8 cf,int cn]],[]⟩) 0 ⟨by omega,by omega⟩ ?_ ?_
 ·exact a0m rfl ⟨a0b.refl _,a0b.refl _,a0b.refl _,a1m rfl,trivial⟩ (.cons (.refl _) (.cons (.refl _) (.cons (.refl _) (.cons (.refl _) (.cons (.var (.cons (a0b.refl _) (.cons (a0b.refl _) (.cons (a0b.refl _) (.cons (a0b.refl _) (.cons (a1m rfl) .nil)))))) (.cons (.refl _) (.nil _))))))) (by simp;omega) (.inr rfl) rfl
 ·intro m hm N hN
  cbv
  split
  ·rename_i h
   have hmq:m<qe:=c3a hS h
   cbv
   simp only[nat,e.toNat,Int.ofNat_eq_natCast,Int.toNat_natCast]
   refine a0a hS (a1d hS hmq) (a0a hS (c4n hS hmq) ?_)
   split
   ·rename_i h
    have he:ef m=cf/\en m=cn:=by simp only[e.band,e.ieq,Bool.and_eq_true,beq_iff_eq] at h;exact⟨h.1,h.2.1⟩
    have hRm:=hRf m hmq he hm.2
    have hmem:=at1_mem (show Law.at1 s.oe (⟨cf,cn⟩:VaR)<s.oe.length by omega)
    rw[Law.onceE_mem hmem] at hF
    cbv
    refine a0a hS (b3f hS (by show-9223372036854775808<= -1-(m:Int)/\ -1-(m:Int)<=9223372036854775807;omega)) ?_
    exact⟨[0,1],fun l h1 h2=>(nomatch h2),hF (h1:=[arV qe ef en,arB qn av an ak,arrI ns g]) (.cons (.refl _) (.cons (.refl _) (.cons (.refl _) (.nil _)))) (a1r.tuple (.cons (a0b.refl _) (.cons (a1f (b:= -1-(R:Int)) (by rw[hRm];exact e.isub _ _)) .nil))) (by simp[PtR.h]) (.inl ⟨rfl,rfl⟩)
     ⟨rfl,⟨qe,ef,en,qn,av,an,ak⟩,⟨hoe,hon,han⟩,rfl,rfl⟩⟩
   ·rename_i h
    have he: ¬(ef m=cf/\en m=cn):=fun he=>by simp only[e.band,e.ieq,he.1,he.2,BEq.rfl,Bool.and_true] at h;cases h
    cbv
    refine a0a hS (a4t hS (by omega)) ?_
    refine hN (m+1) _ ⟨by omega,fun q hq=> ?_⟩ (by omega) (a0m rfl ⟨a0b.refl _,a0b.refl _,a0b.refl _,a5c hS,trivial⟩ (a2f.same _) (by simp;omega) (.inr rfl) rfl)
    by_cases e:q=m
    ·rw[e];exact he
    ·exact hm.2 q (by omega)
  ·rename_i h
   have hmq:m=qe:=by have:=d4h hS h;omega
   cbv
   obtain⟨hnm,hRq⟩:=hRn (by rw[<-hmq];exact hm.2)
   rw[Law.onceE_not hnm] at hF
   refine a0a hS trivial (a0a hS (b6u hS (by omega)) (a0a hS (b3f hS (by simp only[e.ofNat,e.nadd];omega)) (a0a hS (a6d hS) ?_)))
   refine⟨[0,1],fun l h1 h2=>by simp at h2⊢;omega,hF (h1:=[arV (qe+1) (fun j=>if j<qe then ef j else cf) (fun j=>if j<qe then en j else cn),arB qn av an ak,arrI ns g]) (.cons (a7j hS ?_ ?_) (.cons (.refl _) (.cons (.refl _) (.nil _))))
    (a1r.tuple (.cons (a1r.agg (.cons (a0b.refl _) (.cons (a0b.refl _) (.cons (a6e hS) (.cons (a0b.refl _) (.cons (a0b.refl _) .nil)))))) (.cons (a1f (b:= -1-(R:Int)) (by simp only[e.isub,e.ofNat,e.nadd,hRq];omega)) .nil))) (by simp[PtR.h]) (.inl ⟨rfl,rfl⟩)
    ⟨rfl,⟨qe+1,fun j=>if j<qe then ef j else cf,fun j=>if j<qe then en j else cn,qn,av,an,ak⟩,⟨?_,hon,han⟩,rfl,rfl⟩⟩
   ·intro j hj;simp only[if_pos hj];exact .refl _
   ·simp only[if_neg (Nat.lt_irrefl qe)];exact .refl _
   ·simp only
    rw[<-hoe]
    unfold veL
    rw[a7n]
    simp only[if_neg (Nat.lt_irrefl qe)]
    exact congrArg (· ++[_]) (a3i fun j hj=>by rw[if_pos hj,if_pos hj])
structure OfR.full (o:OfR):Prop where
 ok:o.ok
 fr:a2e o.ns o.no o.sz o.od=0
 str: ∀i,i<o.ns->(o.str i:Int)=a2s o.sz o.ns (o.ns-1-i)
theorem f3u (o:OfR)(ho:o.full)(root:Int): ∀(m r num:Nat) (g:Nat->Int) (s:Law.Mk) (p:PtR),r+m=o.no->num+a9b o.sN o.oN o.str m r<o.T->(∀i,i<o.ns->0<=g i/\g i<o.sz i)->(∀i,r<=i->i<o.no->g (o.od i).toNat=0)->b0g o.sz g o.ns=num->
 p.is s->s.oe.length+a2m o.sN o.oN m r<=900000->s.on.length+a2g o.sN o.oN m r<=900000->
 a0g Tryz.prog 81 (ptA o p root r) (p.h++[arrI o.ns g]) (ptK o g root (ofW o.C o.sN o.oN o.str m r num s).1 (ofW o.C o.sN o.oN o.str m r num s).2):=by
 obtain⟨hpr,hord⟩:prod o.sz o.ns<=2000/\a1u o.ns o.no o.od:=(a1k ho.fr).2.2
 intro m
 induction m with
 |zero=>
  intro r num g s p hr hn hg hg0 hnum hps h1 h2
  obtain rfl:r=o.no:=by omega
  exact e7m o ho.ok hpr g hg num hnum (by simpa [a9b] using hn) root s p hps (by omega)
 |succ m ih=>
  intro r num g s p hr hn hg hg0 hnum hps h1 h2
  have hr1:r<o.no:=by omega
  obtain⟨hod1,hod2⟩:=ho.ok.od r hr1
  obtain⟨c,hc⟩: ∃c:Nat,o.od r=c:=⟨(o.od r).toNat,by omega⟩
  have hcn:o.oN r=c:=by rw[OfR.oN,hc,Int.toNat_natCast]
  have hcns:c<o.ns:=by omega
  obtain⟨hsz1,hsz2⟩:=ho.ok.sz c hcns
  obtain⟨w,hw⟩: ∃w:Nat,o.sz c=w:=⟨(o.sz c).toNat,by omega⟩
  have hwn:o.sN c=w:=by rw[OfR.sN,hw,Int.toNat_natCast]
  have hw12:1<=w/\w<=12:=by omega
  obtain⟨stc,hst⟩: ∃x,o.str c=x:=⟨_,rfl⟩
  have hgc:g c=0:=by have:=hg0 r (by omega) hr1;rwa [hc,Int.toNat_natCast] at this
  have hss: ∀i,r+1<=i->i<r+1+m->1<=o.sN (o.oN i):=fun i a b=>by
   obtain⟨d1,d2⟩:=ho.ok.od i (by omega)
   have:=(ho.ok.sz (o.oN i) (by unfold OfR.oN;omega)).1
   unfold OfR.sN;omega
  rw[a9b,hcn,hwn,hst] at hn
  rw[a2m,hcn,hwn] at h1
  rw[a2g,hcn,hwn] at h2
  obtain⟨G,hG⟩: ∃G:Nat->Law.Mk->Law.Mk×Int,∀k t,ofW o.C o.sN o.oN o.str m (r+1) (num+k*stc) t=G k t:=⟨_,fun _ _=>rfl⟩
  have hGr: ∀k t,d6e t (G k t).1 (a2m o.sN o.oN m (r+1)) (a2g o.sN o.oN m (r+1))/\okN (G k t).1 (G k t).2:=fun k t=>by rw[<-hG];exact b0k m (r+1) _ t hss
  have hF:ofW o.C o.sN o.oN o.str (m+1) r num s=Law.mkNode (a1t G w s).1 ⟨(c:Int),L w (a1t G w s).2⟩:=by
   rw[ofW,hcn,hwn,hst]
   simp only[hG]
  rw[hF]
  clear hF
  have hcall: ∀k,k<w-> ∀(t:Law.Mk) (p:PtR),p.is t->t.oe.length+a2m o.sN o.oN m (r+1)<=900000->t.on.length+a2g o.sN o.oN m (r+1)<=900000->
   a0g Tryz.prog 81 (ptA o p root (r+1)) (p.h++[arrI o.ns (a0r g c k)]) (ptK o (a0r g c k) root (G k t).1 (G k t).2):=fun k hk t p hp a b=>by
   rw[<-hG]
   refine ih (r+1) (num+k*stc) (a0r g c k) t p (by omega) ?_ (fun i hi=> ?_) (fun i hi1 hi2=> ?_) ?_ hp a b
   ·have:k*stc<=(w-1)*stc:=Nat.mul_le_mul_right _ (by omega)
    omega
   ·simp only[a0r]
    split
    ·rename_i e;subst e;omega
    ·exact hg i hi
   ·have h3:=(hord.2 i hi2).2 r (by omega)
    have h4:=(ho.ok.od i hi2).1
    simp only[a0r]
    rw[if_neg (by omega)]
    exact hg0 i (by omega) hi2
   ·rw[d9d hcns (fun i hi=>(ho.ok.sz i hi).1) g hgc,hnum,<-ho.str c hcns,hst]
    rfl
  have hfg:=fun k=>a8k hGr s k
  have hmul1: ∀k,k<=w->k*a2m o.sN o.oN m (r+1)<=w*a2m o.sN o.oN m (r+1):=fun k hk=>Nat.mul_le_mul_right _ hk
  have hmul2: ∀k,k<=w->k*a2g o.sN o.oN m (r+1)<=w*a2g o.sN o.oN m (r+1):=fun k hk=>Nat.mul_le_mul_right _ hk
  have hmul3: ∀k,(k+1)*a2m o.sN o.oN m (r+1)=k*a2m o.sN o.oN m (r+1)+a2m o.sN o.oN m (r+1):=fun k=>Nat.succ_mul _ _
  have hmul4: ∀k,(k+1)*a2g o.sN o.oN m (r+1)=k*a2g o.sN o.oN m (r+1)+a2g o.sN o.oN m (r+1):=fun k=>Nat.succ_mul _ _
  have hno6:=ho.ok.no
  have hns6:=ho.ok.ns
  have hns1:1<=o.ns:=by omega
  clear ih hG hss hn hord hpr hnum hg hg0
  obtain⟨A1,hA1⟩: ∃x,a2m o.sN o.oN m (r+1)=x:=⟨_,rfl⟩
  obtain⟨A2,hA2⟩: ∃x,a2g o.sN o.oN m (r+1)=x:=⟨_,rfl⟩
  simp only[hA1,hA2] at hGr hcall hfg hmul1 hmul2 hmul3 hmul4 h1 h2
  clear ho
  obtain⟨ns,sz,no,od,T,C,str⟩:=o
  obtain⟨ns,rfl⟩: ∃q,ns=q+1:=⟨ns-1,(Nat.sub_add_cancel hns1).symm⟩
  obtain⟨qe,ef,en,qn,av,an,ak⟩:=p
  simp only at hr1 hc hcns hw hst hcall hno6 hns6
  refine a1b Tryz.mixed okP f7b rfl fun E Sg hb hS F hF=> ?_
  simp only[PtR.h,List.length_cons,List.length_nil,List.length_append] at hb
  have e:=a5x hS
  obtain⟨S,hS0,hS1⟩: ∃S:Nat->Law.Mk,(∀k,(a1t G k s).1=S k)/\ ∀k,S (k+1)=(G k (S k)).1:=⟨fun k=>(a1t G k s).1,fun _=>rfl,fun _=>rfl⟩
  obtain⟨U,hU0,hU1⟩: ∃U:Nat->Nat->Int,(∀k,(a1t G k s).2=U k)/\ ∀k,U (k+1)=a0r (U k) k (G k (S k)).2:=⟨fun k=>(a1t G k s).2,fun _=>rfl,fun k=>by rw[<-hS0];rfl⟩
  have hS00:S 0=s:=by rw[<-hS0];rfl
  simp only[hS0,hU0] at hfg hF
  cbv
  simp only[f3y hS (show r≠no by omega)]
  cbv
  simp only[nat,e.toNat,e.ofNat,Int.ofNat_eq_natCast,Int.toNat_natCast,hc,hw]
  refine a0a hS (a1d hS hr1) ?_
  refine b2v Tryz.mixed okP hS (σ:=Nat×PtR) (fun st=>st.1<=w/\st.2.is (S st.1)) (fun st=>w-st.1)
   (fun st=>⟨a2l [(1,vsl T C),(2,int r),(3,.msl 2 1 none (ns+1) false),(4,.ptr 3 0),(8,.ptr 4 0),(12,.ptr 5 0),(13,int st.1)] 142,
     [arV st.2.qe st.2.ef st.2.en,arB st.2.qn st.2.av st.2.an st.2.ak,arrI (ns+1) g,.var [isl (ns+1) sz,isl no od,.msl 0 2 none st.2.qe false,.msl 1 2 none st.2.qn false,int root],.var [.any,.any,.any,.any,.any],.var [int c,.msl 6 1 none st.1 false],arrI st.1 (U st.1)],[0,1,6]⟩)
   (0,⟨qe,ef,en,qn,av,an,ak⟩) ⟨by simp,by rw[hS00];exact hps⟩ ?_ ?_
  ·exact (a6f.gh 5 1 1 (fun _=>[]) rfl rfl).trans (a6f.le (a0m rfl ⟨a0b.refl _,a0b.refl _,a0b.refl _,a0b.refl _,a0b.refl _,a0b.refl _,a1m rfl,trivial⟩
    (.cons (.refl _) (.cons (.refl _) (.cons (.refl _) (.cons (.refl _) (.cons (.var (.cons (.any _) (.cons (.any _) (.cons (.any _) (.cons (.any _) (.cons (.any _) .nil)))))) (.cons (.refl _) (.cons (a0f.arrr rfl fun j hj=>by omega) (.nil _)))))))) (by simp;omega) (.inr rfl) rfl))
  ·rintro⟨k,⟨qe,ef,en,qn,av,an,ak⟩⟩ ⟨hk,hps⟩ N hN
   simp only at hk hps hN
   have hqe:=hps.qe
   have hqn:=hps.qn
   simp only at hqe hqn
   have hfk:=(hfg k).1
   have hf1:=hfk.oe
   have hf2:=hfk.on
   have hm1:=hmul1 k hk
   have hm2:=hmul2 k hk
   cbv
   simp only[nat,e.toNat,Int.ofNat_eq_natCast,Int.toNat_natCast,hw]
   refine a0a hS (a1d hS hcns) ?_
   split
   ·rename_i h
    have hlt:k<w:=Int.ofNat_lt.1 (b8j hS h)
    have hm3:=hmul3 k
    have hm4:=hmul4 k
    have hm5:=hmul1 (k+1) hlt
    have hm6:=hmul2 (k+1) hlt
    have hca:=hcall k hlt (S k) ⟨qe,ef,en,qn,av,an,ak⟩ hps (by omega) (by omega)
    cbv
    simp only[nat,e.toNat,e.iadd,Int.ofNat_eq_natCast,Int.toNat_natCast]
    refine a0a hS (b0h hS (Nat.le_refl _)) (a0a hS (b0h hS (show ns+1<=1073741824 by omega)) (a0a hS (a1d hS hcns) (a0a hS (c4n hS hcns) (a0a hS (a9w hS (show-9223372036854775808<=(r:Int)+1/\(r:Int)+1<=9223372036854775807 by omega)) ?_))))
    refine a1a hS (a0g.frame hca [0,1,7] rfl rfl ⟨a0f.refl _,a0f.refl _,b5v hS (fun j _ hne=>by simp only[a0r,if_neg hne];exact .refl _) (fun _=>by simp only[a0r,if_pos];exact .refl _),trivial⟩) ?_
    rintro pg v H' ⟨pg0,v0,h0,⟨rfl,⟨qe',ef',en',qn',av',an',ak'⟩,hps',rfl,rfl⟩,rfl,rfl,rfl⟩
    cbv
    refine a0a hS trivial (a0a hS (b6u hS (by omega)) (a0a hS (a4t hS (by omega)) ?_))
    refine hN (k+1,⟨qe',ef',en',qn',av',an',ak'⟩) _ ⟨by simp only;omega,by simp only[hS1];exact hps'⟩ (by simp only;omega)
     (a6f.le (a0m rfl ⟨a0b.refl _,a0b.refl _,a0b.refl _,a0b.refl _,a0b.refl _,a0b.refl _,a5c hS,trivial⟩
       (.cons (.refl _) (.cons (.refl _) (.cons (.refl _) (.cons (.refl _) (.cons (.refl _) (.cons (.var (.cons (a0b.refl _) (.cons (a6e hS) .nil))) (.cons (a7j hS ?_ ?_) (.nil _)))))))) (by simp;omega) (.inl ⟨by cbv,by cbv⟩) rfl))
    ·intro j hj;simp only[hU1,a0r,if_neg (show¬j=k by omega)];exact .refl _
    ·simp only[hU1,a0r,if_pos];exact .refl _
   ·rename_i h
    have hkw:k=w:=by have:=Int.ofNat_le.1 (b7c hS h);omega
    subst hkw
    cbv
    refine a0a hS (b0h hS (Nat.le_refl _)) ?_
    have hok:=(hfg k).2
    have hflat:Law.flatL (L k (U k))↔ ∀j,j<k->U k j=U k 0:=b1k hw12.1
    have hoe:=hps.oe
    have hon:=hps.on
    have han:=hps.an
    simp only at hoe hon han
    by_cases hfl: ∀j,j<k->U k j=U k 0
    ·have hmk0:Law.mkNode (S k) ⟨(c:Int),L k (U k)⟩=(S k,U k 0):=by rw[Law.mkNode,if_pos (hflat.2 hfl),b5h hw12.1]
     rw[hmk0] at hF
     refine a0e hS _ (c5c (c:Int) (by omega) (U k) true ⟨fun _=>hfl,fun _=>rfl⟩) ?_
     cbv
     refine a0a hS (a1d hS hw12.1) (a0a hS (c4n hS hw12.1) (a0a hS (c4n hS hw12.1) (a0a hS (a6d hS) (a0a hS (a6d hS) ?_))))
     exact⟨[0,1],fun l h1 h2=>by simp at h2⊢;omega,hF (h1:=[arV qe ef en,arB qn av an ak,arrI (ns+1) g]) (.cons (.refl _) (.cons (.refl _) (.cons (.refl _) (.nil _)))) (a0b.refl _) (by simp[PtR.h]) (.inl ⟨rfl,rfl⟩)
      ⟨rfl,⟨qe,ef,en,qn,av,an,ak⟩,hps,rfl,rfl⟩⟩
    ·have hmk1:Law.mkNode (S k) ⟨(c:Int),L k (U k)⟩=({S k with on:=Law.onceE (S k).on ⟨(c:Int),L k (U k)⟩},(Law.at1 (S k).on (⟨(c:Int),L k (U k)⟩:NdR):Int)):=by rw[Law.mkNode,if_neg fun h=>hfl (hflat.1 h)]
     rw[hmk1] at hF
     refine a0e hS _ (c5c (c:Int) (by omega) (U k) false ⟨fun h=>Bool.noConfusion h,fun h=>absurd h hfl⟩) ?_
     obtain⟨R,hR⟩: ∃R,Law.at1 (S k).on (⟨(c:Int),L k (U k)⟩:NdR)=R:=⟨_,rfl⟩
     rw[hR] at hF
     have hRf: ∀q,q<qn->(av q=c/\L (an q) (ak q)=L k (U k))->(∀p,p<q-> ¬(av p=c/\L (an p) (ak p)=L k (U k)))->R=q:=fun q hq h hp=>by
      rw[<-hR,<-hon]
      exact c2c hq (by rw[h.1,h.2]) fun p hp' e=>hp p hp' (by injection e with a b;exact⟨a,b⟩)
     have hRn:(∀p,p<qn-> ¬(av p=c/\L (an p) (ak p)=L k (U k)))->(⟨(c:Int),L k (U k)⟩:NdR)∉(S k).on/\R=qn:=fun hp=>by
      rw[<-hR,<-hon]
      exact c9m fun p hp' e=>hp p hp' (by injection e with a b;exact⟨a,b⟩)
     have hqnb:qn<=1000000:=by omega
     cbv
     refine a0y Tryz.mixed okP hS (fun q=>q<=qn/\ ∀p,p<q-> ¬(av p=c/\L (an p) (ak p)=L k (U k))) (fun q=>qn-q)
      (fun q=>⟨a2l [(4,.ptr 3 0),(8,.ptr 4 0),(12,.ptr 5 0),(16,int q)] 142,
        [arV qe ef en,arB qn av an ak,arrI (ns+1) g,.var [isl (ns+1) sz,isl no od,.msl 0 2 none qe false,.msl 1 2 none qn false,int root],.var [.any,.any,.any,.any,.any],.var [int c,.msl 6 1 none k false],arrI k (U k)],[0,1,6]⟩) 0 ⟨by omega,by omega⟩ ?_ ?_
     ·exact a0m rfl ⟨a0b.refl _,a0b.refl _,a0b.refl _,a1m rfl,trivial⟩ (a2f.same _) (by simp;omega) (.inr rfl) rfl
     ·intro q hq N2 hN2
      have hnext: ¬(av q=c/\L (an q) (ak q)=L k (U k))->q<qn->q+1<=qn/\ ∀p,p<q+1-> ¬(av p=c/\L (an p) (ak p)=L k (U k)):=fun hne hlt=>⟨hlt,fun p hp=>by
       by_cases e:p=q
       ·rw[e];exact hne
       ·exact hq.2 p (by omega)⟩
      cbv
      split
      ·rename_i h
       have hqq:q<qn:=c3a hS h
       have h23:=c4k (an q) k (ak q) (U k) (by have:=han q hqq;omega)
       cbv
       simp only[nat,e.toNat,Int.ofNat_eq_natCast,Int.toNat_natCast]
       refine a0a hS (a1d hS hqq) (a0a hS (c4n hS hqq) ?_)
       split
       ·rename_i h
        have hvv:av q=c:=f4k hS h
        cbv
        simp only[nat,e.toNat,Int.ofNat_eq_natCast,Int.toNat_natCast]
        refine a0a hS (a1d hS hqq) (a0a hS (c4n hS hqq) (a0a hS (b0h hS (Nat.le_refl _)) ?_))
        by_cases hns2:L (an q) (ak q)≠L k (U k)
        ·refine a0e hS (bool false) (h23 false (by simp[hns2])) ?_
         cbv
         refine a0a hS (a4t hS (by omega)) ?_
         exact hN2 (q+1) _ (hnext (fun h=>hns2 h.2) hqq) (by omega) (a0m rfl ⟨a0b.refl _,a0b.refl _,a0b.refl _,a5c hS,trivial⟩ (a2f.same _) (by simp;omega) (.inr rfl) rfl)
        ·have hns2:=Classical.not_not.1 hns2
         refine a0e hS (bool true) (h23 true (by simp[hns2])) ?_
         cbv
         have hRq:=hRf q hqq ⟨hvv,hns2⟩ hq.2
         have hmem:=at1_mem (show Law.at1 (S k).on (⟨(c:Int),L k (U k)⟩:NdR)<(S k).on.length by rw[hR,hRq,<-hqn];exact hqq)
         rw[Law.onceE_mem hmem,hRq] at hF
         exact⟨[0,1],fun l h1 h2=>by simp at h2⊢;omega,hF (h1:=[arV qe ef en,arB qn av an ak,arrI (ns+1) g]) (.cons (.refl _) (.cons (.refl _) (.cons (.refl _) (.nil _)))) (a0b.refl _) (by simp[PtR.h]) (.inl ⟨rfl,rfl⟩)
          ⟨rfl,⟨qe,ef,en,qn,av,an,ak⟩,hps,rfl,rfl⟩⟩
       ·rename_i h
        have hvv:av q≠c:=g3p hS h
        cbv
        refine a0a hS (a4t hS (by omega)) ?_
        exact hN2 (q+1) _ (hnext (fun h=>hvv h.1) hqq) (by omega) (a0m rfl ⟨a0b.refl _,a0b.refl _,a0b.refl _,a5c hS,trivial⟩ (a2f.same _) (by simp;omega) (.inr rfl) rfl)
      ·rename_i h
       have hqq:q=qn:=by have:=d4h hS h;omega
       cbv
       obtain⟨hnm,hRq⟩:=hRn (by rw[<-hqq];exact hq.2)
       rw[Law.onceE_not hnm] at hF
       refine a0a hS (b0h hS (Nat.le_refl _)) (a0a hS trivial (a0a hS (b6u hS (by omega)) (a0a hS (b3f hS (by simp only[e.ofNat,e.nadd,Int.ofNat_eq_natCast];omega)) (a0a hS (a6d hS) ?_))))
       refine⟨[0,1],fun l h1 h2=>by simp at h2⊢;omega,hF (h1:=[arV qe ef en,arB (qn+1) (fun p=>if p<qn then av p else (c:Int)) (fun p=>if p<qn then an p else k) (fun p=>if p<qn then ak p else U k),arrI (ns+1) g]) (.cons (.refl _) (.cons (a7j hS ?_ ?_) (.cons (.refl _) (.nil _))))
        (a1r.tuple (.cons (a1r.agg (.cons (a0b.refl _) (.cons (a0b.refl _) (.cons (a0b.refl _) (.cons (a6e hS) (.cons (a0b.refl _) .nil)))))) (.cons (a1f (b:=(R:Int)) (by simp only[e.isub,e.ofNat,e.nadd,hRq,Int.ofNat_eq_natCast];omega)) .nil))) (by simp[PtR.h]) (.inl ⟨rfl,rfl⟩)
        ⟨rfl,⟨qe,ef,en,qn+1,fun p=>if p<qn then av p else (c:Int),fun p=>if p<qn then an p else k,fun p=>if p<qn then ak p else U k⟩,⟨hoe,?_,fun p hp=> ?_⟩,rfl,rfl⟩⟩
       ·intro p hp;simp only[if_pos hp];exact .refl _
       ·simp only[if_neg (Nat.lt_irrefl qn)];exact .refl _
       ·simp only
        rw[<-hon]
        unfold ndL
        rw[a7n]
        simp only[if_neg (Nat.lt_irrefl qn)]
        exact congrArg (· ++[_]) (a3i fun p hp=>by simp only[if_pos hp])
       ·simp only
        split
        ·exact han p (by assumption)
        ·exact hw12.2
end Go.Proofs.Tryz.Run
