/- A diagram in another order is a diagram with the same cells; in its own order it is itself. Families in other orders: good ones again; one after the other is the last; the own order changes nothing. Families that are the same read alike; swaps and moves one after the other. OrderMoves answers true: the walk. Conditions: none. -/
import Derived.Test.YtpcokdalcafgdaaGreatWLq
import Derived.Test.YtpcokdalcafgdaaGreatWNa
import Derived.Test.YtpcokdalcafgdaaGreatWNc
import Derived.Test.YtpcokdalcafgdaaGreatWLh
import Derived.Test.YtpcokdalcafgdaaGreatWNb
import Derived.Test.YtpcokdalcafgdaaGreatWOh
import Derived.Test.YtpcokdalcafgdaaGreatWPm0
import Derived.Test.YtpcokdalcafgdaaGreatWQd
import Derived.Test.YtpcokdalcafgdaaGreatWQf
import Derived.Test.YtpcokdalcafgdaaGreatWQh
import Derived.Test.YtpcokdalcafgdaaGreatWQi
import Derived.Test.YtpcokdalcafgdaaGreatWSd
import Derived.Test.YtpcokdalcafgdaaGreatWSq
import Derived.Test.YtpcokdalcafgdaaGreatWSv
import Derived.Test.YtpcokdalcafgdaaGreatWSy
import Derived.Test.YtpcokdalcafgdaaGreatWUf
import Derived.Test.YtpcokdalcafgdaaGreatWUi
import Derived.Test.YtpcokdalcafgdaaGreatWXf
import Derived.Test.YtpcokdalcafgdaaGreatWXi
import Derived.Test.YtpcokdalcafgdaaGreatWXk
import Derived.Test.YtpcokdalcafgdaaGreatWXn
import Derived.Test.YtpcokdalcafgdaaGreatWXt
import Derived.Test.YtpcokdalcafgdaaGreatWXw
import Derived.Test.YtpcokdalcafgdaaGreatWYb
set_option linter.unusedSimpArgs false
set_option linter.unusedVariables false
namespace Go.Proofs.Tryz.Run
open Go Go.Vf Go.Proofs
open Go.Proofs.YtpcokdalcafgdaaGreat
theorem c7a {sz pl:Nat->Int}{ns:Nat}: ∀m,m<=ns->a5r sz pl m*a2s sz ns (ns-m)=a3n (fun c=>pl c*a2s sz ns (ns-1-c)) m
 |0,_=>by simp[a5r,a3n]
 |m+1,h=>by
  have ih:=c7a (sz:=sz) (pl:=pl) (ns:=ns) m (by omega)
  obtain⟨q,hq⟩: ∃q,ns-m=q+1:=⟨ns-m-1,by omega⟩
  rw[hq,a2s,show ns-1-q=m by omega] at ih
  rw[a5r,a3n,<-ih,show ns-(m+1)=q by omega,show ns-1-m=q by omega,Int.add_mul,Int.mul_assoc,Int.mul_comm (sz m)]
theorem d4m {f:Nat->Nat}: ∀n,a3n (fun c=>(f c:Int)) n=(((L n f).sum:Nat):Int)
 |0=>rfl
 |n+1=>by rw[a3n,d4m n,a7n,List.sum_append];simp
theorem c7k (od str:Nat->Nat)(p:Nat->Nat): ∀m r,b5t od str p m r=(L m fun i=>p (od (r+i))*str (od (r+i))).sum
 |0,r=>rfl
 |m+1,r=>by
  rw[b5t,c7k od str p m (r+1)]
  simp[L,List.range_succ_eq_map,List.map_map,Function.comp_def,Nat.add_assoc,Nat.add_comm 1]
def dgN (pl:Nat->Int)(c:Nat):Nat:=(pl c).toNat
section
variable {o:OfR}
theorem OfR.full.inj (h:o.full): ∀i j,i<o.no->j<o.no->o.oN i=o.oN j->i=j:=fun i j hi hj e=>by
 rcases Nat.lt_trichotomy i j with h1|h1|h1
 ·exact absurd e ((h.od j hj).2 i h1)
 ·exact h1
 ·exact absurd e.symm ((h.od i hi).2 j h1)
theorem OfR.full.s1 (h:o.full): ∀i,i<o.no->1<=o.sN (o.oN i):=fun i hi=>by
 obtain⟨h1,h2,h3,h4,_⟩:=a1k h.fr
 have:=(h2 (o.oN i) (by have:=(h.od i hi).1;omega)).1
 unfold OfR.sN;omega
theorem OfR.full.odc (h:o.full){i:Nat}(hi:i<o.no):(o.oN i:Int)=o.od i:=by
 have:=(h.ok.od i hi).1
 unfold OfR.oN;omega
theorem OfR.full.res (h:o.full):Res o.C o.sN o.oN o.str o.no o.no 0 0 s0 o.make.1 o.make.2:=d6m h.inj h.s1 o.no 0 0 s0 (by omega) g9f
theorem OfR.full.off (h:o.full)(hst:o.str=b6y o.sz o.ns){pl:Nat->Int}(hp: ∀j,j<o.ns->0<=pl j/\pl j<o.sz j):((b5t o.oN o.str (dgN pl) o.no 0:Nat):Int)=a5r o.sz pl o.ns:=by
 obtain⟨h1,h2,h3,h4,_⟩:=a1k h.fr
 have hv:=c7a (sz:=o.sz) (pl:=pl) (ns:=o.ns) o.ns (Nat.le_refl _)
 rw[Nat.sub_self,a2s,Int.mul_one] at hv
 rw[c7k,hv]
 simp only[Nat.zero_add]
 rw[c9x h.od fun c=>dgN pl c*o.str c,h4,<-d4m]
 refine a6s fun c hc=> ?_
 have h5:=(b4b h2 h3 (o.ns-1-c) (by omega)).1
 have h6:=(hp c hc).1
 rw[hst,Int.natCast_mul,b6y,dgN,Int.toNat_of_nonneg h6,Int.toNat_of_nonneg (by omega)]
theorem OfR.full.dgOk (h:o.full){pl:Nat->Int}(hp: ∀j,j<o.ns->0<=pl j/\pl j<o.sz j): ∀i,i<o.no->dgN pl (o.oN i)<o.sN (o.oN i):=fun i hi=>by
 obtain⟨h1,h2,h3,h4,_⟩:=a1k h.fr
 have:=hp (o.oN i) (by have:=(h.od i hi).1;omega)
 unfold dgN OfR.sN;omega
theorem getD_some {α:Type}{l:List α}{i:Nat}{d:α}(hi:i<l.length):l[i]? =some (l.getD i d):=by
 rw[List.getD,List.getElem?_eq_getElem hi];rfl
theorem e4a (b:NdR):NdR.mk b.var (L b.kids.length fun j=>b.kids.getD j 0)=b:=by rw[a9g b.kids 0]
theorem e0u {l:List Int}{j:Nat}(hj:j<l.length):l.getD j 0∈l:=by
 rw[List.getD,List.getElem?_eq_getElem hj]
 exact List.getElem_mem _
theorem f1u (o:OfR):o.out.N=o.make.1.on:=by
 refine Eq.trans (a3i fun j hj=> ?_) (a9g o.make.1.on ⟨0,[]⟩)
 exact e4a _
theorem OfR.full.nd (h:o.full){i:Nat}(hi:i<o.out.nn): ∃p,p<o.no/\o.out.var i=o.od p/\o.out.nk i=o.sN (o.oN p)/\ ¬Law.flatL (L (o.out.nk i) (o.out.kid i))/\ ∀j,j<o.out.nk i->o.out.kid i j<i/\okR o.oN o.no o.make.1 (p+1) (o.out.kid i j):=by
 have hi':i<o.make.1.on.length:=hi
 obtain⟨p,h1,h2,h3,h4,h5⟩:=h.res.inv.ok i _ (getD_some (d:=⟨0,[]⟩) hi')
 refine⟨p,h1,by rw[<-h.odc h1];exact h2,h3,?_,fun j hj=>h5 _ ?_⟩
 ·have e:L (o.out.nk i) (o.out.kid i)=(o.make.1.on.getD i ⟨0,[]⟩).kids:=a9g _ 0
  rw[e];exact h4
 ·have hj':j<(o.make.1.on.getD i ⟨0,[]⟩).kids.length:=hj
  exact e0u hj'
theorem OfR.full.pos (h:o.full){p:Nat}(hp:p<o.no):pos o.od (o.od p) o.no 0=p:=
 a6r (Nat.zero_le _) (by omega) rfl fun l _ hl e=>by
  have:=h.inj l p (by omega) hp (by unfold OfR.oN;rw[e])
  omega
theorem OfR.full.rank (h:o.full){r:Nat}(hr:r<=o.no){k:Int}(hk:okR o.oN o.no o.make.1 r k):r<=a4f o.out k:=by
 unfold a4f
 split
 ·rename_i h0
  obtain⟨b,p,h1,h2,h3,h4⟩:=hk.2 h0
  have e:o.out.var k.toNat=o.od p:=by
   show (o.make.1.on.getD k.toNat ⟨0,[]⟩).var=_
   rw[List.getD,h1,<-h.odc h3];exact h4
  rw[e]
  show r<=Run.pos o.od (o.od p) o.no 0
  rw[h.pos h3];exact h2
 ·exact hr
theorem okR.isRef {r:Nat}{k:Int}(hk:okR o.oN o.no o.make.1 r k){n:Nat}(hn:k<n):isRef o.out k n:=by
 unfold Run.isRef
 split
 ·exact hn
 ·have:=hk.1 (by omega)
  show-1-k<=(o.make.1.oe.length:Int)-1
  omega
theorem OfR.full.loose (h:o.full)(hT:(o.T:Int)=prod o.sz o.ns)(hst:o.str=b6y o.sz o.ns)(hc: ∀j,j<o.T->a2c (o.C j)):a1s o.out:=by
 obtain⟨h1,h2,h3,h4,_⟩:=a1k h.fr
 refine⟨fun i hi=> ?_,fun i hi=> ?_,okR.isRef h.res.ref h.res.ref.lt⟩
 ·have hi':i<o.make.1.oe.length:=hi
  refine c0t (P:=a2c) hc o.no 0 0 s0 (h.span hT hst) (by simp[s0]) _ (List.mem_of_getElem? (getD_some (d:=⟨0,0⟩) hi'))
 ·obtain⟨p,a,b,c,_,e⟩:=h.nd hi
  have h5:=h.ok.od p a
  have h6:=h.odc a
  refine⟨⟨⟨by rw[b];exact h5.1,by rw[b];show o.od p<=(o.ns:Int)-1;omega⟩,?_⟩,fun j hj=>⟨okR.isRef (e j hj).2 (e j hj).1,?_⟩⟩
  ·rw[b,c]
   show ((o.sz (o.oN p)).toNat:Int)=o.sz (o.od p).toNat
   have:=(h2 (o.oN p) (by omega)).1
   have e:(o.od p).toNat=o.oN p:=rfl
   rw[e];omega
  ·have h7:=h.rank (by omega) (e j hj).2
   have h8:a4f o.out i=p:=by
    unfold a4f
    rw[if_pos (by omega),Int.toNat_natCast,b]
    exact h.pos a
   omega
theorem OfR.full.dia (h:o.full):a8g o.out:=by
 refine⟨?_,fun i hi=>⟨?_,?_⟩,?_⟩
 ·have:=h.res.inv.oe
  have e:L o.out.ne o.out.en=o.make.1.oe:=a9g _ _
  rw[<-e] at this
  exact a6u.1 this
 ·obtain⟨p,a,b,c,d,e⟩:=h.nd hi
  rw[<-b1k (by rw[c];exact h.s1 p a)]
  exact d
 ·have:=h.res.inv.on
  rw[<-f1u] at this
  have h2:=a6u.1 this i hi
  exact fun k hk e=>h2 k hk (by show NdR.mk _ _=NdR.mk _ _;rw[e.1,e.2])
 ·have:=h.res.srch o.out.N (o.out.nn+1) (by rw[f1u];exact List.prefix_refl _) (by have:=h.res.ref.lt;show o.make.2<((o.make.1.on.length+1:Nat):Int);omega)
  exact this
theorem Way.wayE (h:o.full)(hl:a1s o.out){pl:Nat->Int}(hp:d2d o.out pl){k e:Int}(w:Way o.make.1.on (dgN pl) k e)(hk:k<o.out.nn):wayE o.out pl k=e:=by
 induction w with
 |fin h=>exact a2j h
 | @node k b e h1 _ ih=>
   have hk':k<o.out.nn:=by omega
   rw[a5n hl hp hk']
   obtain⟨p,a,hv,c,d,f⟩:=h.nd hk'
   have hb:o.make.1.on.getD k ⟨0,[]⟩=b:=by rw[List.getD,h1];rfl
   have hv2:o.out.var k=b.var:=by show (o.make.1.on.getD k ⟨0,[]⟩).var=_;rw[hb]
   have e1:o.out.kid k (pl (o.out.var k).toNat).toNat=b.kids.getD (dgN pl b.var.toNat) 0:=by
    show (o.make.1.on.getD k ⟨0,[]⟩).kids.getD _ 0=_
    rw[hb,hv2];rfl
   have hd:=(a8b hl hp hk').2.1
   have hf:=(f (pl (o.out.var k).toNat).toNat (by omega)).1
   rw[e1] at hf
   rw[e1]
   exact ih (by omega)
theorem OfR.full.cell (h:o.full)(hT:(o.T:Int)=prod o.sz o.ns)(hst:o.str=b6y o.sz o.ns)(hc: ∀j,j<o.T->a2c (o.C j)){i:Nat}(hi:i<o.T):o.out.cell i=o.C i:=by
 obtain⟨h1,h2,h3,h4,_⟩:=a1k h.fr
 obtain⟨hp,hv⟩:=a8e (sz:=o.sz) (n:=o.ns) (fun j hj=>(h2 j hj).1) i (by rw[<-hT];exact Int.ofNat_lt.2 hi)
 obtain⟨e,a,b,c⟩:=h.res.way (dgN (a9d o.sz o.ns i)) (h.dgOk hp)
 have ho:=h.off hst hp
 rw[hv] at ho
 have ho:b5t o.oN o.str (dgN (a9d o.sz o.ns i)) o.no 0=i:=by omega
 rw[ho,Nat.zero_add] at c
 have hw:=Way.wayE h (h.loose hT hst hc) (pl:=a9d o.sz o.ns i) hp b h.res.ref.lt
 show o.make.1.oe.getD (-1-wayE o.out (a9d o.sz o.ns i) o.out.root).toNat ⟨0,0⟩=_
 have e1:wayE o.out (a9d o.sz o.ns i) o.out.root=e:=hw
 rw[e1,List.getD,c];rfl
theorem OfR.full.diOk (h:o.full)(hT:(o.T:Int)=prod o.sz o.ns)(hst:o.str=b6y o.sz o.ns)(hc: ∀j,j<o.T->a2c (o.C j))(hs:o.T<=1000):c9g o.out:=by
 refine⟨h.fr,?_,h.loose hT hst hc,h.dia⟩
 have hg:=(b0k (C:=o.C) (str:=o.str) (sz:=o.sN) (od:=o.oN) o.no 0 0 s0 fun j _ hj=>h.s1 j (by omega)).1.on.2
 have hn:=(a7i (sz:=o.sN) (od:=o.oN) o.no 0 fun i _ hi=>h.s1 i (by omega)).2
 rw[(h.bounds hT).1] at hn
 have h6:=h.ok.no
 have:o.no*o.T<=6*1000:=Nat.mul_le_mul h6 hs
 have e:s0.on.length=0:=rfl
 show o.make.1.on.length<=6000
 unfold OfR.make
 omega
theorem OfR.full.fit (h:o.full)(hT:(o.T:Int)=prod o.sz o.ns):o.out.fit:=by
 have hg:=(b0k (C:=o.C) (str:=o.str) (sz:=o.sN) (od:=o.oN) o.no 0 0 s0 fun j _ hj=>h.s1 j (by omega)).1
 obtain⟨b1,b2⟩:=h.bounds hT
 have q1:=hg.oe.2
 have q2:=hg.on.2
 have q3:=h.ok.T
 have e:s0.on.length=0:=rfl
 have e2:s0.oe.length=0:=rfl
 have hne:o.make.1.oe.length<=2000:=by unfold OfR.make;omega
 have hnn:o.make.1.on.length<=12000:=by unfold OfR.make;omega
 have key: ∀r k,okR o.oN o.no o.make.1 r k->a4s k:=fun r k hk=>by
  have h1:=hk.lt
  have h2:=hk.1
  unfold a4s
  rcases Int.lt_or_le k 0 with h0|h0
  ·have:=h2 h0;omega
  ·omega
 refine⟨?_,?_,Nat.le_trans hne (by omega),Nat.le_trans hnn (by omega),fun i hi=>Nat.le_trans (h.kids i hi) (by omega),fun i hi j hj=> ?_,key _ _ h.res.ref⟩
 ·exact Nat.le_trans h.ok.ns (by omega)
 ·exact Nat.le_trans h.ok.no (by omega)
 ·obtain⟨p,a,b,c,d,f⟩:=h.nd hi
  exact key _ _ (f j hj).2
end
theorem a7h {g g':Nat->Law.Mk->Law.Mk×Int}: ∀{w:Nat},(∀k,k<w-> ∀s,g k s=g' k s)-> ∀s,a1t g w s=a1t g' w s
 |0,_,s=>rfl
 |w+1,h,s=>by rw[a1t,a1t,a7h (fun k hk=>h k (by omega)) s,h w (by omega)]
theorem c2t {C C':Nat->VaR}{sz od str:Nat->Nat}{T:Nat}(h: ∀j,j<T->C j=C' j): ∀(m r num:Nat) (s:Law.Mk),num+a9b sz od str m r<T->ofW C sz od str m r num s=ofW C' sz od str m r num s
 |0,r,num,s,hn=>by rw[ofW,ofW,h num (by simpa [a9b] using hn)]
 |m+1,r,num,s,hn=>by
  rw[a9b] at hn
  rw[ofW,ofW,a7h (fun k hk s=>c2t h m (r+1) (num+k*str (od r)) s (by
   have:k*str (od r)<=(sz (od r)-1)*str (od r):=Nat.mul_le_mul_right _ (by omega)
   omega)) s]
section
variable {n:Nat} {l:Nat->DiR}
theorem a0x.ofT (h:a0x n l)(hs:prod (l 0).sz (l 0).ns<=1000){no:Nat}{od:Nat->Int}(hfr:a2e (l 0).ns no (l 0).sz od=0){i:Nat}(hi:i<n):(OfR.of (l 0) (l i) no od).T<=1000:=by
 have:=(h.ofFull hfr hi).2.1
 omega
theorem a0x.chg (h:a0x n l)(hs:prod (l 0).sz (l 0).ns<=1000){no:Nat}{od:Nat->Int}(hfr:a2e (l 0).ns no (l 0).sz od=0):a0x n (chg l no od):=by
 refine⟨h.pos,fun i hi=> ?_,fun i hi j hj=> ?_,fun i hi=> ?_,fun i hi=>⟨rfl,rfl⟩⟩
 ·obtain⟨h1,h2,h3⟩:=h.ofFull hfr hi
  exact h1.fit h2
 ·obtain⟨h1,h2,h3⟩:=h.ofFull hfr hi
  have hc: ∀j,j<(OfR.of (l 0) (l i) no od).T->0<=((OfR.of (l 0) (l i) no od).C j).fault:=fun j hj=>by
   refine ((h.di i hi).cells (h.flt i hi) j ?_).2
   rw[<-b1u (h.fr i hi).1,<-(h.di 0 h.pos.1).T]
   exact Int.ofNat_lt.2 hj
  have hj':j<(OfR.of (l 0) (l i) no od).make.1.oe.length:=hj
  exact c0t (P:=fun v=>0<=v.fault) hc _ 0 0 s0 (h1.span h2 rfl) (by simp[s0]) _ (List.mem_of_getElem? (getD_some (d:=⟨0,0⟩) hj'))
 ·obtain⟨h1,h2,h3⟩:=h.ofFull hfr hi
  exact h1.diOk h2 rfl h3 (h.ofT hs hfr hi)
theorem a0x.chgCell (h:a0x n l){no:Nat}{od:Nat->Int}(hfr:a2e (l 0).ns no (l 0).sz od=0){i:Nat}(hi:i<n){j:Nat}(hj:(j:Int)<prod (l 0).sz (l 0).ns):(Run.chg l no od i).cell j=(l i).cell j:=by
 obtain⟨h1,h2,h3⟩:=h.ofFull hfr hi
 exact h1.cell h2 rfl h3 (i:=j) (by rw[<-h2] at hj;exact Int.ofNat_lt.1 hj)
theorem a0x.chg2 (h:a0x n l){no no':Nat}{od od':Nat->Int}(hfr:a2e (l 0).ns no (l 0).sz od=0)(hfr':a2e (l 0).ns no' (l 0).sz od'=0){i:Nat}(hi:i<n):Run.chg (Run.chg l no od) no' od' i=Run.chg l no' od' i:=by
 obtain⟨h1,h2,h3⟩:=h.ofFull hfr' hi
 have e:(OfR.of (Run.chg l no od 0) (Run.chg l no od i) no' od').make=(OfR.of (l 0) (l i) no' od').make:=
  c2t (T:=(OfR.of (l 0) (l i) no' od').T) (fun j hj=>h.chgCell hfr hi (by rw[<-h2];exact Int.ofNat_lt.2 hj)) _ 0 0 s0 (h1.span h2 rfl)
 show e0b _ (OfR.of (Run.chg l no od 0) (Run.chg l no od i) no' od').make.1 (OfR.of (Run.chg l no od 0) (Run.chg l no od i) no' od').make.2=_
 rw[e]
 rfl
end
theorem f1d {d:DiR}(hl:a1s d){pl:Nat->Int}(hp:d2d d pl){k:Int}(hk:a4g d.ne k d.nn):Way d.N (dgN pl) k (wayE d pl k):=by
 have: ∀(m:Nat) (k:Int),k<m->a4g d.ne k d.nn->Way d.N (dgN pl) k (wayE d pl k):=by
  intro m
  induction m with
  |zero=>intro k hm hr;rw[a2j (by omega)];exact .fin (by omega)
  |succ m ih=>
   intro k hm hr
   rcases Int.lt_or_le k 0 with h0|h0
   ·rw[a2j h0];exact .fin h0
   ·obtain⟨z,rfl⟩: ∃z:Nat,k=z:=⟨k.toNat,by omega⟩
    have hz:z<d.nn:=by have:=hr.1 h0;omega
    rw[a5n hl hp hz]
    obtain⟨h1,h2,h3⟩:=a8b hl hp hz
    refine .node (b:=d.nd z) (by rw[DiR.N,a6x,if_pos hz]) ?_
    have e:(d.nd z).kids.getD (dgN pl (d.nd z).var.toNat) 0=d.kid z (pl (d.var z).toNat).toNat:=by
     show (L (d.nk z) (d.kid z)).getD (pl (d.var z).toNat).toNat 0=_
     rw[List.getD,a6x,if_pos (by omega)];rfl
    rw[e]
    have h4:d.kid z (pl (d.var z).toNat).toNat<z:=by
     rcases Int.lt_or_le (d.kid z (pl (d.var z).toNat).toNat) 0 with h|h
     ·omega
     ·exact h3.1 h
    exact ih _ (by omega) ⟨fun h=>by omega,h3.2⟩
 exact this (k.toNat+1) k (by omega) hk
theorem c9i {sz p q:Nat->Int}: ∀{n:Nat},d8x sz p n->d8x sz q n->a5r sz p n=a5r sz q n-> ∀j,j<n->p j=q j
 |0,_,_,_,j,hj=>by omega
 |n+1,hp,hq,e,j,hj=>by
  have a:=hp n (by omega)
  have b:=hq n (by omega)
  rw[a5r,a5r] at e
  have hz:0<sz n:=by omega
  have e1:a5r sz p n=a5r sz q n:=by
   have h1:(a5r sz p n*sz n+p n)/sz n=a5r sz p n:=by rw[Int.add_comm,Int.add_mul_ediv_right _ _ (by omega),Int.ediv_eq_zero_of_lt a.1 a.2];omega
   have h2:(a5r sz q n*sz n+q n)/sz n=a5r sz q n:=by rw[Int.add_comm,Int.add_mul_ediv_right _ _ (by omega),Int.ediv_eq_zero_of_lt b.1 b.2];omega
   rw[<-h1,e,h2]
  by_cases h:j=n
  ·subst h;rw[e1] at e;omega
  ·exact c9i (fun j hj=>hp j (by omega)) (fun j hj=>hq j (by omega)) e1 j (by omega)
section
variable {n:Nat} {l:Nat->DiR}
theorem e9a {n m:Nat}{od:Nat->Int}(h:a1u n m od){v:Int}(hv:0<=v/\v<=(n:Int)-1): ∃p,p<m/\od p=v/\pos od v m 0=p:=by
 obtain⟨rfl,h2⟩:=h
 obtain⟨p,h3,h4⟩:=a1u.at ⟨rfl,h2⟩ hv
 refine⟨p,h3,h4,a6r (Nat.zero_le _) (by omega) h4 fun j _ hj e=> ?_⟩
 exact (h2 p h3).2 j hj (by rw[e,h4])
theorem c9g.inv {d:DiR}(h:c9g d):Inv (fun i=>(d.sz i).toNat) (fun i=>(d.od i).toNat) d.no ⟨d.E,d.N,fun _=>none⟩:=by
 obtain⟨h1,h2,h3,h4⟩:=a1k h.fr
 refine⟨a6u.2 h.dia.1,a6u.2 fun i hi k hk e=> ?_,fun i b hb=> ?_⟩
 ·have e2:=NdR.mk.inj e
  exact (h.dia.2.1 i hi).2 k hk ⟨e2.1,e2.2⟩
 ·simp only[DiR.N,a6x] at hb
  split at hb
  ·rename_i hi
   obtain rfl:d.nd i=b:=by simpa using hb
   obtain⟨⟨h5,h6⟩,h7⟩:=h.loose.2.1 i hi
   obtain⟨p,g1,g2,g3⟩:=e9a h4 h5
   have hk1:1<=d.nk i:=by have:=(h2 (d.var i).toNat (by omega)).1;omega
   have hpi:a4f d i=p:=by
    unfold a4f
    rw[if_pos (by omega),Int.toNat_natCast];exact g3
   refine⟨p,g1,?_,?_,?_,fun k hk=> ?_⟩
   ·show d.var i=(((d.od p).toNat:Nat):Int)
    rw[g2];omega
   ·show (L (d.nk i) (d.kid i)).length=(d.sz (d.od p).toNat).toNat
    rw[a0k,g2];omega
   ·show¬Law.flatL (L (d.nk i) (d.kid i))
    rw[b1k hk1]
    exact (h.dia.2.1 i hi).1
   ·obtain⟨j,hj,rfl⟩:=a5t.1 (show k∈L (d.nk i) (d.kid i) from hk)
    obtain⟨q1,q2⟩:=h7 j hj
    have q3:=a3f q1
    refine⟨?_,fun h0=> ?_,fun h0=> ?_⟩
    ·rcases Int.lt_or_le (d.kid i j) 0 with h|h
     ·omega
     ·exact q3.1 h
    ·have:=q3.2 h0
     show _<(L d.ne d.en).length
     rw[a0k];omega
    ·obtain⟨z,hz⟩: ∃z:Nat,d.kid i j=z:=⟨(d.kid i j).toNat,by omega⟩
     have hz2:z<d.nn:=by have:=q3.1 h0;omega
     obtain⟨r,r1,r2,r3⟩:=e9a h4 (h.loose.2.1 z hz2).1.1
     refine⟨d.nd z,r,?_,?_,r1,?_⟩
     ·rw[hz,Int.toNat_natCast]
      show (L d.nn d.nd)[z]? =_
      rw[a6x,if_pos hz2]
     ·have:a4f d (d.kid i j)=r:=by
       unfold a4f
       rw[if_pos h0,hz,Int.toNat_natCast];exact r3
      omega
     ·show d.var z=(((d.od r).toNat:Nat):Int)
      rw[r2];have:=(h.loose.2.1 z hz2).1.1;omega
  ·cases hb
theorem c9g.own {d:DiR}(h:c9g d)(h0: ∀j,j<d.ne->0<=(d.en j).fault):(OfR.of d d d.no d.od).make=(⟨d.E,d.N,fun _=>none⟩,d.root):=by
 obtain⟨h1,h2,h3,h4⟩:=a1k h.fr
 have hT:=h.T
 have hful:(OfR.of d d d.no d.od).full:=d7a h.fr hT fun i hi=>h.cells h0 i (by rw[<-hT];exact Int.ofNat_lt.2 hi)
 have hroot:=a3f h.loose.2.2
 have hE:(⟨d.E,d.N,fun _=>none⟩:Law.Mk).oe.length=d.ne:=a0k _ _
 have hN:(⟨d.E,d.N,fun _=>none⟩:Law.Mk).on.length=d.nn:=a0k _ _
 have hlt:d.root<((d.nn+1:Nat):Int):=by
  rcases Int.lt_or_le d.root 0 with h|h
  ·omega
  ·have:=hroot.1 h;omega
 have hs:=h.dia.2.2
 have:=(e6q (C:=d.cell) (str:=b6y d.sz d.ns) h.inv hful.inj hful.s1 d.no 0 0 d.root 0 0 d.nn d.ne (d.nn+1) (by omega) ?_ ?_ hlt (by omega) (by omega) (by omega) (by omega) (fun i b hi=>by omega) (by
  rw[show (Law.rng 0,Law.rng 0)=(([],[]):List Int×List Int) from rfl];exact hs)).1
 ·have e1:cut ⟨d.E,d.N,fun _=>none⟩ 0 0=s0:=rfl
  have e2:cut ⟨d.E,d.N,fun _=>none⟩ d.nn d.ne=⟨d.E,d.N,fun _=>none⟩:=by
   unfold cut
   simp only at hE hN⊢
   rw[<-hE,<-hN,List.take_length,List.take_length]
  rw[e1,e2] at this
  exact this
 ·refine⟨fun q=> ?_,fun q=> ?_⟩
  ·have:=hroot.2 q;omega
  ·obtain⟨z,hz⟩: ∃z:Nat,d.root=z:=⟨d.root.toNat,by omega⟩
   have hz2:z<d.nn:=by have:=hroot.1 q;omega
   obtain⟨r,r1,r2,r3⟩:=e9a h4 (h.loose.2.1 z hz2).1.1
   refine⟨d.nd z,r,?_,Nat.zero_le _,r1,?_⟩
   ·rw[hz,Int.toNat_natCast]
    show (L d.nn d.nd)[z]? =_
    rw[a6x,if_pos hz2]
   ·show d.var z=(((d.od r).toNat:Nat):Int)
    rw[r2];have:=(h.loose.2.1 z hz2).1.1;omega
 ·intro p hp
  have hpl:d2d d fun c=>(p c:Int):=fun c hc=>by
   obtain⟨q,q1,q2,_⟩:=e9a h4 (v:=(c:Int)) ⟨by omega,by omega⟩
   have:p (d.od q).toNat<(d.sz (d.od q).toNat).toNat:=hp q q1
   rw[q2,Int.toNat_natCast] at this
   show 0<=(p c:Int)/\(p c:Int)<d.sz c
   omega
  have ho:=hful.off rfl (pl:=fun c=>(p c:Int)) hpl
  have hv:=a8u (sz:=d.sz) (pl:=fun c=>(p c:Int)) hpl
  obtain⟨s1,s2⟩:=a8e (sz:=d.sz) (n:=d.ns) (fun j hj=>(h2 j hj).1) (b5t (OfR.of d d d.no d.od).oN (OfR.of d d d.no d.od).str (dgN fun c=>(p c:Int)) (OfR.of d d d.no d.od).no 0) (by rw[ho];exact hv.2)
  rw[ho] at s2
  have he:=c9i s1 hpl s2
  have hw:=b7z h.loose he s1 hpl d.root hroot
  obtain⟨w1,w2⟩:=c6c h.loose hpl d.root hroot
  refine⟨wayE d (fun c=>(p c:Int)) d.root,w1,f1d h.loose hpl hroot,?_⟩
  rw[Nat.zero_add]
  show (L d.ne d.en)[_]? =some (d.en (-1-wayE d (a9d d.sz d.ns _) d.root).toNat)
  have e3:b5t (fun i=>(d.od i).toNat) (b6y d.sz d.ns) p d.no 0=b5t (OfR.of d d d.no d.od).oN (OfR.of d d d.no d.od).str (dgN fun c=>(p c:Int)) (OfR.of d d d.no d.od).no 0:=rfl
  rw[e3,hw,a6x,if_pos (by omega)]
theorem a0x.own (h:a0x n l){i:Nat}(hi:i<n):a6o (l i) (Run.chg l (l 0).no (l 0).od i):=by
 have hd:=h.di i hi
 have hf:=h.fr i hi
 have hown:=hd.own (h.flt i hi)
 obtain⟨e1,e2⟩:=a2w.1 hf.1
 obtain⟨e3,e4⟩:=a2w.1 hf.2
 have hof:(OfR.of (l 0) (l i) (l 0).no (l 0).od).make=(OfR.of (l i) (l i) (l i).no (l i).od).make:=by
  obtain⟨k1,k2,k3,k4,k5⟩:=a1k (h.di 0 h.pos.1).fr
  have hstr: ∀c,c<(l 0).ns->b6y (l 0).sz (l 0).ns c=b6y (l i).sz (l i).ns c:=fun c hc=>by
   have: ∀p,p<=(l 0).ns->a2s (l 0).sz (l 0).ns p=a2s (l i).sz (l i).ns p:=fun p=>by
    induction p with
    |zero=>intro _;rfl
    |succ p ih=>intro hp;rw[a2s,a2s,ih (by omega),<-e1,e2 _ (by omega)]
   unfold b6y
   rw[this _ (by omega),<-e1]
  have key: ∀(m r num:Nat) (s:Law.Mk),r+m=(l 0).no->ofW (l i).cell (fun c=>((l 0).sz c).toNat) (fun c=>((l 0).od c).toNat) (b6y (l 0).sz (l 0).ns) m r num s=ofW (l i).cell (fun c=>((l i).sz c).toNat) (fun c=>((l i).od c).toNat) (b6y (l i).sz (l i).ns) m r num s:=by
   intro m
   induction m with
   |zero=>intro r num s _;rfl
   |succ m ih=>
    intro r num s hr
    have q1:=(k5 r (by omega)).1
    rw[ofW,ofW]
    have q2:(l i).od r=(l 0).od r:=(e4 r (by omega)).symm
    rw[q2,<-hstr _ (by omega),<-e2 _ (by omega),a7h (fun k hk s=>ih (r+1) _ s (by omega)) s]
  show ofW _ _ _ _ _ _ _ _=ofW _ _ _ _ (l i).no _ _ _
  rw[<-e3]
  exact key _ 0 0 s0 (by show 0+(l 0).no=_;omega)
 rw[hown] at hof
 have hout:Run.chg l (l 0).no (l 0).od i=e0b (OfR.of (l 0) (l i) (l 0).no (l 0).od) ⟨(l i).E,(l i).N,fun _=>none⟩ (l i).root:=by
  unfold Run.chg OfR.out
  rw[hof]
 refine⟨by rw[hout];exact hf.1.symm,by rw[hout];exact hf.2.symm,?_,?_,by rw[hout];rfl⟩
 ·rw[hout]
  exact (a9g (l i).E ⟨0,0⟩).symm
 ·rw[hout]
  refine (Eq.trans (a3i fun j hj=> ?_) (a9g (l i).N ⟨0,[]⟩)).symm
  exact e4a _
end
theorem e1c {a b:DiR}(h:a6o a b):RL a.row b.row:=by
 obtain⟨h1,h2,h3,h4,h5⟩:=h
 obtain⟨e1,e2⟩:=a2w.1 h1
 obtain⟨e3,e4⟩:=a2w.1 h2
 obtain⟨e5,e6⟩:=a2w.1 h3
 obtain⟨e7,e8⟩:=a8z.1 h4
 refine .cons (.sl e1 fun i hi=> .one (.int (e2 i hi))) (.cons (.sl e3 fun i hi=> .one (.int (e4 i hi))) (.cons (.sl e5 fun i hi=>by rw[e6 i hi];exact .refl _) (.cons (.sl e7 fun i hi=> ?_) (.one (.int h5)))))
 obtain⟨k1,k2⟩:=e8 i hi
 obtain⟨k3,k4⟩:=a2w.1 k2
 exact .cons (.int k1) (.one (.sl k3 fun j hj=> .one (.int (k4 j hj))))
theorem c0v {n:Nat}{a b:Nat->DiR}(h: ∀i,i<n->a6o (a i) (b i)):a0b (dsl n a) (dsl n b):=a0b.slr rfl fun i hi=>e1c (h i hi)
theorem a6o.symm {a b:DiR}(h:a6o a b):a6o b a:=⟨h.1.symm,h.2.1.symm,h.2.2.1.symm,h.2.2.2.1.symm,h.2.2.2.2.symm⟩
theorem e2x {C:Nat->VaR}{sz od od' str:Nat->Nat}: ∀(m r num:Nat) (s:Law.Mk),(∀i,r<=i->i<r+m->od i=od' i)->ofW C sz od str m r num s=ofW C sz od' str m r num s
 |0,r,num,s,h=>rfl
 |m+1,r,num,s,h=>by
  rw[ofW,ofW,h r (Nat.le_refl _) (by omega),a7h (fun k hk s=>e2x m (r+1) _ s fun i h1 h2=>h i (by omega) (by omega)) s]
section
variable {n:Nat} {l:Nat->DiR}
theorem d7o {no:Nat}{od od':Nat->Int}(h: ∀j,j<no->od j=od' j)(i:Nat):a6o (chg l no od i) (chg l no od' i):=by
 have e:(OfR.of (l 0) (l i) no od).make=(OfR.of (l 0) (l i) no od').make:=e2x _ 0 0 s0 fun j _ hj=>by
  show (od j).toNat=(od' j).toNat
  rw[h j (by have:j<0+no:=hj;omega)]
 have e2:chg l no od i=e0b (OfR.of (l 0) (l i) no od) (OfR.of (l 0) (l i) no od').make.1 (OfR.of (l 0) (l i) no od').make.2:=by
  show e0b _ _ _=_
  rw[e]
 rw[e2]
 exact⟨rfl,a3i h,rfl,rfl,rfl⟩
theorem h3g {no:Nat}{od od':Nat->Int}(h: ∀j,j<no->od j=od' j):a0b (dsl n (chg l no od)) (dsl n (chg l no od')):=c0v fun i _=>d7o h i
theorem a0x.likeOwn (h:a0x n l):a0b (dsl n (Run.chg l (l 0).no (l 0).od)) (dsl n l):=c0v fun i hi=>(h.own hi).symm
theorem a0x.same (h:a0x n l):a0j Tryz.prog true 27 [dsl n l,dsl n l] (bool true):=
 h0p (by have:=h.pos.2;omega) l fun i hi=>⟨⟨(h.fit i hi).ns,(h.fit i hi).no,(h.fit i hi).ne,(h.fit i hi).nn⟩,(h.fit i hi).nk⟩
theorem a0x.chgLike2 (h:a0x n l){no no':Nat}{od od':Nat->Int}(hfr:a2e (l 0).ns no (l 0).sz od=0)(hfr':a2e (l 0).ns no' (l 0).sz od'=0):a0b (dsl n (Run.chg (Run.chg l no od) no' od')) (dsl n (Run.chg l no' od')):=
 c0v fun i hi=>by rw[h.chg2 hfr hfr' hi];exact⟨rfl,rfl,rfl,rfl,rfl⟩
theorem a0x.back (h:a0x n l){no:Nat}{od od':Nat->Int}(hfr:a2e (l 0).ns no (l 0).sz od=0)(hd: ∀j,j<(l 0).no->od' j=(l 0).od j):a0b (dsl n (Run.chg (Run.chg l no od) (l 0).no od')) (dsl n l):=by
 have h0:=(h.di 0 h.pos.1).fr
 have h1:a2e (l 0).ns (l 0).no (l 0).sz od'=0:=by
  rw[h.frOf] at h0⊢
  obtain⟨q1,q2⟩:=h0
  refine⟨q1,fun i hi=> ?_⟩
  rw[hd i hi]
  exact⟨(q2 i hi).1,fun k hk=>by rw[hd k (by omega)];exact (q2 i hi).2 k hk⟩
 exact (h.chgLike2 hfr h1).trans ((h3g hd).trans h.likeOwn)
end
section
variable {P:Program} {A:Ann} {ro:Option Nat} {E:Ent} {Sg:Sig}
theorem h5i (hS:Sg=std P A ro E){z:Int}(h:0<=z/\z<=255):Sg.iwrap .i64 z=z:=by rw[(a5x hS).iwrap];exact a0h (by omega) (by omega)
end
end Go.Proofs.Tryz.Run
