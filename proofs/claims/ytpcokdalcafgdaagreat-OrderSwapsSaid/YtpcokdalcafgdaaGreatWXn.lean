/- The reference's Of. The reference's list of the cells of a diagram. A family in another order: the reference's. Conditions: none. -/
import Derived.Test.YtpcokdalcafgdaaGreatWLq
import Derived.Test.YtpcokdalcafgdaaGreatWNa
import Derived.Test.YtpcokdalcafgdaaGreatWNc
import Derived.Test.YtpcokdalcafgdaaGreatWLh
import Derived.Test.YtpcokdalcafgdaaGreatWNb
import Derived.Test.YtpcokdalcafgdaaGreatWOh
import Derived.Test.YtpcokdalcafgdaaGreatWPm0
import Derived.Test.YtpcokdalcafgdaaGreatWQd
import Derived.Test.YtpcokdalcafgdaaGreatWQf
import Derived.Test.YtpcokdalcafgdaaGreatWQh
import Derived.Test.YtpcokdalcafgdaaGreatWQi
import Derived.Test.YtpcokdalcafgdaaGreatWSd
import Derived.Test.YtpcokdalcafgdaaGreatWSq
import Derived.Test.YtpcokdalcafgdaaGreatWSv
import Derived.Test.YtpcokdalcafgdaaGreatWSy
import Derived.Test.YtpcokdalcafgdaaGreatWUf
import Derived.Test.YtpcokdalcafgdaaGreatWUi
import Derived.Test.YtpcokdalcafgdaaGreatWXf
import Derived.Test.YtpcokdalcafgdaaGreatWXi
import Derived.Test.YtpcokdalcafgdaaGreatWXk
set_option linter.unusedSimpArgs false
set_option linter.unusedVariables false
set_option maxHeartbeats 0
set_option maxRecDepth 100000
namespace Go.Proofs.Tryz.Run
open Go Go.Vf Go.Proofs
open Go.Proofs.YtpcokdalcafgdaaGreat
def OfR.make (o:OfR):Law.Mk×Int:=ofW o.C o.sN o.oN o.str o.no 0 0 s0
def OfR.out (o:OfR):DiR:=e0b o o.make.1 o.make.2
theorem e4z {p:PtR}{s:Law.Mk}(h:p.is s):a0b (.d (.sl 2 p.qe fun j=>[.int .u8 (.v (p.ef j)),.int .i64 (.v (p.en j))])) (vsl s.oe.length fun i=>s.oe.getD i ⟨0,0⟩):=
 a0b.sl' h.qe fun i hi=>by
  have h1:s.oe.getD i ⟨0,0⟩=⟨p.ef i,p.en i⟩:=by
   rw[<-h.oe,veL,List.getD,a6x,if_pos hi];rfl
  show _=(s.oe.getD i ⟨0,0⟩).row
  rw[h1];rfl
theorem e0s {p:PtR}{s:Law.Mk}(h:p.is s):a0b (.d (.sl 2 p.qn fun j=>[.int .i64 (.v (p.av j)),.sl 1 (p.an j) fun k=>[.int .i64 (.v (p.ak j k))]])) (bsl s.on.length (fun i=>(s.on.getD i ⟨0,[]⟩).var) (fun i=>(s.on.getD i ⟨0,[]⟩).kids.length) fun i j=>(s.on.getD i ⟨0,[]⟩).kids.getD j 0):=
 a0b.slr h.qn fun i hi=>by
  have h1:s.on.getD i ⟨0,[]⟩=⟨p.av i,L (p.an i) (p.ak i)⟩:=by
   rw[<-h.on,ndL,List.getD,a6x,if_pos hi];rfl
  simp only[h1]
  refine .cons (.int rfl) (.one (.sl (a0k _ _).symm fun j hj=> .one (.int ?_)))
  simp[L,hj,IX.val]
def p00:PtR:=⟨0,fun _=>0,fun _=>0,0,fun _=>0,fun _=>0,fun _ _=>0⟩
def h46 (o:OfR):List a0i:=[.var [.d .nil,.d .nil,.d .nil,.d .nil,int 0],.var [isl o.ns o.sz,isl o.no o.od,.d .nil,.d .nil,int 0],arrI o.ns fun _=>0]
theorem f7g (o:OfR)(s:Law.Mk)(t:Int)(hpt:a0g Tryz.prog 81 (ptA o p00 0 0) (p00.h++[arrI o.ns fun _=>0]) (ptK o (fun _=>0) 0 s t)):
 a0g Tryz.prog 81 [.agg [isl o.ns o.sz,isl o.no o.od,.d .nil,.d .nil,int 0],vsl o.T o.C,int 0,.msl 2 1 none o.ns false] (h46 o)
  (fun pg v h'=> ∃pg1,c8w (h46 o++[arV 0 (fun _=>0) (fun _=>0),arB 0 (fun _=>0) (fun _=>0) (fun _ _=>0)]) [3,4,2] (ptK o (fun _=>0) 0 s t) pg1 v h'/\pg=pg1.filter fun l=>decide (l<3)):=by
 have hfr:=a0g.frame (args':=[.agg [isl o.ns o.sz,isl o.no o.od,.msl 3 2 none 0 false,.msl 4 2 none 0 false,int 0],vsl o.T o.C,int 0,.msl 2 1 none o.ns false]) hpt (H:=h46 o++[arV 0 (fun _=>0) (fun _=>0),arB 0 (fun _=>0) (fun _=>0) (fun _ _=>0)]) [3,4,2] rfl rfl
  (show _/\_ from⟨a0f.refl _,a0f.refl _,a0f.refl _,trivial⟩)
 have h2:=a0g.nilA (cs:=[isl o.ns o.sz,isl o.no o.od,.msl 3 2 none 0 false,.d .nil,int 0]) (h:=h46 o++[arV 0 (fun _=>0) (fun _=>0)]) 2 _ hfr ⟨.inl rfl,.inl rfl,.inl rfl,.inr ⟨rfl,rfl⟩,.inl rfl,trivial⟩
 have h1:=a0g.nilA (cs:=[isl o.ns o.sz,isl o.no o.od,.d .nil,.d .nil,int 0]) (h:=h46 o) 2 _ h2 ⟨.inl rfl,.inl rfl,.inr ⟨rfl,rfl⟩,.inl rfl,.inl rfl,trivial⟩
 exact h1.pgs
theorem f8r (o:OfR)(ho:o.ok)(s:Law.Mk)(t:Int)
 (hpt:a0g Tryz.prog 81 (ptA o p00 0 0) (p00.h++[arrI o.ns fun _=>0]) (ptK o (fun _=>0) 0 s t)):
 a0j Tryz.prog false 46 [isl o.ns o.sz,isl o.no o.od,vsl o.T o.C] (e0b o s t).av:=by
 obtain⟨res,hres⟩: ∃res,res=(e0b o s t).av:=⟨_,rfl⟩
 rw[<-hres]
 have hns:=ho.ns
 have hno:=ho.no
 obtain⟨ns,sz,no,od,T,C,str⟩:=o
 simp only at hns hno
 refine a0d Tryz.mixed okP f8a _ rfl fun E Sg hb hS=> ?_
 have e:=a5x hS
 cbv
 simp only[e.ofNat,e.toNat,Int.toNat_natCast]
 refine a0a hS (b0h hS (show ns<=1073741824 by omega)) (a0a hS (b0h hS (show no<=1073741824 by omega)) (a0a hS (b0e hS (Int.natCast_nonneg _)) (a0a hS (b0e hS (Int.ofNat_le.2 (show ns<=1073741824 by omega))) ?_)))
 refine a1a hS (((f7g ⟨ns,sz,no,od,T,C,str⟩ s t hpt).heap (.cons (.var (.cons (a0b.refl _) (.cons (a0b.refl _) (.cons (a0b.refl _) (.cons (a0b.refl _) (.cons (a1m rfl) .nil)))))) (.cons (.var (.cons (a0b.refl _) (.cons (a0b.refl _) (.cons (a0b.refl _) (.cons (a0b.refl _) (.cons (a1m rfl) .nil)))))) (.cons (b8y hS fun j hj=> .one (.int rfl)) (.nil _)))) rfl)) ?_
 rintro pg v H' ⟨pg1,⟨pg0,v0,h0,⟨rfl,p,hp,rfl,rfl⟩,rfl,rfl,rfl⟩,hpg⟩
 have hpg0:pg=[]:=hpg
 subst hpg0
 clear hpg
 have he:=e4z hp
 have hn:=e0s hp
 obtain⟨qe,ef,en,qn,av,an,ak⟩:=p
 cbv
 refine a0a hS (b0h hS (Nat.le_refl _)) (a0a hS (b0h hS (Nat.le_refl _)) ?_)
 subst hres
 exact a1r.agg (.cons (a0b.refl _) (.cons (a0b.refl _) (.cons he (.cons hn (.cons (a0b.refl _) .nil)))))
def b6y (sz:Nat->Int)(ns i:Nat):Nat:=(a2s sz ns (ns-1-i)).toNat
theorem d7a {ns no T:Nat}{sz od:Nat->Int}{C:Nat->VaR}(hfr:a2e ns no sz od=0)(hT:(T:Int)=prod sz ns)(hc: ∀i,i<T->a2c (C i)/\0<=(C i).fault):OfR.full ⟨ns,sz,no,od,T,C,b6y sz ns⟩:=by
 obtain⟨h1,h2,h3,h4,h5⟩:=a1k hfr
 have hbd:=b4b h2 h3
 have hs: ∀i,i<ns->(b6y sz ns i:Int)=a2s sz ns (ns-1-i):=fun i hi=>Int.toNat_of_nonneg (by have:=(hbd (ns-1-i) (by omega)).1;omega)
 refine⟨⟨h1,by simp only;omega,by simp only;omega,h2,fun i hi=> ?_,fun i hi=> ?_,fun i hi=> ?_⟩,hfr,hs⟩
 ·have:=(h5 i hi).1;simp only;omega
 ·obtain⟨a,b⟩:=hc i hi
  unfold a2c at a
  simp only
  split at a<;>omega
 ·have:=(hbd (ns-1-i) (by omega)).2;have:=hs i hi;simp only;omega
theorem OfR.full.od {o:OfR}(h:o.full): ∀i,i<o.no->o.oN i<o.no/\ ∀k,k<i->o.oN k≠o.oN i:=fun i hi=>by
 obtain⟨h1,h2⟩:=(a1k h.fr).2.2.2
 obtain⟨h3,h4⟩:=h2 i hi
 unfold OfR.oN
 refine⟨by omega,fun k hk=> ?_⟩
 have h5:=h4 k hk
 have h6:=(h2 k (by omega)).1
 omega
theorem f2a {sz:Nat->Int}: ∀{n:Nat},(∀i,i<n->1<=sz i)->(((L n fun i=>(sz i).toNat).prod:Nat):Int)=prod sz n
 |0,_=>rfl
 |n+1,h=>by
  rw[a7n,List.prod_append,prod,<-f2a (n:=n) fun i hi=>h i (by omega)]
  simp
  rw[Int.max_eq_left (by have:=h n (by omega);omega)]
theorem c9c {sz:Nat->Int}{ns:Nat}(hs: ∀i,i<ns->1<=sz i/\sz i<=12)(hp:prod sz ns<=2000): ∀m,m<=ns->(L m fun c=>((sz c).toNat-1)*b6y sz ns c).sum+(a2s sz ns (ns-m)).toNat=(a2s sz ns ns).toNat
 |0,_=>by simp[L]
 |m+1,h=>by
  have ih:=c9c hs hp m (by omega)
  obtain⟨q,hq⟩: ∃q,ns-m=q+1:=⟨ns-m-1,by omega⟩
  have hb:=(b4b hs hp q (by omega)).1
  have hm:=(hs m (by omega)).1
  rw[hq,a2s,show ns-1-q=m by omega] at ih
  rw[a7n,List.sum_append,<-ih,show ns-(m+1)=q by omega,b6y,show ns-1-m=q by omega]
  obtain⟨x,hx⟩: ∃x:Nat,sz m=x+1:=⟨(sz m).toNat-1,by omega⟩
  obtain⟨y,hy⟩: ∃y:Nat,a2s sz ns q=y:=⟨(a2s sz ns q).toNat,by omega⟩
  rw[hx,hy,show ((y:Int)*((x:Int)+1)).toNat=y*(x+1) from by rw[show (y:Int)*((x:Int)+1)=((y*(x+1):Nat):Int) from rfl,Int.toNat_natCast],show ((x:Int)+1).toNat=x+1 from rfl]
  simp only[List.sum_cons,List.sum_nil,Nat.add_sub_cancel,Int.toNat_natCast]
  rw[Nat.mul_add,Nat.mul_one,Nat.mul_comm y x]
  omega
theorem OfR.full.span {o:OfR}(h:o.full)(hT:(o.T:Int)=prod o.sz o.ns)(hst:o.str=b6y o.sz o.ns):0+a9b o.sN o.oN o.str o.no 0<o.T:=by
 obtain⟨h1,h2,h3,h4,_⟩:=a1k h.fr
 rw[c3y]
 simp only[Nat.zero_add]
 rw[c9x h.od fun c=>(o.sN c-1)*o.str c,h4,hst]
 have h5:=c9c h2 h3 o.ns (Nat.le_refl _)
 have h6:=a6m o.sz o.ns o.ns (Nat.le_refl _)
 rw[Nat.sub_self,prod,Int.one_mul] at h6
 have e:(L o.ns fun c=>(o.sN c-1)*b6y o.sz o.ns c)=L o.ns fun c=>((o.sz c).toNat-1)*b6y o.sz o.ns c:=rfl
 rw[e]
 rw[Nat.sub_self,h6,<-hT,Int.toNat_natCast,show (a2s o.sz o.ns 0).toNat=1 from rfl] at h5
 omega
theorem OfR.full.bounds {o:OfR}(h:o.full)(hT:(o.T:Int)=prod o.sz o.ns):a2m o.sN o.oN o.no 0=o.T/\a2g o.sN o.oN o.no 0<=12000:=by
 obtain⟨h1,h2,h3,h4,_⟩:=a1k h.fr
 have he:a2m o.sN o.oN o.no 0=o.T:=by
  rw[b7q]
  simp only[Nat.zero_add]
  rw[d3v h.od,h4]
  have:=f2a (sz:=o.sz) (n:=o.ns) fun i hi=>(h2 i hi).1
  have e:(L o.ns o.sN)=L o.ns fun i=>(o.sz i).toNat:=rfl
  rw[e]
  omega
 refine⟨he,?_⟩
 have h5:=(a7i (sz:=o.sN) (od:=o.oN) o.no 0 fun i _ hi=>by
  have:=h.od i (by omega)
  have:=(h2 (o.oN i) (by omega)).1
  unfold OfR.sN;omega).2
 have h6:=h.ok.T
 have h7:=h.ok.no
 rw[he] at h5
 have h8:o.no*o.T<=6*2000:=Nat.mul_le_mul h7 h6
 omega
theorem e8s {o:OfR}(h:o.full)(hT:(o.T:Int)=prod o.sz o.ns)(hst:o.str=b6y o.sz o.ns)(hco: ∀i,i<o.T->a2c (o.C i)):
 a0j Tryz.prog false 95 [isl o.ns o.sz,isl o.no o.od,vsl o.T o.C] (.tuple [o.out.av,int 0])/\a0j Tryz.prog false 46 [isl o.ns o.sz,isl o.no o.od,vsl o.T o.C] o.out.av:=by
 obtain⟨b1,b2⟩:=h.bounds hT
 have hsp:=h.span hT hst
 have hTb:=h.ok.T
 refine⟨of95 o h.fr hT h.ok.cell hco h.str _ _ ?_,f8r o h.ok _ _ ?_⟩
 ·exact f5u o h.ok o.no 0 0 s0 0 0 _ _ _ _ (by omega) hsp ⟨rfl,rfl,by simp[s0],by simp[s0],by simp[s0],by simp[s0],by simp[s0]⟩ (by simp[s0];omega) (by simp[s0];omega)
 ·refine f3u o h 0 o.no 0 0 (fun _=>0) s0 p00 (by omega) hsp (fun i hi=>⟨Int.le_refl _,by have:=(h.ok.sz i hi).1;omega⟩) (fun i _ _=>rfl) ?_ ⟨rfl,rfl,by simp[p00]⟩ (by simp[s0];omega) (by simp[s0];omega)
  have: ∀m,b0g o.sz (fun _=>0) m=0:=fun m=>by
   induction m with
   |zero=>rfl
   |succ m ih=>rw[b0g,ih];simp
  exact this _
theorem c6c {d:DiR}(hl:a1s d){pl:Nat->Int}(hp:d2d d pl): ∀k:Int,a4g d.ne k d.nn->wayE d pl k<0/\ -1-wayE d pl k<d.ne:=by
 have: ∀(m:Nat) (k:Int),k<m->a4g d.ne k d.nn->wayE d pl k<0/\ -1-wayE d pl k<d.ne:=by
  intro m
  induction m with
  |zero=>intro k hm hr;rw[a2j (by omega)];exact⟨by omega,hr.2 (by omega)⟩
  |succ m ih=>
   intro k hm hr
   by_cases h0:k<0
   ·rw[a2j h0];exact⟨h0,hr.2 h0⟩
   ·obtain⟨i,rfl⟩: ∃i:Nat,k=i:=⟨k.toNat,by omega⟩
    have hi:i<d.nn:=by have:=hr.1 (by omega);omega
    rw[a5n hl hp hi]
    have h1:=(a8b hl hp hi).2.2
    refine ih _ ?_ ⟨fun h=>by have:=h1.1 h;omega,h1.2⟩
    rcases Int.lt_or_le (d.kid i (pl (d.var i).toNat).toNat) 0 with h|h
    ·omega
    ·have:=h1.1 h;omega
 intro k hr
 exact this (k.toNat+1) k (by omega) hr
def OfR.of (d0 d:DiR)(no:Nat)(od:Nat->Int):OfR:=⟨d0.ns,d0.sz,no,od,(prod d0.sz d0.ns).toNat,d.cell,b6y d0.sz d0.ns⟩
def chg (l:Nat->DiR)(no:Nat)(od:Nat->Int)(i:Nat):DiR:=(OfR.of (l 0) (l i) no od).out
theorem c9g.T {d:DiR}(h:c9g d):(((prod d.sz d.ns).toNat:Nat):Int)=prod d.sz d.ns:=
 Int.toNat_of_nonneg (by have:=a4m (g:=d.sz) (n:=d.ns) fun i hi=>((a1k h.fr).2.1 i hi).1;omega)
theorem c9g.cells {d:DiR}(h:c9g d)(h0: ∀j,j<d.ne->0<=(d.en j).fault): ∀p:Nat,(p:Int)<prod d.sz d.ns->a2c (d.cell p)/\0<=(d.cell p).fault:=fun p hp=>by
 have hs:=(a8e (n:=d.ns) (fun j hj=>((a1k h.fr).2.1 j hj).1) p hp).1
 obtain⟨a,b⟩:=c6c h.loose (pl:=a9d d.sz d.ns p) hs d.root (a3f h.loose.2.2)
 have hi:(-1-wayE d (a9d d.sz d.ns p) d.root).toNat<d.ne:=by omega
 exact⟨h.loose.1 _ hi,h0 _ hi⟩
theorem b1u {n m:Nat}{g h:Nat->Int}(e:L n g=L m h):prod g n=prod h m:=by
 obtain⟨rfl,e2⟩:=a2w.1 e
 clear e
 induction n with
 |zero=>rfl
 |succ n ih=>rw[prod,prod,ih fun i hi=>e2 i (by omega),e2 n (by omega)]
section
variable {n:Nat} {l:Nat->DiR}
theorem a0x.ofFull (h:a0x n l){no:Nat}{od:Nat->Int}(hfr:a2e (l 0).ns no (l 0).sz od=0){i:Nat}(hi:i<n):(OfR.of (l 0) (l i) no od).full/\(((OfR.of (l 0) (l i) no od).T:Nat):Int)=prod (l 0).sz (l 0).ns/\ ∀j,j<(OfR.of (l 0) (l i) no od).T->a2c ((OfR.of (l 0) (l i) no od).C j):=by
 have hT:=(h.di 0 h.pos.1).T
 have hc: ∀j,j<(OfR.of (l 0) (l i) no od).T->a2c ((l i).cell j)/\0<=((l i).cell j).fault:=fun j hj=>by
  refine (h.di i hi).cells (h.flt i hi) j ?_
  rw[<-b1u (h.fr i hi).1,<-hT]
  exact Int.ofNat_lt.2 hj
 exact⟨d7a hfr hT hc,hT,fun j hj=>(hc j hj).1⟩
theorem a0x.of95 (h:a0x n l){no:Nat}{od:Nat->Int}(hfr:a2e (l 0).ns no (l 0).sz od=0){i:Nat}(hi:i<n):a0j Tryz.prog false 95 [isl (l 0).ns (l 0).sz,isl no od,vsl (prod (l i).sz (l i).ns).toNat (l i).cell] (.tuple [(chg l no od i).av,int 0]):=by
 obtain⟨h1,h2,h3⟩:=h.ofFull hfr hi
 refine a0j.like (.cons (a0b.refl _) (.cons (a0b.refl _) (.cons ?_ .nil))) (e8s h1 h2 rfl h3).1
 rw[<-b1u (h.fr i hi).1]
 exact a0b.refl _
end
end Go.Proofs.Tryz.Run
