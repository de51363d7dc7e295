/- The program's Swap and Move of a family. The program's Swap and Move of a family, walked. OrderChanges answers true: the walk. Conditions: none. -/
import Derived.Test.YtpcokdalcafgdaaGreatZXt
import Derived.Test.YtpcokdalcafgdaaGreatZXc
set_option linter.unusedSimpArgs false
set_option linter.unusedVariables false
namespace Go.Proofs.Tryz.Run
open Go Go.Vf Go.Proofs
open Go.Proofs.YtpcokdalcafgdaaGreat
def mvd (n:Nat)(g:Nat→Int)(p q:Nat):Nat→Int:=inF q (g p) (outF p n g)
def srcF (p q j:Nat):Nat:=if j<q then (if j<p then j else j+1) else if j=q then p else (if j-1<p then j-1 else j)
theorem srcF_ok {n p q:Nat}(hp:p<n)(hq:q<n):(∀j,j<n→srcF p q j<n)∧ ∀i j,i<n→j<n→srcF p q i=srcF p q j→i=j:=by
 refine⟨fun j hj=> ?_,fun i j hi hj=> ?_⟩
 ·unfold srcF;(repeat' split)<;>omega
 ·unfold srcF;(repeat' split)<;>omega
theorem mvd_src {n p q:Nat}(hp:p<n)(hq:q<n)(g:Nat→Int){j:Nat}(hj:j<n):mvd n g p q j=g (srcF p q j):=by
 unfold mvd inF outF srcF
 (repeat' split)<;>first|omega|rfl|(congr 1<;>omega)
theorem isOrd.inj {n m:Nat}{g:Nat→Int}(h:isOrd n m g): ∀i j,i<m→j<m→g i=g j→i=j:=fun i j hi hj e=>by
 rcases Nat.lt_trichotomy i j with hl|hl|hl
 ·exact absurd e ((h.2 j hj).2 i hl)
 ·exact hl
 ·exact absurd e.symm ((h.2 i hi).2 j hl)
theorem isOrd.mvd {n p q:Nat}{g:Nat→Int}(h:isOrd n n g)(hp:p<n)(hq:q<n):isOrd n n (mvd n g p q):=by
 obtain⟨s1,s2⟩:=srcF_ok hp hq
 refine⟨rfl,fun i hi=>⟨?_,fun k hk=> ?_⟩⟩
 ·rw[mvd_src hp hq g hi];exact (h.2 _ (s1 i hi)).1
 ·rw[mvd_src hp hq g hi,mvd_src hp hq g (by omega)]
  intro e
  have:=s2 _ _ (by omega) hi (h.inj _ _ (s1 _ (by omega)) (s1 _ hi) e)
  omega
theorem isOrd.at {n:Nat}{g:Nat→Int}(h:isOrd n n g){v:Int}(hv:0≤v∧v≤(n:Int)-1): ∃p,p<n∧g p=v:=by
 have h1:=ord_perm (n:=n) (od:=fun i=>(g i).toNat) fun i hi=>⟨by have:=(h.2 i hi).1;omega,fun k hk=>by
  have a:=(h.2 i hi).1
  have b:=(h.2 k (by omega)).1
  have c:=(h.2 i hi).2 k hk
  omega⟩
 have h2:v.toNat∈L n fun i=>i:=by simp[L];omega
 obtain⟨p,hp,e⟩: ∃p,p<n∧(g p).toNat=v.toNat:=by simpa [L] using h1.mem_iff.2 h2
 exact⟨p,hp,by have:=(h.2 p hp).1;omega⟩
section
variable {n:Nat} {l:Nat→DiR}
theorem FamOk.ord (h:FamOk n l):isOrd (l 0).ns (l 0).no (l 0).od:=by
 have:=(h.di 0 h.pos.1).fr
 unfold frErr at this
 split at this
 ·omega
 split at this
 ·omega
 split at this
 ·omega
 split at this
 ·assumption
 ·omega
theorem FamOk.frOf (h:FamOk n l)(m:Nat)(g:Nat→Int):frErr (l 0).ns m (l 0).sz g=0↔isOrd (l 0).ns m g:=by
 have:=(h.di 0 h.pos.1).fr
 unfold frErr at this⊢
 split at this
 ·omega
 split at this
 ·omega
 split at this
 ·omega
 rename_i a b c
 rw[if_neg a,if_neg b,if_neg c]
 split
 ·rename_i h;exact⟨fun _=>h,fun _=>rfl⟩
 ·rename_i h;exact⟨fun e=>by omega,fun e=>absurd e h⟩
end
end Go.Proofs.Tryz.Run
set_option linter.unusedSimpArgs false
set_option linter.unusedVariables false
namespace Go.Proofs.Tryz.Run
open Go Go.Vf Go.Proofs
open Go.Proofs.YtpcokdalcafgdaaGreat
section
variable {n ns no q k x:Nat} {sz o1 u:Nat→Int} {e0 e3 e4 e5:Nat→List DV} {d1 d2 d4:DV}
set_option maxHeartbeats 4000000 in
theorem swap36n {a:Int}(hno:no≤1000000)(h54:PureF Tryz.prog false 54 [.d (.sl 5 n e0)] (.tuple [.agg [isl ns sz,isl no o1,.d (.sl 5 q e3),.d (.sl 1 k e4)],int 0]))(ha: ¬(0≤a∧a≤(no:Int)-2)):
 PureF Tryz.prog false 36 [.d (.sl 5 n e0),int a] (.tuple [.d .nil,int 3]):=by
 have h78:=within78o 0 ((no:Int)-2) a false (by simpa using ha)
 have hb9: -9223372036854775808≤(no:Int)-2∧(no:Int)-2≤9223372036854775807:=by omega
 refine pureF_of_fn Tryz.mixed okP ok36 _ rfl fun E Sg hb hS=> ?_
 have e:=stdE hS
 cbv
 refine callb_i hS _ h54 ?_
 cbv
 split
 ·rename_i h;exact absurd rfl (t_ne hS h)
 cbv
 refine req_i hS (by subst hS;exact wrap64 hb9.1 hb9.2) ?_
 refine callb_i hS (bool false) (by subst hS;exact h78) ?_
 cbv
 exact Likes.tuple (.cons (Like.refl _) (.cons (lk_l rfl) .nil))
set_option maxHeartbeats 4000000 in
set_option maxRecDepth 100000 in
theorem swap36y {p:Nat}{w:Int}(hw:w=(p:Int)+1)(hno:no≤1000000)(h54:PureF Tryz.prog false 54 [.d (.sl 5 n e0)] (.tuple [.agg [isl ns sz,isl no o1,.d (.sl 5 q e3),.d (.sl 1 k e4)],int 0]))(ha:p+2≤no)
 (h65:PureF Tryz.prog false 65 [.agg [isl ns sz,isl no o1],int (o1 p),int w] (isl no u))
 (h64:PureF Tryz.prog false 64 [.agg [isl ns sz,isl no o1,.d (.sl 5 q e3),.d (.sl 1 k e4)],isl no u] (.agg [.d d1,.d d2,.d (.sl 5 x e5),.d d4])):
 PureF Tryz.prog false 36 [.d (.sl 5 n e0),int p] (.tuple [.d (.sl 5 x e5),int 0]):=by
 have h78:=within78o 0 ((no:Int)-2) p true (by simp;omega)
 have hb9: -9223372036854775808≤(no:Int)-2∧(no:Int)-2≤9223372036854775807:=by omega
 refine pureF_of_fn Tryz.mixed okP ok36 _ rfl fun E Sg hb hS=> ?_
 have e:=stdE hS
 cbv
 refine callb_i hS _ h54 ?_
 cbv
 split
 ·rename_i h;exact absurd rfl (t_ne hS h)
 cbv
 refine req_i hS (by subst hS;exact wrap64 hb9.1 hb9.2) ?_
 refine callb_i hS (bool true) (by subst hS;exact h78) ?_
 cbv
 refine req_i hS (i_inc hS (by omega)) (req_i hS (i_inbN hS (by omega)) ?_)
 simp only[show Sg.iadd (Int.ofNat p) (Int.ofNat 1)=w from by rw[e.iadd];exact hw.symm]
 simp only[nat,e.toNat,Int.ofNat_eq_natCast,Int.toNat_natCast]
 refine callb_i hS _ h65 ?_
 cbv
 refine req_i hS (i_same hS) ?_
 refine callb_i hS _ h64 ?_
 cbv
 exact Likes.tuple (.cons (Like.refl _) (.cons (lk_l rfl) .nil))
set_option maxHeartbeats 4000000 in
theorem move37n {a b:Int}(hno:no≤1000000)(h54:PureF Tryz.prog false 54 [.d (.sl 5 n e0)] (.tuple [.agg [isl ns sz,isl no o1,.d (.sl 5 q e3),.d (.sl 1 k e4)],int 0]))(ha: ¬((0≤a∧a≤(no:Int)-1)∧0≤b∧b≤(no:Int)-1)):
 PureF Tryz.prog false 37 [.d (.sl 5 n e0),int a,int b] (.tuple [.d .nil,int 3]):=by
 have h78:=within78t 0 ((no:Int)-1) a b false ⟨fun h=>(by cases h),fun h=>absurd h ha⟩
 have hb9: -9223372036854775808≤(no:Int)-1∧(no:Int)-1≤9223372036854775807:=by omega
 refine pureF_of_fn Tryz.mixed okP ok37 _ rfl fun E Sg hb hS=> ?_
 have e:=stdE hS
 cbv
 refine callb_i hS _ h54 ?_
 cbv
 split
 ·rename_i h;exact absurd rfl (t_ne hS h)
 cbv
 refine req_i hS (by subst hS;exact wrap64 hb9.1 hb9.2) ?_
 refine callb_i hS (bool false) (by subst hS;exact h78) ?_
 cbv
 exact Likes.tuple (.cons (Like.refl _) (.cons (lk_l rfl) .nil))
set_option maxHeartbeats 4000000 in
set_option maxRecDepth 100000 in
theorem move37y {a b:Int}(hno:no≤1000000)(h54:PureF Tryz.prog false 54 [.d (.sl 5 n e0)] (.tuple [.agg [isl ns sz,isl no o1,.d (.sl 5 q e3),.d (.sl 1 k e4)],int 0]))(ha:(0≤a∧a≤(no:Int)-1)∧0≤b∧b≤(no:Int)-1)
 (h65:PureF Tryz.prog false 65 [.agg [isl ns sz,isl no o1],int a,int b] (isl no u))
 (h64:PureF Tryz.prog false 64 [.agg [isl ns sz,isl no o1,.d (.sl 5 q e3),.d (.sl 1 k e4)],isl no u] (.agg [.d d1,.d d2,.d (.sl 5 x e5),.d d4])):
 PureF Tryz.prog false 37 [.d (.sl 5 n e0),int a,int b] (.tuple [.d (.sl 5 x e5),int 0]):=by
 have h78:=within78t 0 ((no:Int)-1) a b true ⟨fun h=>ha,fun h=>rfl⟩
 have hb9: -9223372036854775808≤(no:Int)-1∧(no:Int)-1≤9223372036854775807:=by omega
 refine pureF_of_fn Tryz.mixed okP ok37 _ rfl fun E Sg hb hS=> ?_
 have e:=stdE hS
 cbv
 refine callb_i hS _ h54 ?_
 cbv
 split
 ·rename_i h;exact absurd rfl (t_ne hS h)
 cbv
 refine req_i hS (by subst hS;exact wrap64 hb9.1 hb9.2) ?_
 refine callb_i hS (bool true) (by subst hS;exact h78) ?_
 cbv
 refine callb_i hS _ h65 ?_
 cbv
 refine req_i hS (i_same hS) ?_
 refine callb_i hS _ h64 ?_
 cbv
 exact Likes.tuple (.cons (Like.refl _) (.cons (lk_l rfl) .nil))
end
section
variable {n:Nat} {l:Nat→DiR}
def mvF (l:Nat→DiR)(p q:Nat):Nat→DiR:=chg l (l 0).no (mvd (l 0).no (l 0).od p q)
theorem FamOk.ons (h:FamOk n l):(l 0).no=(l 0).ns:=h.ord.1
theorem FamOk.frMv (h:FamOk n l){p q:Nat}(hp:p<(l 0).no)(hq:q<(l 0).no):frErr (l 0).ns (l 0).no (l 0).sz (mvd (l 0).no (l 0).od p q)=0:=by
 rw[h.frOf]
 have:=h.ord
 rw[←h.ons] at this⊢
 exact this.mvd hp hq
theorem FamOk.uniq (h:FamOk n l){p:Nat}(hp:p<(l 0).no): ∀j,j<(l 0).no→((l 0).od j=(l 0).od p↔j=p):=fun j hj=>
 ⟨h.ord.inj j p hj hp,fun e=>by rw[e]⟩
theorem FamOk.moved65 (h:FamOk n l){p q:Nat}(hp:p<(l 0).no)(hq:q<(l 0).no):PureF Tryz.prog false 65 [.agg [isl (l 0).ns (l 0).sz,isl (l 0).no (l 0).od],int ((l 0).od p),int q] (isl (l 0).no (mvd (l 0).no (l 0).od p q)):=
 Run.moved65 (by have:=h.no 0 h.pos.1;omega) (l 0).sz (l 0).od _ hp (h.uniq hp) hq _ fun j hj=>rfl
theorem FamOk.moved44 (h:FamOk n l){p q:Nat}(hp:p<(l 0).no)(hq:q<(l 0).no):PureF Tryz.prog false 44 [isl (l 0).no (l 0).od,int ((l 0).od p),int q] (isl (l 0).no (mvd (l 0).no (l 0).od p q)):=
 Run.moved44 (by have:=h.no 0 h.pos.1;omega) (l 0).od _ hp (h.uniq hp) hq _ fun j hj=>rfl
theorem swap36 (h:FamOk n l)(a:Int):(¬(0≤a∧a≤((l 0).no:Int)-2)→PureF Tryz.prog false 36 [dsl n l,int a] (.tuple [.d .nil,int 3]))∧
 (∀p:Nat,a=(p:Int)→p+2≤(l 0).no→PureF Tryz.prog false 36 [dsl n l,int a] (.tuple [dsl n (mvF l p (p+1)),int 0])):=by
 have h54:=h.open54
 have hno:=h.no 0 h.pos.1
 refine⟨fun ha=> ?_,fun p hp hpn=> ?_⟩
 ·obtain⟨w,rfl⟩: ∃w,n=w+1:=⟨n-1,by have:=h.pos;omega⟩
  exact swap36n (by omega) h54 ha
 ·have h65:=h.moved65 (p:=p) (q:=p+1) (by omega) (by omega)
  have h64:=h.in64 (h.frMv (p:=p) (q:=p+1) (by omega) (by omega))
  obtain⟨w,rfl⟩: ∃w,n=w+1:=⟨n-1,by have:=h.pos;omega⟩
  rw[hp]
  exact swap36y (Int.natCast_succ p) (by omega) h54 (by omega) h65 h64
theorem move37 (h:FamOk n l)(a b:Int):(¬((0≤a∧a≤((l 0).no:Int)-1)∧0≤b∧b≤((l 0).no:Int)-1)→PureF Tryz.prog false 37 [dsl n l,int a,int b] (.tuple [.d .nil,int 3]))∧
 (∀p q:Nat,p<(l 0).no→a=(l 0).od p→b=(q:Int)→q<(l 0).no→PureF Tryz.prog false 37 [dsl n l,int a,int b] (.tuple [dsl n (mvF l p q),int 0])):=by
 have h54:=h.open54
 have hno:=h.no 0 h.pos.1
 refine⟨fun ha=> ?_,fun p q hp e1 e2 hq=> ?_⟩
 ·obtain⟨w,rfl⟩: ∃w,n=w+1:=⟨n-1,by have:=h.pos;omega⟩
  exact move37n (by omega) h54 ha
 ·have h65:=h.moved65 hp hq
  have h64:=h.in64 (h.frMv hp hq)
  have ho:=(h.ord.2 p hp).1
  rw[←h.ons] at ho
  obtain⟨w,rfl⟩: ∃w,n=w+1:=⟨n-1,by have:=h.pos;omega⟩
  rw[e1,e2]
  exact move37y (by omega) h54 ⟨ho,by omega,by omega⟩ h65 h64
end
end Go.Proofs.Tryz.Run
set_option linter.unusedSimpArgs false
set_option linter.unusedVariables false
namespace Go.Proofs.Tryz.Run
open Go Go.Vf Go.Proofs
open Go.Proofs.YtpcokdalcafgdaaGreat
def some3 (ok:Prop)(c:Int)(n:Nat)(k:Nat)(e:Int):Prop:=(ok∧k=n∧e=0)∨(¬ok∧k=0∧e=c)
theorem lk_none {r:Int}{A:Nat→DiR}:Like (.tuple [.d .nil,int r]) (.tuple [dsl 0 A,int r]):=Likes.tuple (.cons (.dl .nil0) (.cons (Like.refl _) .nil))
theorem foldO_all {P:NdR→Prop}{g:Nat→Law.Mk→Law.Mk×Int}(hg: ∀k s,(∀b,b∈s.on→P b)→ ∀b,b∈(g k s).1.on→P b)(s:Law.Mk)(hs: ∀b,b∈s.on→P b): ∀k,∀b,b∈(foldO g k s).1.on→P b
 |0=>hs
 |k+1=>hg k _ (foldO_all hg s hs k)
theorem ofW_all {P:NdR→Prop}{C:Nat→VaR}{sz od str:Nat→Nat}: ∀(m r num:Nat) (s:Law.Mk),(∀i,r≤i→i<r+m→ ∀u,P ⟨(od i:Int),L (sz (od i)) u⟩)→(∀b,b∈s.on→P b)→ ∀b,b∈(ofW C sz od str m r num s).1.on→P b
 |0,r,num,s,_,hs=>hs
 |m+1,r,num,s,h,hs=>by
  have h1:=foldO_all (P:=P) (g:=fun k s=>ofW C sz od str m (r+1) (num+k*str (od r)) s) (fun k s hs=>ofW_all m (r+1) _ s (fun i h1 h2=>h i (by omega) (by omega)) hs) s hs (sz (od r))
  rw[ofW]
  unfold Law.mkNode
  split
  ·exact h1
  ·exact onceE_all h1 (h r (by omega) (by omega) _)
theorem OfR.full.kids {o:OfR}(h:o.full): ∀i,i<o.out.nn→o.out.nk i≤12:=by
 obtain⟨h1,h2,h3,h4,h5⟩:=frErr_ok h.fr
 have ha:=ofW_all (P:=fun b=>b.kids.length≤12) (C:=o.C) (sz:=o.sN) (od:=o.oN) (str:=o.str) o.no 0 0 s0 (fun i _ hi u=>by
  rw[L_length]
  have:=(h.od i (by omega)).1
  have:=(h2 (o.oN i) (by omega)).2
  unfold OfR.sN;omega) (by simp[s0])
 intro i hi
 have hi:i<o.make.1.on.length:=hi
 show (o.make.1.on.getD i ⟨0,[]⟩).kids.length≤12
 refine ha _ ?_
 show o.make.1.on.getD i ⟨0,[]⟩∈o.make.1.on
 rw[List.getD,List.getElem?_eq_getElem hi]
 exact List.getElem_mem hi
section
variable {n:Nat} {l:Nat→DiR}
theorem change40u (h:FamOk n l){m:Nat}(hm:m≤12)(od:Nat→Int): ∃k e,PureF Tryz.prog false 40 [dsl n l,isl m od] (.tuple [dsl k (chg l m od),int e])∧some3 (isOrd (l 0).ns m od) 4 n k e:=by
 obtain⟨h1,h2⟩:=change40 h hm od
 rw[Ne,h.frOf] at h1
 rw[h.frOf] at h2
 by_cases ho:isOrd (l 0).ns m od
 ·exact⟨n,0,h2 ho,.inl ⟨ho,rfl,rfl⟩⟩
 ·exact⟨0,4,PureF.resLike lk_none (h1 ho),.inr ⟨ho,rfl,rfl⟩⟩
theorem swap36u (h:FamOk n l)(a:Int): ∃k e,PureF Tryz.prog false 36 [dsl n l,int a] (.tuple [dsl k (mvF l a.toNat (a.toNat+1)),int e])∧some3 (0≤a∧a≤((l 0).no:Int)-2) 3 n k e:=by
 obtain⟨h1,h2⟩:=swap36 h a
 by_cases ho:0≤a∧a≤((l 0).no:Int)-2
 ·exact⟨n,0,h2 a.toNat (by omega) (by omega),.inl ⟨ho,rfl,rfl⟩⟩
 ·exact⟨0,3,PureF.resLike lk_none (h1 ho),.inr ⟨ho,rfl,rfl⟩⟩
theorem move37u (h:FamOk n l)(a b:Int): ∃k e p,PureF Tryz.prog false 37 [dsl n l,int a,int b] (.tuple [dsl k (mvF l p b.toNat),int e])∧some3 ((0≤a∧a≤((l 0).no:Int)-1)∧0≤b∧b≤((l 0).no:Int)-1) 3 n k e∧
 ((0≤a∧a≤((l 0).no:Int)-1)→p<(l 0).no∧(l 0).od p=a):=by
 obtain⟨h1,h2⟩:=move37 h a b
 by_cases ho:(0≤a∧a≤((l 0).no:Int)-1)∧0≤b∧b≤((l 0).no:Int)-1
 ·have h3:=h.ord
  rw[←h.ons] at h3
  obtain⟨p,hp,e⟩:=h3.at ho.1
  exact⟨n,0,p,h2 p b.toNat hp e.symm (by omega) (by omega),.inl ⟨ho,rfl,rfl⟩,fun _=>⟨hp,e⟩⟩
 ·by_cases h3:0≤a∧a≤((l 0).no:Int)-1
  ·have h4:=h.ord
   rw[←h.ons] at h4
   obtain⟨p,hp,e⟩:=h4.at h3
   exact⟨0,3,p,PureF.resLike lk_none (h1 ho),.inr ⟨ho,rfl,rfl⟩,fun _=>⟨hp,e⟩⟩
  ·exact⟨0,3,0,PureF.resLike lk_none (h1 ho),.inr ⟨ho,rfl,rfl⟩,fun h=>absurd h h3⟩
theorem chg_same (h:FamOk n l){no:Nat}{od:Nat→Int}(hfr:frErr (l 0).ns no (l 0).sz od=0):PureF Tryz.prog true 27 [dsl n (chg l no od),dsl n (chg l no od)] (bool true):=by
 refine equal27r (by have:=h.pos;omega) _ fun i hi=> ?_
 obtain⟨h1,h2,h3⟩:=h.ofFull hfr hi
 obtain⟨b1,b2⟩:=h1.bounds h2
 have hg:=(ofW_grow (C:=(OfR.of (l 0) (l i) no od).C) (str:=(OfR.of (l 0) (l i) no od).str) (sz:=(OfR.of (l 0) (l i) no od).sN) (od:=(OfR.of (l 0) (l i) no od).oN) no 0 0 s0 fun j _ hj=>by
  have h5:(OfR.of (l 0) (l i) no od).oN j<no:=(h1.od j (by show j<no;omega)).1
  have h4:no=(l 0).ns:=(frErr_ok hfr).2.2.2.1
  have h6:=((frErr_ok hfr).2.1 _ (by rw[←h4];exact h5)).1
  show 1≤((l 0).sz ((OfR.of (l 0) (l i) no od).oN j)).toNat
  omega).1
 have q1:=hg.oe.2
 have q2:=hg.on.2
 have q3:=h1.ok.T
 have q4:=h1.ok.no
 have q5:=h1.ok.ns
 refine⟨⟨?_,?_,?_,?_⟩,fun j hj=> ?_⟩
 ·exact Nat.le_trans q5 (by omega)
 ·exact Nat.le_trans q4 (by omega)
 ·have:(chg l no od i).ne≤s0.oe.length+(OfR.of (l 0) (l i) no od).T:=by rw[←b1];exact q1
  have e0:s0.oe.length=0:=rfl
  omega
 ·have:(chg l no od i).nn≤s0.on.length+nodesO (OfR.of (l 0) (l i) no od).sN (OfR.of (l 0) (l i) no od).oN (OfR.of (l 0) (l i) no od).no 0:=q2
  have e0:s0.on.length=0:=rfl
  omega
 ·exact Nat.le_trans (h1.kids j hj) (by omega)
end
end Go.Proofs.Tryz.Run
