/- The diagram of cells: what both the program and the document make. The program's Of: the recursion. Conditions: none. -/
import Derived.Test.YtpcokdalcafgdaaGreatWLq
import Derived.Test.YtpcokdalcafgdaaGreatWNa
import Derived.Test.YtpcokdalcafgdaaGreatWNc
import Derived.Test.YtpcokdalcafgdaaGreatWLh
import Derived.Test.YtpcokdalcafgdaaGreatWNb
import Derived.Test.YtpcokdalcafgdaaGreatWOh
import Derived.Test.YtpcokdalcafgdaaGreatWPm0
import Derived.Test.YtpcokdalcafgdaaGreatWQd
import Derived.Test.YtpcokdalcafgdaaGreatWQf
import Derived.Test.YtpcokdalcafgdaaGreatWQh
import Derived.Test.YtpcokdalcafgdaaGreatWQi
import Derived.Test.YtpcokdalcafgdaaGreatWSd
import Derived.Test.YtpcokdalcafgdaaGreatWSi
import Derived.Test.YtpcokdalcafgdaaGreatWSj
import Derived.Test.YtpcokdalcafgdaaGreatWSn
import Derived.Test.YtpcokdalcafgdaaGreatWSv
import Derived.Test.YtpcokdalcafgdaaGreatWSy
import Derived.Test.YtpcokdalcafgdaaGreatWUf
import Derived.Test.YtpcokdalcafgdaaGreatWUi
set_option linter.unusedSimpArgs false
set_option linter.unusedVariables false
set_option maxHeartbeats 0
set_option maxRecDepth 100000
namespace Go.Proofs.Tryz.Run
open Go Go.Vf Go.Proofs
open Go.Proofs.YtpcokdalcafgdaaGreat
def a1t (g:Nat->Law.Mk->Law.Mk×Int):Nat->Law.Mk->Law.Mk×(Nat->Int)
 |0,s=>(s,fun _=>0)
 |k+1,s=>((g k (a1t g k s).1).1,a0r (a1t g k s).2 k (g k (a1t g k s).1).2)
def ofW (C:Nat->VaR)(sz od str:Nat->Nat):Nat->Nat->Nat->Law.Mk->Law.Mk×Int
 |0,_,num,s=>Law.mkEnd s (C num)
 |m+1,r,num,s=>Law.mkNode (a1t (fun k s=>ofW C sz od str m (r+1) (num+k*str (od r)) s) (sz (od r)) s).1 ⟨(od r:Int),L (sz (od r)) (a1t (fun k s=>ofW C sz od str m (r+1) (num+k*str (od r)) s) (sz (od r)) s).2⟩
def a2m (sz od:Nat->Nat):Nat->Nat->Nat
 |0,_=>1
 |m+1,r=>sz (od r)*a2m sz od m (r+1)
def a2g (sz od:Nat->Nat):Nat->Nat->Nat
 |0,_=>0
 |m+1,r=>1+sz (od r)*a2g sz od m (r+1)
def a9b (sz od str:Nat->Nat):Nat->Nat->Nat
 |0,_=>0
 |m+1,r=>(sz (od r)-1)*str (od r)+a9b sz od str m (r+1)
structure d6e (s t:Law.Mk)(a b:Nat):Prop where
 oe:s.oe.length<=t.oe.length/\t.oe.length<=s.oe.length+a
 on:s.on.length<=t.on.length/\t.on.length<=s.on.length+b
theorem d6e.refl (s:Law.Mk):d6e s s 0 0:=⟨⟨Nat.le_refl _,Nat.le_refl _⟩,⟨Nat.le_refl _,Nat.le_refl _⟩⟩
def okN (s:Law.Mk)(z:Int):Prop:= -1-(s.oe.length:Int)<=z/\z<=s.on.length
theorem okN.mono {s t:Law.Mk}{a b:Nat}(h:d6e s t a b){z:Int}(hz:okN s z):okN t z:=by
 have h1:=h.oe.1
 have h2:=h.on.1
 unfold okN at hz⊢
 omega
theorem d0p (s:Law.Mk)(v:VaR):d6e s (Law.mkEnd s v).1 1 0/\okN (Law.mkEnd s v).1 (Law.mkEnd s v).2:=by
 have h1:=a7q s.oe v
 have h2:=at1_le s.oe v
 unfold Law.mkEnd okN
 refine⟨⟨h1,⟨Nat.le_refl _,Nat.le_refl _⟩⟩,?_⟩
 simp only
 have h3:=h1.1
 omega
theorem b5h {n:Nat}(hn:1<=n)(u:Nat->Int):(L n u).headD 0=u 0:=by
 obtain⟨m,rfl⟩: ∃m,n=m+1:=⟨n-1,by omega⟩
 simp[L,List.range_succ_eq_map]
theorem c6m (s:Law.Mk)(ch:Int){n:Nat}(hn:1<=n)(u:Nat->Int)(h0:okN s (u 0)):d6e s (Law.mkNode s ⟨ch,L n u⟩).1 0 1/\okN (Law.mkNode s ⟨ch,L n u⟩).1 (Law.mkNode s ⟨ch,L n u⟩).2:=by
 have h1:=a7q s.on ⟨ch,L n u⟩
 have h2:=at1_le s.on ⟨ch,L n u⟩
 unfold Law.mkNode
 split
 ·refine⟨⟨⟨Nat.le_refl _,Nat.le_refl _⟩,⟨Nat.le_refl _,Nat.le_add_right _ _⟩⟩,?_⟩
  simp only[b5h hn]
  exact h0
 ·refine⟨⟨⟨Nat.le_refl _,Nat.le_refl _⟩,h1⟩,?_⟩
  unfold okN
  simp only
  have h3:=h1.1
  omega
theorem a8k {g:Nat->Law.Mk->Law.Mk×Int}{a b:Nat}(hg: ∀k s,d6e s (g k s).1 a b/\okN (g k s).1 (g k s).2)(s:Law.Mk): ∀k,d6e s (a1t g k s).1 (k*a) (k*b)/\ ∀j,j<k->okN (a1t g k s).1 ((a1t g k s).2 j)
 |0=>⟨by simpa [a1t] using d6e.refl s,fun j hj=>by omega⟩
 |k+1=>by
  obtain⟨ih1,ih2⟩:=a8k hg s k
  obtain⟨h1,h2⟩:=hg k (a1t g k s).1
  have e1:=Nat.succ_mul k a
  have e2:=Nat.succ_mul k b
  have q1:=ih1.oe
  have q2:=ih1.on
  have q3:=h1.oe
  have q4:=h1.on
  rw[a1t]
  simp only[Nat.succ_eq_add_one] at e1 e2
  refine⟨⟨by simp only;omega,by simp only;omega⟩,fun j hj=> ?_⟩
  simp only[a0r]
  split
  ·exact h2
  ·exact (ih2 j (by omega)).mono h1
theorem b0k {C:Nat->VaR}{sz od str:Nat->Nat}: ∀(m r num:Nat) (s:Law.Mk),(∀i,r<=i->i<r+m->1<=sz (od i))->d6e s (ofW C sz od str m r num s).1 (a2m sz od m r) (a2g sz od m r)/\okN (ofW C sz od str m r num s).1 (ofW C sz od str m r num s).2
 |0,r,num,s,_=>d0p s _
 |m+1,r,num,s,h=>by
  obtain⟨h1,h2⟩:=a8k (g:=fun k s=>ofW C sz od str m (r+1) (num+k*str (od r)) s) (fun k s=>b0k m (r+1) _ s fun i h1 h2=>h i (by omega) (by omega)) s (sz (od r))
  have hs:=h r (by omega) (by omega)
  obtain⟨h3,h4⟩:=c6m (a1t (fun k s=>ofW C sz od str m (r+1) (num+k*str (od r)) s) (sz (od r)) s).1 (od r:Int) hs _ (h2 0 (by omega))
  rw[ofW,a2m,a2g]
  refine⟨⟨?_,?_⟩,h4⟩
  ·have q1:=h1.oe;have q2:=h3.oe;omega
  ·have q1:=h1.on;have q2:=h3.on;omega
theorem a7i {sz od:Nat->Nat}: ∀(m r:Nat),(∀i,r<=i->i<r+m->1<=sz (od i))->1<=a2m sz od m r/\a2g sz od m r<=m*a2m sz od m r
 |0,r,_=>by simp[a2m,a2g]
 |m+1,r,h=>by
  obtain⟨h1,h2⟩:=a7i (sz:=sz) (od:=od) m (r+1) fun i h1 h2=>h i (by omega) (by omega)
  have hs:=h r (by omega) (by omega)
  rw[a2m,a2g]
  have e1:1*1<=sz (od r)*a2m sz od m (r+1):=Nat.mul_le_mul hs h1
  have e2:sz (od r)*a2g sz od m (r+1)<=sz (od r)*(m*a2m sz od m (r+1)):=Nat.mul_le_mul_left _ h2
  have e3:sz (od r)*(m*a2m sz od m (r+1))=m*(sz (od r)*a2m sz od m (r+1)):=Nat.mul_left_comm _ _ _
  have e4:(m+1)*(sz (od r)*a2m sz od m (r+1))=m*(sz (od r)*a2m sz od m (r+1))+sz (od r)*a2m sz od m (r+1):=Nat.succ_mul _ _
  omega
theorem b8u {n:Nat}{od:Nat->Nat}(h: ∀i,i<n->od i<n/\ ∀k,k<i->od k≠od i):(L n od).Perm (L n fun i=>i):=by
 have hn:(L n od).Nodup:=a6u.2 fun i hi k hk=>(h i hi).2 k hk
 have hn2:(L n fun i=>i).Nodup:=a6u.2 fun i hi k hk=>by omega
 refine (List.perm_ext_iff_of_nodup hn hn2).2 fun a=> ?_
 constructor
 ·intro ha
  obtain⟨i,hi,rfl⟩:=a5t.1 ha
  exact a5t.2 ⟨_,(h i hi).1,rfl⟩
 ·intro ha
  obtain⟨i,hi,rfl⟩:=a5t.1 ha
  have hsub: ∀x,x∈L n od->x∈L n fun i=>i:=fun x hx=>by
   obtain⟨j,hj,rfl⟩:=a5t.1 hx
   exact a5t.2 ⟨_,(h j hj).1,rfl⟩
  apply Classical.byContradiction
  intro hni
  have:((i::L n od)).length<=(L n fun i=>i).length:=Law.nodup_sub (List.nodup_cons.2 ⟨hni,hn⟩) fun x hx=>by
   rcases List.mem_cons.1 hx with rfl|hx
   ·exact ha
   ·exact hsub x hx
  simp only[List.length_cons,a0k] at this
  omega
theorem e0k {α β:Type}(f:α->β)(n:Nat)(g:Nat->α):(L n g).map f=L n fun i=>f (g i):=by simp[L]
theorem c9x {n:Nat}{od:Nat->Nat}(h: ∀i,i<n->od i<n/\ ∀k,k<i->od k≠od i)(f:Nat->Nat):(L n fun i=>f (od i)).sum=(L n f).sum:=by
 have:=((b8u h).map f).sum_nat
 rwa [e0k,e0k] at this
theorem d3v {n:Nat}{od:Nat->Nat}(h: ∀i,i<n->od i<n/\ ∀k,k<i->od k≠od i)(f:Nat->Nat):(L n fun i=>f (od i)).prod=(L n f).prod:=by
 have:=((b8u h).map f).prod_nat
 rwa [e0k,e0k] at this
theorem b7q (sz od:Nat->Nat): ∀m r,a2m sz od m r=(L m fun i=>sz (od (r+i))).prod
 |0,r=>rfl
 |m+1,r=>by
  rw[a2m,b7q sz od m (r+1)]
  simp[L,List.range_succ_eq_map,List.map_map,Function.comp_def,Nat.add_assoc,Nat.add_comm 1]
theorem c3y (sz od str:Nat->Nat): ∀m r,a9b sz od str m r=(L m fun i=>(sz (od (r+i))-1)*str (od (r+i))).sum
 |0,r=>rfl
 |m+1,r=>by
  rw[a9b,c3y sz od str m (r+1)]
  simp[L,List.range_succ_eq_map,List.map_map,Function.comp_def,Nat.add_assoc,Nat.add_comm 1]
structure OfR where
 ns:Nat
 sz:Nat->Int
 no:Nat
 od:Nat->Int
 T:Nat
 C:Nat->VaR
 str:Nat->Nat
def OfR.sN (o:OfR)(i:Nat):Nat:=(o.sz i).toNat
def OfR.oN (o:OfR)(i:Nat):Nat:=(o.od i).toNat
structure OfR.ok (o:OfR):Prop where
 ns:o.ns<=6
 no:o.no<=6
 T:o.T<=2000
 sz: ∀i,i<o.ns->1<=o.sz i/\o.sz i<=12
 od: ∀i,i<o.no->0<=o.od i/\o.od i<o.ns
 cell: ∀i,i<o.T->(0<=(o.C i).fault/\(o.C i).fault<=4)/\ -9999<=(o.C i).n/\(o.C i).n<=9999
 str: ∀i,i<o.ns->o.str i<=2000
def ofH (o:OfR)(q1 q2:Nat)(f1 f2:List KC->Option Int)(e1 e2:Nat->List DV):List a0i:=
 [.var [isl o.ns o.sz,isl o.no o.od,isl o.ns o.sz,isl o.no o.od,.msl 3 2 none q1 false,.msl 4 2 none q2 false,int 0,.map 1,.map 2],.map true [.u8,.i64] q1 f1,.map true d1q q2 f2,.arr 2 q1 e1,.arr 2 q2 e2,
   .var [isl o.no o.od],.var [.ptr 0 0],.var [vsl o.T o.C],.var [isl o.ns o.sz],.var [.fn 137 [] [.ptr 5 0,.ptr 6 0,.ptr 7 0,.ptr 8 0,.ptr 9 0,.ptr 10 0]],.var [.msl 11 1 none o.ns false],arrI o.ns fun i=>(o.str i:Int)]
def ofK (o:OfR)(s:Law.Mk)(t:Int)(pg:List Nat)(v:AV)(h':List a0i):Prop:=
 pg=[3,4]/\ ∃q1 q2 f1 f2 e1 e2,Rep (d1o o.sz) s q1 q2 f1 f2 e1 e2 (fun _=>none)/\v=int t/\h'=ofH o q1 q2 f1 f2 e1 e2
def ofA (r num:Nat):List AV:=[int r,int num,.ptr 5 0,.ptr 6 0,.ptr 7 0,.ptr 8 0,.ptr 9 0,.ptr 10 0]
theorem e9z (o:OfR)(ho:o.ok)(num:Nat)(hnum:num<o.T)(s:Law.Mk){q1 q2:Nat}{f1 f2:List KC->Option Int}{e1 e2:Nat->List DV}(hrep:Rep (d1o o.sz) s q1 q2 f1 f2 e1 e2 (fun _=>none))(hb:s.oe.length<=1000000):
 a0g Tryz.prog 137 (ofA o.no num) (ofH o q1 q2 f1 f2 e1 e2) (ofK o (Law.mkEnd s (o.C num)).1 (Law.mkEnd s (o.C num)).2):=by
 have hrp:=hrep.mkEnd (o.C num)
 have hq1:=hrep.q1
 have hin:=e3c (ns:=o.ns) (no:=o.no) o.sz o.od (q1:=q1) (q2:=q2) (by omega) f1 f2 e1 e2 (o.C num) (fun z hz=>by
  have h1:=(hrp.1 z hz).1
  have h2:=Law.at1_le s.oe (o.C num)
  omega) (ho.cell num hnum)
 have hval:(Law.mkEnd s (o.C num)).2= -1-(Law.at1 s.oe (o.C num):Int):=rfl
 generalize hM:(Law.mkEnd s (o.C num)).1=M at hrp⊢
 rw[hval]
 clear hval hM hrep
 obtain⟨ns,sz,no,od,T,C,str⟩:=o
 simp only at hnum hin hrp
 refine a1b Tryz.mixed okP e6j rfl fun E Sg hb hS F hF=> ?_
 simp only[ofH,List.length_cons,List.length_nil] at hb
 have e:=a5x hS
 cbv
 simp only[f1f hS rfl]
 cbv
 refine a0a hS (a1d hS hnum) ?_
 simp only[nat,e.toNat,Int.ofNat_eq_natCast,Int.toNat_natCast]
 refine a1a hS (a0g.frame hin [0,1,2,3,4] rfl rfl ⟨a0f.refl _,a0f.refl _,a0f.refl _,a0f.refl _,a0f.refl _,trivial⟩) ?_
 rintro pg v H' ⟨pg0,v0,h0,⟨rfl,⟨z,k1,rfl,rfl⟩|⟨k1,rfl,rfl⟩⟩,rfl,rfl,rfl⟩
 ·obtain⟨w1,w2⟩:=hrp.1 z k1
  cbv
  exact⟨[3,4],fun l _ h=>d9x l h,hF (h1:=ofH ⟨ns,sz,no,od,T,C,str⟩ q1 q2 f1 f2 e1 e2) (.same _) (v0:=int (-1-(Law.at1 s.oe (C num):Int))) (a1f (congrArg (fun y:Int=> -1-y) w1)) (by simp[ofH]) (.inr rfl) ⟨rfl,_,_,_,_,_,_,w2,rfl,rfl⟩⟩
 ·obtain⟨w1,w2⟩:=hrp.2 k1
  cbv
  exact⟨[3,4],fun l _ h=>d9x l h,hF (h1:=ofH ⟨ns,sz,no,od,T,C,str⟩ (q1+1) q2 (fun k=>if k=[.i (C num).fault,.i (C num).n] then some (q1:Int) else f1 k) f2 (fun i=>if i<q1 then e1 i else (C num).row) e2) (.same _) (v0:=int (-1-(Law.at1 s.oe (C num):Int))) (a1f (congrArg (fun y:Nat=> -1-(y:Int)) w1.symm)) (by simp[ofH]) (.inr rfl) ⟨rfl,_,_,_,_,_,_,w2,rfl,rfl⟩⟩
structure OSt where
 k:Nat
 q1:Nat
 q2:Nat
 f1:List KC->Option Int
 f2:List KC->Option Int
 e1:Nat->List DV
 e2:Nat->List DV
theorem f5u (o:OfR)(ho:o.ok): ∀(m r num:Nat) (s:Law.Mk) (q1 q2:Nat) (f1 f2:List KC->Option Int) (e1 e2:Nat->List DV),r+m=o.no->num+a9b o.sN o.oN o.str m r<o.T->
 Rep (d1o o.sz) s q1 q2 f1 f2 e1 e2 (fun _=>none)->s.oe.length+a2m o.sN o.oN m r<=900000->s.on.length+a2g o.sN o.oN m r<=900000->
 a0g Tryz.prog 137 (ofA r num) (ofH o q1 q2 f1 f2 e1 e2) (ofK o (ofW o.C o.sN o.oN o.str m r num s).1 (ofW o.C o.sN o.oN o.str m r num s).2):=by
 intro m
 induction m with
 |zero=>
  intro r num s q1 q2 f1 f2 e1 e2 hr hn hrep h1 h2
  obtain rfl:r=o.no:=by omega
  exact e9z o ho num (by simpa [a9b] using hn) s hrep (by omega)
 |succ m ih=>
  intro r num s q1 q2 f1 f2 e1 e2 hr hn hrep h1 h2
  have hr1:r<o.no:=by omega
  obtain⟨hod1,hod2⟩:=ho.od r hr1
  obtain⟨c,hc⟩: ∃c:Nat,o.od r=c:=⟨(o.od r).toNat,by omega⟩
  have hcn:o.oN r=c:=by rw[OfR.oN,hc,Int.toNat_natCast]
  have hcns:c<o.ns:=by omega
  obtain⟨hsz1,hsz2⟩:=ho.sz c hcns
  obtain⟨w,hw⟩: ∃w:Nat,o.sz c=w:=⟨(o.sz c).toNat,by omega⟩
  have hwn:o.sN c=w:=by rw[OfR.sN,hw,Int.toNat_natCast]
  have hw12:1<=w/\w<=12:=by omega
  have hstr:=ho.str c hcns
  obtain⟨stc,hst⟩: ∃x,o.str c=x:=⟨_,rfl⟩
  have hss: ∀i,r+1<=i->i<r+1+m->1<=o.sN (o.oN i):=fun i a b=>by
   obtain⟨d1,d2⟩:=ho.od i (by omega)
   have:=(ho.sz (o.oN i) (by unfold OfR.oN;omega)).1
   unfold OfR.sN;omega
  rw[a9b,hcn,hwn,hst] at hn
  rw[a2m,hcn,hwn] at h1
  rw[a2g,hcn,hwn] at h2
  obtain⟨G,hG⟩: ∃G:Nat->Law.Mk->Law.Mk×Int,∀k t,ofW o.C o.sN o.oN o.str m (r+1) (num+k*stc) t=G k t:=⟨_,fun _ _=>rfl⟩
  have hGr: ∀k t,d6e t (G k t).1 (a2m o.sN o.oN m (r+1)) (a2g o.sN o.oN m (r+1))/\okN (G k t).1 (G k t).2:=fun k t=>by rw[<-hG];exact b0k m (r+1) _ t hss
  have hF:ofW o.C o.sN o.oN o.str (m+1) r num s=Law.mkNode (a1t G w s).1 ⟨(c:Int),L w (a1t G w s).2⟩:=by
   rw[ofW,hcn,hwn,hst]
   simp only[hG]
  rw[hF]
  clear hF
  have hcall: ∀k,k<w-> ∀t q1 q2 f1 f2 e1 e2,Rep (d1o o.sz) t q1 q2 f1 f2 e1 e2 (fun _=>none)->t.oe.length+a2m o.sN o.oN m (r+1)<=900000->t.on.length+a2g o.sN o.oN m (r+1)<=900000->
   a0g Tryz.prog 137 (ofA (r+1) (num+k*stc)) (ofH o q1 q2 f1 f2 e1 e2) (ofK o (G k t).1 (G k t).2):=fun k hk t q1 q2 f1 f2 e1 e2 hrep a b=>by
   rw[<-hG]
   refine ih (r+1) (num+k*stc) t q1 q2 f1 f2 e1 e2 (by omega) ?_ hrep a b
   have:k*stc<=(w-1)*stc:=Nat.mul_le_mul_right _ (by omega)
   omega
  have hnb: ∀k,k<w->num+k*stc<=100000:=fun k hk=>by
   have h3:k*stc<=(w-1)*stc:=Nat.mul_le_mul_right _ (by omega)
   have:=ho.T;omega
  have hfg:=fun k=>a8k hGr s k
  have hmul1: ∀k,k<=w->k*a2m o.sN o.oN m (r+1)<=w*a2m o.sN o.oN m (r+1):=fun k hk=>Nat.mul_le_mul_right _ hk
  have hmul2: ∀k,k<=w->k*a2g o.sN o.oN m (r+1)<=w*a2g o.sN o.oN m (r+1):=fun k hk=>Nat.mul_le_mul_right _ hk
  have hmul3: ∀k,(k+1)*a2m o.sN o.oN m (r+1)=k*a2m o.sN o.oN m (r+1)+a2m o.sN o.oN m (r+1):=fun k=>Nat.succ_mul _ _
  have hmul4: ∀k,(k+1)*a2g o.sN o.oN m (r+1)=k*a2g o.sN o.oN m (r+1)+a2g o.sN o.oN m (r+1):=fun k=>Nat.succ_mul _ _
  have hno6:=ho.no
  have hns6:=ho.ns
  have hnode:=fun q1 q2 (hq:q2<=1000000) f1 f2 e1 e2 u hu=>d6r (ns:=o.ns) (no:=o.no) o.sz o.od (q1:=q1) (q2:=q2) hq f1 f2 e1 e2 (c:Int) (by omega) hw12 u hu
  have hshp: ∀u,d1o o.sz ⟨(c:Int),L w u⟩:=fun u=>⟨by simp only[a0k];omega,by simp only[a0k,Int.toNat_natCast];exact hw.symm⟩
  clear ih hG hss hn
  obtain⟨A1,hA1⟩: ∃x,a2m o.sN o.oN m (r+1)=x:=⟨_,rfl⟩
  obtain⟨A2,hA2⟩: ∃x,a2g o.sN o.oN m (r+1)=x:=⟨_,rfl⟩
  simp only[hA1,hA2] at hGr hcall hfg hmul1 hmul2 hmul3 hmul4 h1 h2
  obtain⟨ns,sz,no,od,T,C,str⟩:=o
  simp only at hr1 hc hcns hw hst hcall hnode hshp hno6 hns6 hrep
  refine a1b Tryz.mixed okP e6j rfl fun E Sg hb hS F hF=> ?_
  simp only[ofH,List.length_cons,List.length_nil] at hb
  have e:=a5x hS
  cbv
  simp only[f3y hS (show r≠no by omega)]
  obtain⟨S,hS0,hS1⟩: ∃S:Nat->Law.Mk,(∀k,(a1t G k s).1=S k)/\ ∀k,S (k+1)=(G k (S k)).1:=⟨fun k=>(a1t G k s).1,fun _=>rfl,fun _=>rfl⟩
  obtain⟨U,hU0,hU1⟩: ∃U:Nat->Nat->Int,(∀k,(a1t G k s).2=U k)/\ ∀k,U (k+1)=a0r (U k) k (G k (S k)).2:=⟨fun k=>(a1t G k s).2,fun _=>rfl,fun k=>by rw[<-hS0];rfl⟩
  have hS00:S 0=s:=by rw[<-hS0];rfl
  have hU00:U 0=fun _=>0:=by rw[<-hU0];rfl
  simp only[hS0,hU0] at hfg hF
  cbv
  simp only[nat,e.toNat,e.ofNat,Int.ofNat_eq_natCast,Int.toNat_natCast,hc,hw]
  refine a0a hS (a1d hS hr1) (a0a hS (a1d hS hcns) (a0a hS (b0e hS (Int.natCast_nonneg _)) (a0a hS (b0e hS (show (w:Int)<=1073741824 by omega)) ?_)))
  refine a0y Tryz.mixed okP hS (σ:=OSt) (fun st=>st.k<=w/\Rep (d1o sz) (S st.k) st.q1 st.q2 st.f1 st.f2 st.e1 st.e2 (fun _=>none)) (fun st=>w-st.k)
   (fun st=>⟨a2l [(0,int r),(1,int num),(2,.ptr 5 0),(3,.ptr 6 0),(4,.ptr 7 0),(5,.ptr 8 0),(6,.ptr 9 0),(7,.ptr 10 0),(11,int c),(12,.msl 12 1 none w false),(34,int w),(35,int st.k)] 58,
     ofH ⟨ns,sz,no,od,T,C,str⟩ st.q1 st.q2 st.f1 st.f2 st.e1 st.e2++[arrI w (U st.k)],[3,4]⟩) ⟨0,q1,q2,f1,f2,e1,e2⟩ ⟨by simp,by rw[hS00];exact hrep⟩ ?_ ?_
  ·exact a0m rfl ⟨a0b.refl _,a0b.refl _,a0b.refl _,a0b.refl _,a0b.refl _,a0b.refl _,a0b.refl _,a0b.refl _,a0b.refl _,a0b.refl _,a1f rfl,a1m rfl,trivial⟩
    (.cons (.refl _) (.cons (.refl _) (.cons (.refl _) (.cons (.refl _) (.cons (.refl _) (.cons (.refl _) (.cons (.refl _) (.cons (.refl _) (.cons (.refl _) (.cons (.refl _) (.cons (.refl _) (.cons (.refl _) (.cons (b8y hS fun j hj=>by rw[hU00];exact .one (.int rfl)) (.nil _)))))))))))))) (by simp[ofH];omega) (.inr rfl) rfl
  ·rintro⟨k,p1,p2,g1,g2,d1,d2⟩ ⟨hk,hk4⟩ M hM
   simp only at hk hk4 hM
   have hfk:=(hfg k).1
   cbv
   split
   ·rename_i h
    have hlt:k<w:=Int.ofNat_lt.1 (b8j hS h)
    have hGk:=hGr k (S k)
    have hm1:=hmul1 (k+1) (by omega)
    have hm2:=hmul2 (k+1) (by omega)
    have hm3:=hmul3 k
    have hm4:=hmul4 k
    have hf1:=hfk.oe
    have hf2:=hfk.on
    have hca:=hcall k hlt (S k) p1 p2 g1 g2 d1 d2 hk4 (by omega) (by omega)
    have hnk:=hnb k hlt
    have hks:k*stc<=num+k*stc:=Nat.le_add_left _ _
    cbv
    simp only[nat,e.toNat,e.ofNat,e.imul,e.iadd,Int.ofNat_eq_natCast,Int.toNat_natCast,hst]
    have hks2:(k:Int)*(stc:Int)=((k*stc:Nat):Int):=rfl
    have hnk2:(num:Int)+(k:Int)*(stc:Int)=((num+k*stc:Nat):Int):=rfl
    have hkn1:((k*stc:Nat):Int)<=100000:=Int.ofNat_le.2 (Nat.le_trans hks hnk)
    have hkn2:((num+k*stc:Nat):Int)<=100000:=Int.ofNat_le.2 hnk
    have hkn3:=Int.natCast_nonneg (k*stc)
    have hkn4:=Int.natCast_nonneg (num+k*stc)
    refine a0a hS (a9w hS (show-9223372036854775808<=(r:Int)+1/\(r:Int)+1<=9223372036854775807 by omega)) (a0a hS (a1d hS hcns) (a0a hS (c4n hS hcns) (a0a hS (a9w hS (by rw[hks2];omega)) (a0a hS (a9w hS (by rw[hnk2];omega)) ?_))))
    refine a1a hS (a0g.frame hca [0,1,2,3,4,5,6,7,8,9,10,11] rfl rfl ⟨a0f.refl _,a0f.refl _,a0f.refl _,a0f.refl _,a0f.refl _,a0f.refl _,a0f.refl _,a0f.refl _,a0f.refl _,a0f.refl _,a0f.refl _,a0f.refl _,trivial⟩) ?_
    rintro pg v H' ⟨pg0,v0,h0,⟨rfl,q1',q2',f1',f2',e1',e2',w1,rfl,rfl⟩,rfl,rfl,rfl⟩
    cbv
    simp only[nat,e.toNat,e.ofNat,Int.ofNat_eq_natCast,Int.toNat_natCast]
    refine a0a hS (a1d hS hlt) (a0a hS (c4n hS hlt) (a0a hS (a4t hS (by omega)) ?_))
    refine hM ⟨k+1,q1',q2',f1',f2',e1',e2'⟩ _ ⟨by simp only;omega,by simp only[hS1];exact w1⟩ (by simp only;omega)
     (a0m rfl ⟨a0b.refl _,a0b.refl _,a0b.refl _,a0b.refl _,a0b.refl _,a0b.refl _,a0b.refl _,a0b.refl _,a0b.refl _,a0b.refl _,a0b.refl _,a5c hS,trivial⟩
       (.cons (.refl _) (.cons (.refl _) (.cons (.refl _) (.cons (.refl _) (.cons (.refl _) (.cons (.refl _) (.cons (.refl _) (.cons (.refl _) (.cons (.refl _) (.cons (.refl _) (.cons (.refl _) (.cons (.refl _) (.cons (b5v hS ?_ ?_) (.nil _)))))))))))))) (by simp[ofH];omega) (.inr rfl) rfl)
    ·intro j _ hne;simp only[hU1,a0r,if_neg hne];exact .refl _
    ·intro _;simp only[hU1,a0r,if_pos];exact .refl _
   ·rename_i h
    have hkw:k=w:=by have:=Int.ofNat_le.1 (b7c hS h);omega
    subst hkw
    cbv
    have hq2:=hk4.q2
    have hf1:=hfk.oe
    have hf2:=hfk.on
    have hok:=(hfg k).2
    have hcl:=hnode p1 p2 (by omega) g1 g2 d1 d2 (U k) (fun j hj=>by
     have h1:=hok j hj
     unfold okN at h1
     have h3:(((S k).oe.length:Nat):Int)<=1000000:=Int.ofNat_le.2 (show (S k).oe.length<=1000000 by omega)
     have h4:(((S k).on.length:Nat):Int)<=1000000:=Int.ofNat_le.2 (show (S k).on.length<=1000000 by omega)
     exact⟨Int.le_trans (by omega) h1.1,Int.le_trans h1.2 h4⟩)
    have hmk:=hk4.mkNode (d6q sz) (c:Int) k (U k) (hshp _)
    have hflat:Law.flatL (L k (U k))↔ ∀j,j<k->U k j=U k 0:=b1k hw12.1
    have hmk0:(∀j,j<k->U k j=U k 0)->Law.mkNode (S k) ⟨(c:Int),L k (U k)⟩=(S k,U k 0):=fun h=>by
     rw[Law.mkNode,if_pos (hflat.2 h),b5h hw12.1]
    rw[<-hflat] at hmk0
    generalize Law.mkNode (S k) ⟨(c:Int),L k (U k)⟩=MN at hmk hmk0 hF
    refine a1a hS (a0g.frame hcl [0,1,2,3,4,12] rfl rfl ⟨a0f.refl _,a0f.refl _,a0f.refl _,a0f.refl _,a0f.refl _,a0f.refl _,trivial⟩) ?_
    rintro pg v H' ⟨pg0,v0,h0,⟨rfl,ob,⟨y1,rfl,rfl⟩|⟨y1,⟨z,y2,rfl,rfl⟩|⟨y2,rfl,rfl⟩⟩⟩,rfl,rfl,rfl⟩
    ·have hMN:=hmk0 (hflat.2 y1)
     cbv
     exact⟨[3,4],(by intro l hl h;simp at h⊢;omega),hF (h1:=ofH ⟨ns,sz,no,od,T,C,str⟩ p1 p2 g1 g2 d1 d2)
      (.cons (.refl _) (.cons (.refl _) (.cons (.refl _) (.cons (.refl _) (.cons (.refl _) (.cons (.refl _) (.cons (.refl _) (.cons (.refl _) (.cons (.refl _) (.cons (.refl _) (.cons (.refl _) (.cons (.refl _) (.nil _))))))))))))) (v0:=int (U k 0)) (a0b.refl _) (by simp[ofH]) (.inl ⟨rfl,rfl⟩) ⟨rfl,_,_,_,_,_,_,(by rw[hMN];exact hk4),(by rw[hMN]),rfl⟩⟩
    ·obtain⟨w1,w2⟩:=(hmk (fun h=>y1 (hflat.1 h))).1 z y2
     cbv
     exact⟨[3,4],(by intro l hl h;simp at h⊢;omega),hF (h1:=ofH ⟨ns,sz,no,od,T,C,str⟩ p1 p2 g1 g2 d1 d2)
      (.cons (.refl _) (.cons (.refl _) (.cons (.refl _) (.cons (.refl _) (.cons (.refl _) (.cons (.refl _) (.cons (.refl _) (.cons (.refl _) (.cons (.refl _) (.cons (.refl _) (.cons (.refl _) (.cons (.refl _) (.nil _))))))))))))) (v0:=int z) (a0b.refl _) (by simp[ofH]) (.inl ⟨rfl,rfl⟩) ⟨rfl,_,_,_,_,_,_,w2,(by rw[w1]),rfl⟩⟩
    ·obtain⟨w1,w2⟩:=(hmk (fun h=>y1 (hflat.1 h))).2 y2
     cbv
     exact⟨[3,4],(by intro l hl h;simp at h⊢;omega),hF (h1:=ofH ⟨ns,sz,no,od,T,C,str⟩ p1 (p2+1) g1 (fun q=>if q=a3v (c:Int) k (U k) then some (p2:Int) else g2 q) d1 (fun i=>if i<p2 then d2 i else [.int .i64 (.v (c:Int)),.sl 1 k fun j=>[.int .i64 (.v (U k j))]]))
      (.cons (.refl _) (.cons (.refl _) (.cons (.refl _) (.cons (.refl _) (.cons (.refl _) (.cons (.refl _) (.cons (.refl _) (.cons (.refl _) (.cons (.refl _) (.cons (.refl _) (.cons (.refl _) (.cons (.refl _) (.nil _))))))))))))) (v0:=int p2) (a0b.refl _) (by simp[ofH]) (.inl ⟨rfl,rfl⟩) ⟨rfl,_,_,_,_,_,_,w2,(by rw[<-w1]),rfl⟩⟩
end Go.Proofs.Tryz.Run
