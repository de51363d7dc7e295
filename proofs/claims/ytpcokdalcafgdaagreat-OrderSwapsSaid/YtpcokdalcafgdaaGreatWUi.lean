/- The reference's cost and widths of a family. Copies of families. Families: what is known of good ones; their cost and widths. Conditions: none. -/
import Derived.Test.YtpcokdalcafgdaaGreatWLq
import Derived.Test.YtpcokdalcafgdaaGreatWNa
import Derived.Test.YtpcokdalcafgdaaGreatWNc
import Derived.Test.YtpcokdalcafgdaaGreatWLh
import Derived.Test.YtpcokdalcafgdaaGreatWNb
import Derived.Test.YtpcokdalcafgdaaGreatWOh
import Derived.Test.YtpcokdalcafgdaaGreatWPm0
import Derived.Test.YtpcokdalcafgdaaGreatWQd
import Derived.Test.YtpcokdalcafgdaaGreatWQf
import Derived.Test.YtpcokdalcafgdaaGreatWQh
import Derived.Test.YtpcokdalcafgdaaGreatWQi
import Derived.Test.YtpcokdalcafgdaaGreatWSd
import Derived.Test.YtpcokdalcafgdaaGreatWSq
import Derived.Test.YtpcokdalcafgdaaGreatWSy
import Derived.Test.YtpcokdalcafgdaaGreatWUf
set_option linter.unusedSimpArgs false
set_option linter.unusedVariables false
set_option maxHeartbeats 0
set_option maxRecDepth 100000
namespace Go.Proofs.Tryz.Run
open Go Go.Vf Go.Proofs
open Go.Proofs.YtpcokdalcafgdaaGreat
theorem e8t {n:Nat}(hn:n<=1000000)(g:Nat->Int)(res:AV)(hres:res=isl n g):a0j Tryz.prog false 76 [isl n g] res:=by
 refine a0d Tryz.mixed okP g8d _ rfl fun E Sg hb hS=> ?_
 cases n with
 |zero=>
  cbv
  subst hres
  exact a0b.nil0
 |succ n=>
  cbv
  refine a0a hS (b0h hS (show _<=1073741824 by omega)) (a0a hS (b0h hS (Nat.le_refl _)) ?_)
  subst hres
  exact a0b.refl _
theorem d7x {n:Nat}(hn:n<=1000000)(g:Nat->Int):a0j Tryz.prog false 76 [isl n g] (isl n g):=e8t hn g _ rfl
theorem e1z {n:Nat}(hn:n<=1000000)(e0:Nat->List DV)(res:AV)(hres:res= .d (.sl 2 n e0)):a0j Tryz.prog false 77 [.d (.sl 2 n e0)] res:=by
 refine a0d Tryz.mixed okP g4p _ rfl fun E Sg hb hS=> ?_
 cases n with
 |zero=>
  cbv
  subst hres
  exact a0b.nil0
 |succ n=>
  cbv
  refine a0a hS (b0h hS (show _<=1073741824 by omega)) (a0a hS (b0h hS (Nat.le_refl _)) ?_)
  subst hres
  exact a0b.refl _
theorem e8e {n:Nat}(hn:n<=1000000)(e0:Nat->List DV):a0j Tryz.prog false 77 [.d (.sl 2 n e0)] (.d (.sl 2 n e0)):=e1z hn e0 _ rfl
def d35 (ns no ne nn:Nat)(sz od:Nat->Int)(e3:Nat->List DV)(var:Nat->Int)(nk:Nat->Nat)(kid:Nat->Nat->Int)(root:Int):List AV:=
 [isl ns sz,isl no od,.d (.sl 2 ne e3),bsl nn var nk kid,int root]
theorem f4l {ns no ne nn:Nat}(sz od:Nat->Int)(e3:Nat->List DV)(var:Nat->Int)(nk:Nat->Nat)(kid:Nat->Nat->Int)(root:Int)(h1:ns<=1000000)(h2:no<=1000000)(h3:ne<=1000000)(h4:nn<=1000000)(h5: ∀i,i<nn->nk i<=1000000):
 a0j Tryz.prog false 35 [.agg (d35 ns no ne nn sz od e3 var nk kid root)] (.agg (d35 ns no ne nn sz od e3 var nk kid root)):=by
 have q1:=d7x h1 sz
 have q2:=d7x h2 od
 have q3:=e8e h3 e3
 have q4:=fun i hi=>d7x (h5 i hi) (kid i)
 refine a0d Tryz.mixed okP g9r _ rfl fun E Sg hb hS=> ?_
 have e:=a5x hS
 cbv
 refine a0e hS _ q1 ?_
 cbv
 refine a0e hS _ q2 ?_
 cbv
 refine a0e hS _ q3 ?_
 cbv
 refine b2v Tryz.mixed okP hS (fun i=>i<=nn) (fun i=>nn-i)
  (fun i=>⟨a2l [(1,.ptr 0 0),(2,.ptr 1 0),(3,.ptr 2 0),(4,int i)] 44,[.var (d35 ns no ne nn sz od e3 var nk kid root),.var [.d .nil,.d .nil,.d .nil,.d .nil,int 0],.var [isl ns sz,isl no od,.d (.sl 2 ne e3),.msl 3 2 none i false,int root],arB i var nk kid],[3]⟩)
  0 (by omega) ?_ ?_
 ·exact (a6f.gh 2 3 2 (fun _=>[]) rfl rfl).trans (a6f.le (a0m rfl ⟨a0b.refl _,a0b.refl _,a0b.refl _,a1m rfl,trivial⟩
   (.cons (.refl _) (.cons (.var (.cons (a0b.refl _) (.cons (a0b.refl _) (.cons (a0b.refl _) (.cons (a0b.refl _) (.cons (a1m rfl) .nil)))))) (.cons (.refl _) (.cons (a0f.arrr rfl fun j hj=>by omega) (.nil _))))) (by simp;omega) (.inr rfl) rfl))
 ·intro i hi N hN
  cbv
  split
  ·rename_i h
   have hlt:i<nn:=c3a hS h
   cbv
   simp only[nat,e.toNat,Int.ofNat_eq_natCast,Int.toNat_natCast]
   refine a0a hS (a1d hS hlt) (a0a hS (a1d hS hlt) ?_)
   refine a0e hS _ (q4 i hlt) ?_
   cbv
   refine a0a hS (a6d hS) (a0a hS trivial (a0a hS (b6u hS (by omega)) (a0a hS (a4t hS (by omega)) ?_)))
   refine hN (i+1) _ hlt (by omega) (a6f.le (a0m rfl ⟨a0b.refl _,a0b.refl _,a0b.refl _,a5c hS,trivial⟩
    (.cons (.refl _) (.cons (.refl _) (.cons (.var (.cons (a0b.refl _) (.cons (a0b.refl _) (.cons (a0b.refl _) (.cons (a6e hS) (.cons (a0b.refl _) .nil)))))) (.cons (a7j hS (fun j hj=> .refl _) (.refl _)) (.nil _))))) (by simp;omega) (.inr rfl) rfl))
  ·rename_i h
   have hin:i=nn:=by have:=d4h hS h;omega
   cbv
   refine a0a hS (b0h hS (Nat.le_refl _)) ?_
   subst hin
   exact a0b.refl _
theorem e2w (n:Nat)(hn:n<=1000000)(l:Nat->DiR)(hl: ∀i,i<n->(l i).fit):a0j Tryz.prog false 19 [dsl n l] (dsl n l):=by
 have q:=fun i hi=>f4l (l i).sz (l i).od (fun j=>((l i).en j).row) (l i).var (l i).nk (l i).kid (l i).root (hl i hi).ns (hl i hi).no (hl i hi).ne (hl i hi).nn (hl i hi).nk
 refine a0d Tryz.mixed okP g5w _ rfl fun E Sg hb hS=> ?_
 have e:=a5x hS
 cbv
 refine b2v Tryz.mixed okP hS (fun i=>i<=n) (fun i=>n-i)
  (fun i=>⟨a2l [(0,dsl n l),(3,.msl 0 5 none i false),(4,int i)] 20,[.arr 5 i fun i=>(l i).row],[0]⟩) 0 (by omega) ?_ ?_
 ·exact (a6f.gt 3 5 (fun _=>[]) rfl).trans (a6f.le (a0m rfl ⟨a0b.refl _,a0b.refl _,a1m rfl,trivial⟩
   (.cons (a0f.arrr rfl fun j hj=>by omega) (.nil _)) (by simp;omega) (.inr rfl) rfl))
 ·intro i hi N hN
  cbv
  split
  ·rename_i h
   have hlt:i<n:=c3a hS h
   cbv
   simp only[nat,e.toNat,Int.ofNat_eq_natCast,Int.toNat_natCast]
   refine a0a hS (a1d hS hlt) ?_
   refine a0e hS _ (q i hlt) ?_
   cbv
   refine a0a hS trivial (a0a hS (b6u hS (by omega)) (a0a hS (a4t hS (by omega)) ?_))
   exact hN (i+1) _ hlt (by omega) (a6f.le (a0m rfl ⟨a0b.refl _,a6e hS,a5c hS,trivial⟩
    (.cons (a7j hS (fun j hj=> .refl _) (.refl _)) (.nil _)) (by simp;omega) (.inr rfl) rfl))
  ·rename_i h
   have hin:i=n:=by have:=d4h hS h;omega
   cbv
   refine a0a hS (b0h hS (Nat.le_refl _)) ?_
   subst hin
   exact a0b.refl _
theorem a6s {f g:Nat->Int}: ∀{n:Nat},(∀j,j<n->f j=g j)->a3n f n=a3n g n
 |0,_=>rfl
 |n+1,h=>by rw[a3n,a3n,a6s fun j hj=>h j (by omega),h n (by omega)]
theorem c2h (f g:Nat->Int): ∀n,a3n (fun j=>f j+g j) n=a3n f n+a3n g n
 |0=>rfl
 |n+1=>by rw[a3n,a3n,a3n,c2h f g n];omega
theorem c2o (v:Nat): ∀n,a3n (fun j=>if (v:Int)=(j:Int) then 1 else 0) n=if v<n then 1 else 0
 |0=>rfl
 |n+1=>by
  rw[a3n,c2o v n]
  by_cases h:v=n
  ·subst h;simp
  ·rw[if_neg (show¬(v:Int)=(n:Int) by omega)]
   by_cases h2:v<n
   ·rw[if_pos h2,if_pos (by omega)];rfl
   ·rw[if_neg h2,if_neg (by omega)];rfl
theorem b7l: ∀n,a3n (fun _=>0) n=0
 |0=>rfl
 |n+1=>by rw[a3n,b7l n];rfl
theorem e1f (b:NdR)(l:List NdR)(j:Nat):cnt (b::l) j=cnt l j+if b.var=(j:Int) then 1 else 0:=by
 unfold cnt
 rw[List.filter_cons]
 by_cases h:b.var=(j:Int)
 ·simp[h]
 ·simp[h]
theorem d3l {ns:Nat}: ∀{l:List NdR},(∀b,b∈l->0<=b.var/\b.var<ns)->a3n (cnt l) ns=l.length
 |[],_=>b7l ns
 |b::l,h=>by
  have ih:=d3l (l:=l) fun c hc=>h c (by simp[hc])
  have hb:=h b (by simp)
  obtain⟨v,hv⟩: ∃v:Nat,b.var=v:=⟨b.var.toNat,by omega⟩
  rw[a6s (g:=fun j=>cnt l j+if (v:Int)=(j:Int) then 1 else 0) fun j _=>by rw[e1f,hv],c2h,ih,c2o,if_pos (by omega)]
  simp
theorem b4w {α:Type}[DecidableEq α]{P:α->Prop}{l:List α}{x:α}(h: ∀b,b∈l->P b)(hx:P x): ∀b,b∈Law.onceE l x->P b:=fun b hb=>by
 unfold Law.onceE at hb
 split at hb
 ·exact h b hb
 ·simp at hb
  rcases hb with hb|rfl
  ·exact h b hb
  ·exact hx
theorem d0a {P:NdR->Prop}(d:DiR)(hP: ∀i,i<d.nn-> ∀u,P ⟨d.var i,L (d.nk i) u⟩)(s:Num)(hs: ∀b,b∈s.on->P b): ∀i,i<=d.nn-> ∀b,b∈(a4k d s i).1.on->P b
 |0,_=>hs
 |i+1,h=>by
  rw[a4k]
  exact b4w (by rw[b5s];exact d0a d hP s hs i (by omega)) (hP i (by omega) _)
theorem c7t {P:NdR->Prop}{l:Nat->DiR}{n:Nat}(hP: ∀m,m<n-> ∀i,i<(l m).nn-> ∀u,P ⟨(l m).var i,L ((l m).nk i) u⟩): ∀m,m<=n-> ∀b,b∈(a7d l m).on->P b
 |0,_=>fun b hb=>by simp[a7d] at hb
 |m+1,h=>d0a (l m) (hP m (by omega)) _ (c7t hP m (by omega)) _ (Nat.le_refl _)
theorem a2c.bd {v:VaR}(h:a2c v)(h0:0<=v.fault):(0<=v.fault/\v.fault<=255)/\a4s v.n:=by
 unfold a2c at h
 unfold a4s
 split at h<;>omega
theorem c1q {n:Nat}{l:Nat->DiR}(h:a6p n l 0):0<n/\ ∀i,i<n->a7c (l i)=0/\b0l (l 0) (l i):=by
 rcases h with⟨_,h⟩|⟨hp,h⟩
 ·cases h
 ·refine⟨hp,fun i hi=> ?_⟩
  rcases h with⟨k,a,b,c,d⟩|⟨a,h⟩
  ·exact absurd d.symm c
  ·rcases h with⟨b,_⟩|⟨_,b⟩
   ·refine⟨a i hi,?_⟩
    cases i with
    |zero=>exact⟨rfl,rfl⟩
    |succ i=>exact b _ (by omega) hi
   ·cases b
structure c9g (d:DiR):Prop where
 fr:a2e d.ns d.no d.sz d.od=0
 nn:d.nn<=6000
 loose:a1s d
 dia:a8g d
theorem d7t {d:DiR}(h:a7c d=0):c9g d:=by
 obtain⟨h1,h2⟩:=b0w h
 obtain⟨h3,h4,h5⟩:=a3z h1
 exact⟨h3,h4,h5,h2⟩
theorem c9g.good {d:DiR}(h:c9g d)(hf:d.fit):d.good d.ns d.sz:=
 ⟨h.nn,hf.ne,h.loose.kpos h.fr,fun j hj=>by
   obtain⟨⟨⟨a,b⟩,c⟩,_⟩:=h.loose.2.1 j hj
   exact⟨a,by omega,c⟩,h.loose.kids⟩
theorem DiR.good.frame {d:DiR}{ns ns':Nat}{sz sz':Nat->Int}(h:d.good ns sz)(e:L ns' sz'=L ns sz):d.good ns' sz':=by
 obtain⟨e1,e2⟩:=a2w.1 e
 refine⟨h.nn,h.ne,h.nk,fun j hj=> ?_,h.kid⟩
 obtain⟨a,b,c⟩:=h.var j hj
 exact⟨a,by omega,by rw[e2 _ (by omega)];exact c⟩
structure a0x (n:Nat)(l:Nat->DiR):Prop where
 pos:0<n/\n<=8
 fit: ∀i,i<n->(l i).fit
 flt: ∀i,i<n-> ∀j,j<(l i).ne->0<=((l i).en j).fault
 di: ∀i,i<n->c9g (l i)
 fr: ∀i,i<n->b0l (l 0) (l i)
section
variable {n:Nat} {l:Nat->DiR}
theorem a0x.good (h:a0x n l): ∀i,i<n->(l i).good (l 0).ns (l 0).sz:=fun i hi=>((h.di i hi).good (h.fit i hi)).frame (h.fr i hi).1
theorem a0x.cells (h:a0x n l): ∀i,i<n-> ∀j,j<(l i).ne->(0<=((l i).en j).fault/\((l i).en j).fault<=255)/\a4s ((l i).en j).n:=fun i hi j hj=>((h.di i hi).loose.1 j hj).bd (h.flt i hi j hj)
theorem a0x.vars (h:a0x n l): ∀b,b∈(a7d l n).on->0<=b.var/\b.var<(l 0).ns:=
 c7t (P:=fun b=>0<=b.var/\b.var<(l 0).ns) (n:=n) (fun m hm i hi u=>⟨((h.good m hm).var i hi).1,((h.good m hm).var i hi).2.1⟩) n (Nat.le_refl _)
theorem a0x.len (h:a0x n l):(a7d l n).on.length<=48000:=by
 have:=(c1f l (n:=n) (fun i hi=>⟨(h.good i hi).nn,fun j hj=>((h.good i hi).nk j hj).2⟩) n (Nat.le_refl _)).2
 have:=h.pos;omega
theorem a0x.cost (h:a0x n l):a3n (cnt (a7d l n).on) (l 0).ns=(a7d l n).on.length:=d3l h.vars
theorem a0x.err (h:a0x n l):a6p n l 0:=by
 have hd: ∀i,i<n->a7c (l i)=0:=fun i hi=>by
  have:=h.di i hi
  unfold a7c a2n
  rw[this.fr]
  simp[this.dia,this.loose,show¬6000<(l i).nn by have:=this.nn;omega]
 exact .inr ⟨h.pos.1,.inr ⟨hd,.inl ⟨fun i _ hi=>h.fr i hi,rfl⟩⟩⟩
theorem a0x.mk' (hn:n<=8)(hf: ∀i,i<n->(l i).fit)(h0: ∀i,i<n-> ∀j,j<(l i).ne->0<=((l i).en j).fault)(h:a6p n l 0):a0x n l:=
 ⟨⟨(c1q h).1,hn⟩,hf,h0,fun i hi=>d7t ((c1q h).2 i hi).1,fun i hi=>((c1q h).2 i hi).2⟩
theorem c8i (hn:n<=8)(hf: ∀i,i<n->(l i).fit)(h0: ∀i,i<n-> ∀j,j<(l i).ne->0<=((l i).en j).fault)(hno: ∀i,i<n->(l i).no<=12)(r:Int)(hr:a6p n l r):
 ∃v,(∃a b c d:DV,v= .agg [.d a,.d b,.d c,.d d])/\(r=0->v=c0p n l (fun i=>(prod (l i).sz (l i).ns).toNat) (fun i j=>((l i).cell j).row) n)/\a0j Tryz.prog false 54 [dsl n l] (.tuple [v,int r]):=
 open54 n (by omega) l hf h0 hno _ (fun i hi h=>by
  have:=a4m (g:=(l i).sz) (n:=(l i).ns) fun j hj=>((a1k (a3z (b0w h).1).1).2.1 j hj).1
  omega) _ (fun i j=>rfl) r hr
theorem a0x.costs (h:a0x n l)(r:Nat->Int)(hr: ∀j,j<(l 0).ns->r j=cnt (a7d l n).on j):
 a0j Tryz.prog true 18 [dsl n l] (.tuple [int ((a7d l n).on.length:Nat),int 0])/\a0j Tryz.prog false 20 [dsl n l] (.tuple [isl (l 0).ns r,int 0]):=by
 have hno: ∀i,i<n->(l i).no<=12:=fun i hi=>by have:=a1k (h.di i hi).fr;have:=this.2.2.2.1;omega
 obtain⟨v,hv,hv0,hp⟩:=c8i h.pos.2 h.fit h.flt hno 0 h.err
 obtain rfl:=hv0 rfl
 have hn:=h.pos
 obtain⟨m,rfl⟩: ∃m,n=m+1:=⟨n-1,by omega⟩
 have h56:=c9t (ns:=(l 0).ns) (no:=(l 0).no) (l 0).sz (l 0).od (m+1) (by omega) (by have:=(h.fit 0 h.pos.1).ns;omega) l h.good h.cells (fun i=>[.sl 2 ((prod (l i).sz (l i).ns).toNat) fun j=>((l i).cell j).row]) r hr
 have hlen:=h.len
 have h55:=e3g (by have:=(h.fit 0 h.pos.1).ns;omega) _ _ _ _ r (fun j hj=>by have:=d7l (a7d l (m+1)).on j;rw[hr j hj];omega) h56 ((a7d l (m+1)).on.length:Nat) (by rw[<-h.cost];exact a6s fun j hj=>(hr j hj).symm)
 exact⟨f3x hp _ h55,d9c (f0u hp _ h56)⟩
end
end Go.Proofs.Tryz.Run
