/- The nodes of a family, each once: what both the program and the document number. The program's numbers of a family: its maps. The program's widths. The program's cost and widths of a family. The reference's find. The reference's nodes of a family. Conditions: none. -/
import Derived.Test.YtpcokdalcafgdaaGreatWLq
import Derived.Test.YtpcokdalcafgdaaGreatWNa
import Derived.Test.YtpcokdalcafgdaaGreatWNc
import Derived.Test.YtpcokdalcafgdaaGreatWLh
import Derived.Test.YtpcokdalcafgdaaGreatWNb
import Derived.Test.YtpcokdalcafgdaaGreatWOh
import Derived.Test.YtpcokdalcafgdaaGreatWPm0
import Derived.Test.YtpcokdalcafgdaaGreatWQd
import Derived.Test.YtpcokdalcafgdaaGreatWQf
import Derived.Test.YtpcokdalcafgdaaGreatWQh
import Derived.Test.YtpcokdalcafgdaaGreatWQi
import Derived.Test.YtpcokdalcafgdaaGreatWSd
import Derived.Test.YtpcokdalcafgdaaGreatWSi
import Derived.Test.YtpcokdalcafgdaaGreatWSj
import Derived.Test.YtpcokdalcafgdaaGreatWSn
import Derived.Test.YtpcokdalcafgdaaGreatWSq
import Derived.Test.YtpcokdalcafgdaaGreatWSv
set_option linter.unusedSimpArgs false
set_option linter.unusedVariables false
set_option maxHeartbeats 0
namespace Go.Proofs.Tryz.Run
open Go Go.Vf Go.Proofs
open Go.Proofs.YtpcokdalcafgdaaGreat
structure Num where
 oe:List VaR
 on:List NdR
def c6o (d:DiR)(refs:Nat->Int)(s:Num)(r:Int):Num×Int:=
 if 0<=r then (s,refs r.toNat) else (⟨Law.onceE s.oe (d.en (-1-r).toNat),s.on⟩,-1-(Law.at1 s.oe (d.en (-1-r).toNat):Int))
def a8o (d:DiR)(refs:Nat->Int)(i:Nat)(s:Num):Nat->Num×(Nat->Int)
 |0=>(s,fun _=>0)
 |k+1=>((c6o d refs (a8o d refs i s k).1 (d.kid i k)).1,a0r (a8o d refs i s k).2 k (c6o d refs (a8o d refs i s k).1 (d.kid i k)).2)
def e3a (d:DiR)(refs:Nat->Int)(i:Nat)(s:Num):NdR:=⟨d.var i,L (d.nk i) (a8o d refs i s (d.nk i)).2⟩
def a4k (d:DiR)(s:Num):Nat->Num×(Nat->Int)
 |0=>(s,fun _=>0)
 |i+1=>(⟨(a8o d (a4k d s i).2 i (a4k d s i).1 (d.nk i)).1.oe,Law.onceE (a8o d (a4k d s i).2 i (a4k d s i).1 (d.nk i)).1.on (e3a d (a4k d s i).2 i (a4k d s i).1)⟩,
  a0r (a4k d s i).2 i (Law.at1 (a8o d (a4k d s i).2 i (a4k d s i).1 (d.nk i)).1.on (e3a d (a4k d s i).2 i (a4k d s i).1)))
def a7d (l:Nat->DiR):Nat->Num
 |0=>⟨[],[]⟩
 |n+1=>(a4k (l n) (a7d l n) (l n).nn).1
theorem a7q {α:Type}[DecidableEq α](l:List α)(x:α):l.length<=(Law.onceE l x).length/\(Law.onceE l x).length<=l.length+1:=by
 unfold Law.onceE;split<;>simp
theorem at1_le {α:Type}[DecidableEq α](l:List α)(x:α):Law.at1 l x<=l.length:=by
 induction l with
 |nil=>simp[Law.at1]
 |cons y l ih=>simp only[Law.at1];split<;>simp<;>omega
theorem f0d {α:Type}[DecidableEq α]{l:List α}{x:α}(h:x∈l):Law.at1 l x<l.length:=by
 induction l with
 |nil=>simp at h
 |cons y l ih=>
  simp only[Law.at1]
  split
  ·simp
  ·rename_i hy
   simp at h
   have:=ih (h.resolve_left fun e=>hy e.symm)
   simp;omega
theorem e5e (d:DiR)(refs:Nat->Int)(s:Num)(r:Int):(c6o d refs s r).1.on=s.on:=by
 unfold c6o;split<;>rfl
theorem b5s (d:DiR)(refs:Nat->Int)(i:Nat)(s:Num): ∀k,(a8o d refs i s k).1.on=s.on
 |0=>rfl
 |k+1=>by rw[a8o,e5e];exact b5s d refs i s k
theorem b3s (d:DiR)(refs:Nat->Int)(i:Nat)(s:Num): ∀k,(a8o d refs i s k).1.oe.length<=s.oe.length+k
 |0=>by simp[a8o]
 |k+1=>by
  have:=b3s d refs i s k
  rw[a8o]
  unfold c6o
  split
  ·simp only;omega
  ·have h:=(a7q (a8o d refs i s k).1.oe (d.en (-1-d.kid i k).toNat)).2
   simp only;omega
theorem c2u (d:DiR)(refs:Nat->Int)(i:Nat)(s:Num): ∀k j,k<=j->(a8o d refs i s k).2 j=0
 |0,j,_=>rfl
 |k+1,j,h=>by
  rw[a8o]
  simp only[a0r]
  rw[if_neg (by omega)]
  exact c2u d refs i s k j (by omega)
theorem d5o (d:DiR)(refs:Nat->Int)(i:Nat)(s:Num)(B:Int)(hB:(s.oe.length:Int)+d.nk i<=B)(hr: ∀k,k<d.nk i->0<=d.kid i k->0<=refs (d.kid i k).toNat/\refs (d.kid i k).toNat<=B): ∀k,k<=d.nk i-> ∀m,-1-B<=(a8o d refs i s k).2 m/\(a8o d refs i s k).2 m<=B
 |0,_,m=>by simp only[a8o];omega
 |k+1,hk,m=>by
  have ih:=d5o d refs i s B hB hr k (by omega) m
  have hl:=b3s d refs i s k
  rw[a8o]
  simp only[a0r]
  split
  ·unfold c6o
   split
   ·rename_i h
    have:=hr k (by omega) h
    simp only;omega
   ·have:=at1_le (a8o d refs i s k).1.oe (d.en (-1-d.kid i k).toNat)
    simp only;omega
  ·exact ih
theorem c0h (d:DiR)(s:Num)(hk: ∀i,i<d.nn->d.nk i<=12): ∀i,i<=d.nn->(a4k d s i).1.oe.length<=s.oe.length+12*i/\(a4k d s i).1.on.length<=s.on.length+i
 |0,_=>by simp[a4k]
 |i+1,h=>by
  have ih:=c0h d s hk i (by omega)
  have h1:=b3s d (a4k d s i).2 i (a4k d s i).1 (d.nk i)
  have h2:=hk i (by omega)
  have h3:=b5s d (a4k d s i).2 i (a4k d s i).1 (d.nk i)
  have h4:=(a7q (a8o d (a4k d s i).2 i (a4k d s i).1 (d.nk i)).1.on (e3a d (a4k d s i).2 i (a4k d s i).1)).2
  rw[a4k]
  rw[h3] at h4⊢
  simp only
  omega
theorem c1f (l:Nat->DiR){n:Nat}(hk: ∀i,i<n->(l i).nn<=6000/\ ∀j,j<(l i).nn->(l i).nk j<=12): ∀m,m<=n->(a7d l m).oe.length<=72000*m/\(a7d l m).on.length<=6000*m
 |0,_=>by simp[a7d]
 |m+1,h=>by
  have ih:=c1f l hk m (by omega)
  obtain⟨h1,h2⟩:=hk m (by omega)
  have:=c0h (l m) (a7d l m) h2 (l m).nn (Nat.le_refl _)
  rw[a7d]
  omega
theorem c2l (d:DiR)(s:Num): ∀i j,j<i->0<=(a4k d s i).2 j/\(a4k d s i).2 j<(a4k d s i).1.on.length
 |0,j,h=>by omega
 |i+1,j,h=>by
  have ih:=c2l d s i j
  have h3:=b5s d (a4k d s i).2 i (a4k d s i).1 (d.nk i)
  rw[a4k]
  rw[h3]
  simp only[a0r]
  have h5:=a7q (a4k d s i).1.on (e3a d (a4k d s i).2 i (a4k d s i).1)
  split
  ·refine⟨Int.natCast_nonneg _,Int.ofNat_lt.2 ?_⟩
   by_cases hm:e3a d (a4k d s i).2 i (a4k d s i).1∈(a4k d s i).1.on
   ·rw[Law.onceE_mem hm]
    exact f0d hm
   ·rw[Law.onceE_not hm,Law.at1_not hm,List.length_append,List.length_cons]
    omega
  ·have:=ih (by omega)
   exact⟨this.1,Int.lt_of_lt_of_le this.2 (Int.ofNat_le.2 h5.1)⟩
structure c1k (shp:NdR->Prop)(s:Num)(f1 f2:List KC->Option Int):Prop where
 f1: ∀v:VaR,f1 [.i v.fault,.i v.n]=if v∈s.oe then some (-1-(Law.at1 s.oe v:Int)) else none
 f2: ∀(ch:Int) (n:Nat) (u:Nat->Int),shp ⟨ch,L n u⟩->f2 (a3v ch n u)=if (⟨ch,L n u⟩:NdR)∈s.on then some (Law.at1 s.on ⟨ch,L n u⟩:Int) else none
theorem c1k.nil (shp:NdR->Prop):c1k shp ⟨[],[]⟩ (fun _=>none) (fun _=>none):=⟨fun v=>by simp,fun ch n u _=>by simp⟩
theorem c1k.hit {shp:NdR->Prop}{s:Num}{f1 f2:List KC->Option Int}(h:c1k shp s f1 f2)(c:VaR){z:Int}(hz:f1 [.i c.fault,.i c.n]=some z):z= -1-(Law.at1 s.oe c:Int)/\Law.onceE s.oe c=s.oe:=by
 have hf:=h.f1 c
 rw[hz] at hf
 split at hf
 ·rename_i hm;cases hf;exact⟨rfl,Law.onceE_mem hm⟩
 ·cases hf
theorem c1k.miss {shp:NdR->Prop}{s:Num}{f1 f2:List KC->Option Int}(h:c1k shp s f1 f2)(c:VaR)(hz:f1 [.i c.fault,.i c.n]=none):
 Law.at1 s.oe c=s.oe.length/\(Law.onceE s.oe c).length=s.oe.length+1/\c1k shp ⟨Law.onceE s.oe c,s.on⟩ (fun k=>if k=[.i c.fault,.i c.n] then some (-1-(s.oe.length:Int)) else f1 k) f2:=by
 have hf:=h.f1 c
 rw[hz] at hf
 split at hf
 ·cases hf
 ·rename_i hm
  rw[Law.onceE_not hm]
  refine⟨Law.at1_not hm,by simp,⟨fun v=> ?_,h.f2⟩⟩
  simp only
  by_cases e:v=c
  ·subst e
   rw[if_pos rfl,if_pos (by simp),b6p hm]
  ·rw[if_neg (fun k=>e (VaR.key_inj k)),h.f1 v]
   by_cases hv:v∈s.oe
   ·rw[if_pos hv,if_pos (by simp[hv]),b5d hv]
   ·rw[if_neg hv,if_neg (by simp[hv,e])]
theorem c1k.hitN {shp:NdR->Prop}{s:Num}{f1 f2:List KC->Option Int}(h:c1k shp s f1 f2){ch:Int}{n:Nat}{u:Nat->Int}(hs:shp ⟨ch,L n u⟩){z:Int}(hz:f2 (a3v ch n u)=some z):
 z=(Law.at1 s.on ⟨ch,L n u⟩:Int)/\Law.onceE s.on ⟨ch,L n u⟩=s.on:=by
 have hf:=h.f2 ch n u hs
 rw[hz] at hf
 split at hf
 ·rename_i hm;cases hf;exact⟨rfl,Law.onceE_mem hm⟩
 ·cases hf
theorem c1k.missN {shp:NdR->Prop}(hsp:d6s shp){s:Num}{f1 f2:List KC->Option Int}(h:c1k shp s f1 f2){ch:Int}{n:Nat}{u:Nat->Int}(hs:shp ⟨ch,L n u⟩)(hz:f2 (a3v ch n u)=none):
 Law.at1 s.on ⟨ch,L n u⟩=s.on.length/\Law.onceE s.on ⟨ch,L n u⟩=s.on++[⟨ch,L n u⟩]/\c1k shp ⟨s.oe,Law.onceE s.on ⟨ch,L n u⟩⟩ f1 (fun k=>if k=a3v ch n u then some (s.on.length:Int) else f2 k):=by
 have hf:=h.f2 ch n u hs
 rw[hz] at hf
 split at hf
 ·cases hf
 ·rename_i hm
  rw[Law.onceE_not hm]
  refine⟨Law.at1_not hm,rfl,⟨h.f1,fun c m w hw=> ?_⟩⟩
  simp only
  by_cases e:a3v c m w=a3v ch n u
  ·have hl:=hsp.2 ⟨c,L m w⟩ ⟨ch,L n u⟩ hw hs
   simp only[a0k] at hl
   have hm12:=hsp.1 ⟨c,L m w⟩ hw
   simp only[a0k] at hm12
   obtain⟨e1,e2⟩:=c9l hm12 hl e
   rw[if_pos e,e1,e2,if_pos (by simp),b6p hm]
  ·have hne:(⟨c,L m w⟩:NdR)≠⟨ch,L n u⟩:=fun k=>by
    injection k with k1 k2
    apply e
    have hl:m=n:=by simpa [a0k] using congrArg List.length k2
    subst hl
    subst k1
    unfold a3v
    have: ∀j,(if j<m then w j else 0)=(if j<m then u j else 0):=fun j=>by
     by_cases hj:j<m
     ·have:=congrArg (fun l=>l[j]?) k2
      rw[if_pos hj,if_pos hj]
      simpa [L,hj] using this
     ·rw[if_neg hj,if_neg hj]
    simp only[this]
   rw[if_neg e,h.f2 c m w hw]
   by_cases hv:(⟨c,L m w⟩:NdR)∈s.on
   ·rw[if_pos hv,if_pos (by simp[hv]),b5d hv]
   ·rw[if_neg hv,if_neg (by simp only[List.mem_append,hv,List.mem_singleton,hne,or_self,not_false_eq_true])]
def cnt (l:List NdR)(j:Nat):Int:=((l.filter fun b=>decide (b.var=(j:Int))).length:Nat)
theorem e6d (l:List NdR)(b:NdR)(j:Nat):cnt (l++[b]) j=cnt l j+if b.var=(j:Int) then 1 else 0:=by
 unfold cnt
 rw[List.filter_append,List.length_append]
 by_cases h:b.var=(j:Int)
 ·simp[h]
 ·simp[h]
theorem d7l (l:List NdR)(j:Nat):0<=cnt l j/\cnt l j<=l.length:=by
 unfold cnt
 have:=List.length_filter_le (fun b:NdR=>decide (b.var=(j:Int))) l
 omega
structure DiR.good (d:DiR)(ns:Nat)(sz:Nat->Int):Prop where
 nn:d.nn<=6000
 ne:d.ne<=1000000
 nk: ∀j,j<d.nn->1<=d.nk j/\d.nk j<=12
 var: ∀j,j<d.nn->0<=d.var j/\d.var j<ns/\(d.nk j:Int)=sz (d.var j).toNat
 kid: ∀j,j<d.nn-> ∀k,k<d.nk j->a4g d.ne (d.kid j k) j
def d1o (sz:Nat->Int)(b:NdR):Prop:=b.kids.length<=12/\(b.kids.length:Int)=sz b.var.toNat
theorem d6q (sz:Nat->Int):d6s (d1o sz):=⟨fun b h=>h.1,fun b c h k e=>by
 have h1:=h.2
 have h2:=k.2
 rw[e] at h1
 omega⟩
def e3l (n:Nat)(lns:Nat->Nat)(lsz:Nat->Nat->Int)(lno:Nat->Nat)(lod:Nat->Nat->Int)(lne:Nat->Nat)(lef len:Nat->Nat->Int)(lnn:Nat->Nat)(lvar:Nat->Nat->Int)(lnk:Nat->Nat->Nat)(lkid:Nat->Nat->Nat->Int)(lroot:Nat->Int):AV:=
 .d (.sl 5 n fun i=>[.sl 1 (lns i) fun j=>[.int .i64 (.v (lsz i j))],.sl 1 (lno i) fun j=>[.int .i64 (.v (lod i j))],.sl 2 (lne i) fun j=>[.int .u8 (.v (lef i j)),.int .i64 (.v (len i j))],
  .sl 2 (lnn i) fun j=>[.int .i64 (.v (lvar i j)),.sl 1 (lnk i j) fun k=>[.int .i64 (.v (lkid i j k))]],.int .i64 (.v (lroot i))])
theorem d4w {ns no:Nat}(sz od:Nat->Int)(n:Nat)(hn:n<=1000)(hns:ns<=1000000)(l:Nat->DiR)(hg: ∀i,i<n->(l i).good ns sz)(hc: ∀i,i<n-> ∀j,j<(l i).ne->(0<=((l i).en j).fault/\((l i).en j).fault<=255)/\a4s ((l i).en j).n)
 (ce:Nat->List DV) (r:Nat->Int) (hr: ∀j,j<ns->r j=cnt (a7d l n).on j):
 ∃o,a0g Tryz.prog 56 [.agg [isl ns sz,isl no od,dsl n l,.d (.sl 1 n ce)]] [] (fun pg v h'=>pg=[]/\v= .msl 1 1 none ns false/\h'=[o,arrI ns r]):=by
 obtain⟨lns,lsz,lno,lod,lne,lef,len,lnn,lvar,lnk,lkid,lroot,hl⟩: ∃lns lsz lno lod lne lef len lnn lvar lnk lkid lroot,∀i,l i=(⟨lns i,lsz i,lno i,lod i,lne i,fun j=>⟨lef i j,len i j⟩,lnn i,lvar i,lnk i,lkid i,lroot i⟩:DiR):=
  ⟨fun i=>(l i).ns,fun i=>(l i).sz,fun i=>(l i).no,fun i=>(l i).od,fun i=>(l i).ne,fun i j=>((l i).en j).fault,fun i j=>((l i).en j).n,fun i=>(l i).nn,fun i=>(l i).var,fun i=>(l i).nk,fun i=>(l i).kid,fun i=>(l i).root,fun i=>rfl⟩
 have hDS:dsl n l=e3l n lns lsz lno lod lne lef len lnn lvar lnk lkid lroot:=by
  unfold dsl
  simp only[hl]
  rfl
 rw[hDS]
 clear hDS
 refine⟨.var [isl ns sz,isl no od,e3l n lns lsz lno lod lne lef len lnn lvar lnk lkid lroot,.d (.sl 1 n ce)],a1b Tryz.mixed okP g0z rfl fun E Sg hb hS F hF=> ?_⟩
 have hb0:E.base=0:=hb
 have ett: ∀z,Sg.toNat z=z.toNat:=by subst hS;exact fun _=>rfl
 have eof: ∀q,Sg.ofNat q=(q:Int):=by subst hS;exact fun _=>rfl
 have es: ∀z,Sg.isub (Int.negSucc 0) z= -1-z:=by subst hS;exact fun _=>rfl
 cbv
 refine a0a hS (by subst hS;simp[std]) (a0a hS (by clear hg hc hr;subst hS;simp[std,big];omega) ?_)
 refine a0y Tryz.mixed okP hS (σ:=Nat×Nat×Nat×(Nat->Int)×(List KC->Option Int)×(List KC->Option Int))
  (fun⟨i,q1,q2,w,f1,f2⟩=>i<=n/\q1=(a7d l i).oe.length/\q2=(a7d l i).on.length/\(∀j,j<ns->w j=cnt (a7d l i).on j)/\c1k (d1o sz) (a7d l i) f1 f2) (fun⟨i,_⟩=>n-i)
  (fun⟨i,q1,q2,w,f1,f2⟩=>⟨a2l [(3,.msl 1 1 none ns false),(4,.map 2),(5,.map 3),(27,e3l n lns lsz lno lod lne lef len lnn lvar lnk lkid lroot),(28,int n),(29,int i)] 118,[.var [isl ns sz,isl no od,e3l n lns lsz lno lod lne lef len lnn lvar lnk lkid lroot,.d (.sl 1 n ce)],arrI ns w,.map true [.u8,.i64] q1 f1,.map true d1q q2 f2],[]⟩)
  (0,0,0,fun _=>0,fun _=>none,fun _=>none) ⟨by omega,rfl,rfl,fun j _=>rfl,c1k.nil _⟩ ?_ ?_
 ·refine a0m rfl ⟨(by subst hS;exact a0b.refl _),a0b.refl _,a0b.refl _,a0b.refl _,a1f (by subst hS;rfl),a1m rfl,trivial⟩ (.cons (.refl _) (.cons ?_ (.cons (.refl _) (.cons (.refl _) (.nil _))))) (by simp;omega) (.inr rfl) rfl
  clear hg hc hr
  subst hS
  refine a0f.arrr rfl fun j hj=> ?_
  simp only[std] at hj⊢
  rw[if_pos hj]
  exact .one (.int rfl)
 ·rintro⟨i,q1,q2,w,f1,f2⟩ ⟨hi,hq1,hq2,hw,hrep⟩ N hN
  simp only at hi hq1 hq2 hw hrep hN
  cbv
  split
  ·have hlt:i<n:=by rename_i h;clear hN hg hc hr hw hrep;subst hS;simp[std] at h;omega
   cbv
   refine a0a hS (by clear hN hg hc hr hw hrep;subst hS;simp[std];omega) ?_
   simp only[nat,ett,Int.ofNat_eq_natCast,Int.toNat_natCast]
   have hgd:=hg i hlt
   have hcd:=hc i hlt
   have hnn:lnn i<=6000:=by have:=hgd.nn;rw[hl] at this;exact this
   have hne:lne i<=1000000:=by have:=hgd.ne;rw[hl] at this;exact this
   obtain⟨s0,hs0⟩: ∃s0,a7d l i=s0:=⟨_,rfl⟩
   have hlen:=c1f l (n:=n) (fun i hi=>⟨(hg i hi).nn,fun j hj=>((hg i hi).nk j hj).2⟩) i hi
   have hfam:a7d l (i+1)=(a4k (l i) s0 (lnn i)).1:=by rw[a7d,hs0];simp only[hl]
   rw[hs0] at hq1 hq2 hw hrep hlen
   have hdl: ∀j,j<=lnn i->(a4k (l i) s0 j).1.oe.length<=s0.oe.length+12*j/\(a4k (l i) s0 j).1.on.length<=s0.on.length+j:=fun j hj=>c0h (l i) s0 (fun j hj=>(hgd.nk j hj).2) j (by rw[hl];exact hj)
   refine a0a hS (by clear hN hg hc hr hw hrep hcd hgd hdl;subst hS;simp[std]) (a0a hS (by clear hN hg hc hr hw hrep hcd hgd hdl;subst hS;simp[std,big];omega) ?_)
   refine a0y Tryz.mixed okP hS (σ:=Nat×(Nat->Int)×Nat×Nat×(Nat->Int)×(List KC->Option Int)×(List KC->Option Int))
    (fun⟨j,u,q1,q2,w,f1,f2⟩=>j<=lnn i/\q1=(a4k (l i) s0 j).1.oe.length/\q2=(a4k (l i) s0 j).1.on.length/\(∀m,m<ns->w m=cnt (a4k (l i) s0 j).1.on m)/\c1k (d1o sz) (a4k (l i) s0 j).1 f1 f2/\u=(a4k (l i) s0 j).2) (fun⟨j,_⟩=>lnn i-j)
    (fun⟨j,u,q1,q2,w,f1,f2⟩=>⟨a2l [(3,.msl 1 1 none ns false),(4,.map 2),(5,.map 3),(7,.ptr 4 0),(8,.msl 5 1 none (lnn i) false),(27,e3l n lns lsz lno lod lne lef len lnn lvar lnk lkid lroot),(28,int n),(29,int i),(38,bsl (lnn i) (lvar i) (lnk i) (lkid i)),(39,int (lnn i)),(40,int j)] 118,
      [.var [isl ns sz,isl no od,e3l n lns lsz lno lod lne lef len lnn lvar lnk lkid lroot,.d (.sl 1 n ce)],arrI ns w,.map true [.u8,.i64] q1 f1,.map true d1q q2 f2,.var [isl (lns i) (lsz i),isl (lno i) (lod i),vsl (lne i) (fun j=>⟨lef i j,len i j⟩),bsl (lnn i) (lvar i) (lnk i) (lkid i),int (lroot i)],arrI (lnn i) u],[]⟩)
    (0,fun _=>0,q1,q2,w,f1,f2) ⟨by omega,hq1,hq2,hw,hrep,rfl⟩ ?_ ?_
   ·refine a0m rfl ⟨a0b.refl _,a0b.refl _,a0b.refl _,a0b.refl _,(by clear hN hg hc hr hw hrep hcd hgd hdl;subst hS;exact a0b.refl _),a0b.refl _,a0b.refl _,a0b.refl _,a0b.refl _,a1f (by clear hN hg hc hr hw hrep hcd hgd hdl;subst hS;rfl),a1m rfl,trivial⟩ (.cons (.refl _) (.cons (.refl _) (.cons (.refl _) (.cons (.refl _) (.cons (.refl _) (.cons ?_ (.nil _))))))) (by simp;omega) (.inr rfl) rfl
    clear hN hg hc hr hw hrep hcd hgd hdl
    subst hS
    refine a0f.arrr rfl fun j hj=> ?_
    simp only[std] at hj⊢
    rw[if_pos hj]
    exact .one (.int rfl)
   ·clear hq1 hq2 hw hrep
    clear q1 q2 w f1 f2
    rintro⟨j,u,q1,q2,w,f1,f2⟩ ⟨hj,hq1,hq2,hw,hrep,hu⟩ N2 hN2
    simp only at hj hq1 hq2 hw hrep hu hN2
    have hdj:=hdl j hj
    cbv
    split
    ·have hjlt:j<lnn i:=by rename_i h;clear hN hN2 hg hc hr hw hrep hcd hgd hdl hu;subst hS;simp[std] at h;omega
     cbv
     have hgk:1<=lnk i j/\lnk i j<=12:=by have:=hgd.nk j (by rw[hl];exact hjlt);rw[hl] at this;exact this
     have hgv:0<=lvar i j/\lvar i j<ns/\(lnk i j:Int)=sz (lvar i j).toNat:=by have:=hgd.var j (by rw[hl];exact hjlt);rw[hl] at this;exact this
     have hgr: ∀k,k<lnk i j->a4g (lne i) (lkid i j k) j:=by have:=hgd.kid j (by rw[hl];exact hjlt);rw[hl] at this;exact this
     obtain⟨s1,hs1⟩: ∃s1,(a4k (l i) s0 j).1=s1:=⟨_,rfl⟩
     have hrefs:=c2l (l i) s0 j
     rw[hs1] at hq1 hq2 hw hrep hdj hrefs
     rw[<-hu] at hrefs
     have hs1b:s1.oe.length<=80000000/\s1.on.length<=80000000:=by omega
     have hkl:=b3s (l i) u j s1
     have hko:=b5s (l i) u j s1
     refine a0a hS (by clear hN hN2 hg hc hr hw hrep hcd hgd hdl hu hgr hrefs hkl hko;subst hS;exact⟨Int.natCast_nonneg j,Int.ofNat_lt.2 hjlt⟩) ?_
     simp only[nat,ett,Int.ofNat_eq_natCast,Int.toNat_natCast]
     refine a0y Tryz.mixed okP hS (σ:=Nat×(Nat->Int)×Nat×(List KC->Option Int))
      (fun⟨k,v,q1,f1⟩=>k<=lnk i j/\q1=(a8o (l i) u j s1 k).1.oe.length/\c1k (d1o sz) (a8o (l i) u j s1 k).1 f1 f2/\v=(a8o (l i) u j s1 k).2) (fun⟨k,_⟩=>lnk i j-k)
      (fun⟨k,v,q1,f1⟩=>⟨a2l [(3,.msl 1 1 none ns false),(4,.map 2),(5,.map 3),(7,.ptr 4 0),(8,.msl 5 1 none (lnn i) false),(9,int j),(10,.ptr 6 0),(11,.ptr 7 0),(27,e3l n lns lsz lno lod lne lef len lnn lvar lnk lkid lroot),(28,int n),(29,int i),(38,bsl (lnn i) (lvar i) (lnk i) (lkid i)),(39,int (lnn i)),(40,int j),
        (49,isl (lnk i j) (lkid i j)),(50,int (lnk i j)),(51,.d (.int .i64 (.l (Int.ofNat k))))] 118,
        [.var [isl ns sz,isl no od,e3l n lns lsz lno lod lne lef len lnn lvar lnk lkid lroot,.d (.sl 1 n ce)],arrI ns w,.map true [.u8,.i64] q1 f1,.map true d1q q2 f2,.var [isl (lns i) (lsz i),isl (lno i) (lod i),vsl (lne i) (fun j=>⟨lef i j,len i j⟩),bsl (lnn i) (lvar i) (lnk i) (lkid i),int (lroot i)],arrI (lnn i) u,.var [int (lvar i j),isl (lnk i j) (lkid i j)],
          .var [int (lvar i j),int (v 0),int (v 1),int (v 2),int (v 3),int (v 4),int (v 5),int (v 6),int (v 7),int (v 8),int (v 9),int (v 10),int (v 11)]],[]⟩)
      (0,fun _=>0,q1,f1) ⟨by omega,hq1,hrep,rfl⟩ ?_ ?_
     ·refine a0m rfl ⟨a0b.refl _,a0b.refl _,a0b.refl _,a0b.refl _,a0b.refl _,a0b.refl _,a0b.refl _,a0b.refl _,a0b.refl _,a0b.refl _,a0b.refl _,a0b.refl _,a0b.refl _,a0b.refl _,a0b.refl _,a1f (by clear hN hN2 hg hc hr hw hrep hcd hgd hdl hu hgr hrefs hkl hko;subst hS;rfl),a0b.refl _,trivial⟩ (.cons (.refl _) (.cons (.refl _) (.cons (.refl _) (.cons (.refl _) (.cons (.refl _) (.cons (.refl _) (.cons (.refl _) (.cons (a0f.var ?_) (.nil _))))))))) (by simp;omega) (.inr rfl) rfl
      exact .cons (a0b.refl _) (.cons (a1m rfl) (.cons (a1m rfl) (.cons (a1m rfl) (.cons (a1m rfl) (.cons (a1m rfl) (.cons (a1m rfl) (.cons (a1m rfl) (.cons (a1m rfl) (.cons (a1m rfl) (.cons (a1m rfl) (.cons (a1m rfl) (.cons (a1m rfl) .nil))))))))))))
     ·rintro⟨k,v,q1,f1⟩ ⟨hk,hq1,hrep,hv⟩ N3 hN3
      simp only at hk hq1 hrep hv hN3
      have hklk:=hkl k
      cbv
      split
      ·have hklt:k<lnk i j:=by rename_i h;clear hN hN2 hN3 hg hc hr hw hrep hcd hgd hdl hu hgr hrefs hkl hko hv;subst hS;simp[std] at h;omega
       have hkk:=hgr k hklt
       obtain⟨s2,hs2⟩: ∃s2,(a8o (l i) u j s1 k).1=s2:=⟨_,rfl⟩
       obtain⟨x,hx⟩: ∃x,lkid i j k=x:=⟨_,rfl⟩
       have hstep:a8o (l i) u j s1 (k+1)=((c6o (l i) u s2 x).1,a0r v k (c6o (l i) u s2 x).2):=by
        rw[a8o,hs2,<-hv]
        simp only[hl,hx]
       rw[hs2] at hq1 hrep hklk
       rw[hx] at hkk
       have hk12:k=0\/k=1\/k=2\/k=3\/k=4\/k=5\/k=6\/k=7\/k=8\/k=9\/k=10\/k=11:=by omega
       cbv
       refine a0a hS (by clear hN hN2 hN3 hg hc hr hw hrep hcd hgd hdl hu hgr hrefs hkl hko hv hkk hk12;subst hS;exact⟨Int.natCast_nonneg k,Int.ofNat_lt.2 hklt⟩) ?_
       simp only[nat,ett,Int.ofNat_eq_natCast,Int.toNat_natCast]
       simp only[hx]
       split
       ·have hx0:0<=x:=by rename_i h;clear hN hN2 hN3 hg hc hr hw hrep hcd hgd hdl hu hgr hrefs hkl hko hv hkk hk12;subst hS;simp[std] at h;exact h
        have hres:c6o (l i) u s2 x=(s2,u x.toNat):=by rw[c6o,if_pos hx0]
        rw[hres] at hstep
        have hxj:=hkk.1 hx0
        have hxn:x<lnn i:=Int.lt_trans hxj (Int.ofNat_lt.2 hjlt)
        have hxt:x.toNat<lnn i:=(Int.toNat_lt hx0).2 hxn
        rcases hk12 with h|h|h|h|h|h|h|h|h|h|h|h<;>
        ·simp only[h]
         cbv
         refine a0a hS (by clear hN hN2 hN3 hg hc hr hw hrep hcd hgd hdl hu hgr hrefs hkl hko hv hkk;subst hS;exact⟨hx0,hxn⟩) ?_
         refine a0a hS (by clear hN hN2 hN3 hg hc hr hw hrep hcd hgd hdl hu hgr hrefs hkl hko hv hkk;subst hS;exact hxt) ?_
         refine a0a hS (by clear hN hN2 hN3 hg hc hr hw hrep hcd hgd hdl hu hgr hrefs hkl hko hv hkk;subst hS;exact a0h (by simp[std]) (by simp[std])) ?_
         refine hN3 (k+1,a0r v k (u x.toNat),q1,f1) _ ⟨by simp only;omega,by simp only[hstep,hq1],by simp only[hstep];exact hrep,by simp only[hstep]⟩ (by simp only;omega) (a0m rfl ⟨a0b.refl _,a0b.refl _,a0b.refl _,a0b.refl _,a0b.refl _,a0b.refl _,a0b.refl _,a0b.refl _,a0b.refl _,a0b.refl _,a0b.refl _,a0b.refl _,a0b.refl _,a0b.refl _,a0b.refl _,a0b.refl _,a0b.int (by rw[h]),trivial⟩
          (.cons (.refl _) (.cons (.refl _) (.cons (.refl _) (.cons (.refl _) (.cons (.refl _) (.cons (.refl _) (.cons (.refl _) (.cons (a0f.var ?_) (.nil _))))))))) (by simp;omega) (.inr rfl) rfl)
         simp only[ett]
         exact .cons (a0b.refl _) (.cons (a1f (by rw[h];rfl)) (.cons (a1f (by rw[h];rfl)) (.cons (a1f (by rw[h];rfl)) (.cons (a1f (by rw[h];rfl)) (.cons (a1f (by rw[h];rfl)) (.cons (a1f (by rw[h];rfl)) (.cons (a1f (by rw[h];rfl)) (.cons (a1f (by rw[h];rfl)) (.cons (a1f (by rw[h];rfl)) (.cons (a1f (by rw[h];rfl)) (.cons (a1f (by rw[h];rfl)) (.cons (a1f (by rw[h];rfl)) (.nil)))))))))))))
       ·have hx0:x<0:=by rename_i h;clear hN hN2 hN3 hg hc hr hw hrep hcd hgd hdl hu hgr hrefs hkl hko hv hkk hk12;subst hS;simp[std] at h;exact h
        have hx1:=hkk.2 hx0
        have hx2:0<= -1-x:=by omega
        have hx3: -1-x<=1000000:=by have:=Int.ofNat_le.2 hne;omega
        obtain⟨y,hy⟩: ∃y,(-1-x).toNat=y:=⟨_,rfl⟩
        have hyl:y<lne i:=by rw[<-hy];exact (Int.toNat_lt hx2).2 hx1
        obtain⟨cf,hcf⟩: ∃cf,lef i y=cf:=⟨_,rfl⟩
        obtain⟨cn,hcn⟩: ∃cn,len i y=cn:=⟨_,rfl⟩
        have hres:c6o (l i) u s2 x=(⟨Law.onceE s2.oe ⟨cf,cn⟩,s2.on⟩,-1-(Law.at1 s2.oe (⟨cf,cn⟩:VaR):Int)):=by rw[c6o,if_neg (by omega)];simp only[hl,hy,hcf,hcn]
        rw[hres] at hstep
        have hcb:(0<=cf/\cf<=255)/\a4s cn:=by have:=hcd y (by rw[hl];exact hyl);rw[hl] at this;simp only[hcf,hcn] at this;exact this
        have hq1b:q1<=100000000:=by omega
        cases hfk:f1 [.i cf,.i cn] with
        |some z=>
         have hh:Sg.mhas f1 [.i cf,.i cn]=true:=by clear hN hN2 hN3 hg hc hr hw hrep hcd hgd hdl hu hgr hrefs hkl hko hv hkk hk12;subst hS;simp[std,hfk]
         have hgt:Sg.mget f1 [.i cf,.i cn]=z:=by clear hN hN2 hN3 hg hc hr hw hrep hcd hgd hdl hu hgr hrefs hkl hko hv hkk hk12;subst hS;simp[std,hfk]
         obtain⟨hz1,hz2⟩:=hrep.hit ⟨cf,cn⟩ hfk
         rw[hz2] at hstep
         rcases hk12 with h|h|h|h|h|h|h|h|h|h|h|h<;>
         ·simp only[h]
          cbv
          simp only[nat,ett,es,hy,hcf,hcn,hh]
          refine a0a hS (by clear hN hN2 hN3 hg hc hr hw hrep hcd hgd hdl hu hgr hrefs hkl hko hv hkk;subst hS;exact a0h (by omega) (by omega)) (a0a hS (by clear hN hN2 hN3 hg hc hr hw hrep hcd hgd hdl hu hgr hrefs hkl hko hv hkk;subst hS;exact⟨hx2,hx1⟩) (a0a hS (by clear hN hN2 hN3 hg hc hr hw hrep hcd hgd hdl hu hgr hrefs hkl hko hv hkk;subst hS;simp[std,IntKind.wrap,IntKind.bits,IntKind.signed];omega) (a0a hS (by clear hN hN2 hN3 hg hc hr hw hrep hcd hgd hdl hu hgr hrefs hkl hko hv hkk;subst hS;exact a0h hcb.2.1 hcb.2.2) ?_)))
          cbv
          simp only[hgt]
          refine a0a hS (by clear hN hN2 hN3 hg hc hr hw hrep hcd hgd hdl hu hgr hrefs hkl hko hv hkk;subst hS;simp[std,IntKind.wrap,IntKind.bits,IntKind.signed];omega) (a0a hS (by clear hN hN2 hN3 hg hc hr hw hrep hcd hgd hdl hu hgr hrefs hkl hko hv hkk;subst hS;exact a0h hcb.2.1 hcb.2.2) (a0a hS (by clear hN hN2 hN3 hg hc hr hw hrep hcd hgd hdl hu hgr hrefs hkl hko hv hkk;subst hS;exact a0h (by simp[std]) (by simp[std])) ?_))
          refine hN3 (k+1,a0r v k z,q1,f1) _ ⟨by simp only;omega,by simp only[hstep,hq1],by simp only[hstep];exact hrep,by simp only[hstep,hz1]⟩ (by simp only;omega) (a0m rfl ⟨a0b.refl _,a0b.refl _,a0b.refl _,a0b.refl _,a0b.refl _,a0b.refl _,a0b.refl _,a0b.refl _,a0b.refl _,a0b.refl _,a0b.refl _,a0b.refl _,a0b.refl _,a0b.refl _,a0b.refl _,a0b.refl _,a0b.int (by rw[h]),trivial⟩
           (.cons (.refl _) (.cons (.refl _) (.cons (.refl _) (.cons (.refl _) (.cons (.refl _) (.cons (.refl _) (.cons (.refl _) (.cons (a0f.var ?_) (.nil _))))))))) (by simp;omega) (.inl ⟨by cbv,by cbv⟩) rfl)
          exact .cons (a0b.refl _) (.cons (a1f (by rw[h];rfl)) (.cons (a1f (by rw[h];rfl)) (.cons (a1f (by rw[h];rfl)) (.cons (a1f (by rw[h];rfl)) (.cons (a1f (by rw[h];rfl)) (.cons (a1f (by rw[h];rfl)) (.cons (a1f (by rw[h];rfl)) (.cons (a1f (by rw[h];rfl)) (.cons (a1f (by rw[h];rfl)) (.cons (a1f (by rw[h];rfl)) (.cons (a1f (by rw[h];rfl)) (.cons (a1f (by rw[h];rfl)) (.nil)))))))))))))
        |none=>
         have hh:Sg.mhas f1 [.i cf,.i cn]=false:=by clear hN hN2 hN3 hg hc hr hw hrep hcd hgd hdl hu hgr hrefs hkl hko hv hkk hk12;subst hS;simp[std,hfk]
         have hwr:Sg.inr .i64 (-1-(q1:Int)):=by clear hN hN2 hN3 hg hc hr hw hrep hcd hgd hdl hu hgr hrefs hkl hko hv hkk hk12;subst hS;exact a0h (by omega) (by omega)
         have hset: ∀z,Sg.mget (Sg.mset f1 [.i cf,.i cn] z) [.i cf,.i cn]=z:=by clear hN hN2 hN3 hg hc hr hw hrep hcd hgd hdl hu hgr hrefs hkl hko hv hkk hk12;subst hS;simp[std]
         have hcnt:Sg.mcnt f1 [.i cf,.i cn] q1=q1+1:=by clear hN hN2 hN3 hg hc hr hw hrep hcd hgd hdl hu hgr hrefs hkl hko hv hkk hk12;subst hS;simp[std,hfk]
         have hms: ∀z k,Sg.mset f1 [.i cf,.i cn] z k=if k=[.i cf,.i cn] then some z else f1 k:=by clear hN hN2 hN3 hg hc hr hw hrep hcd hgd hdl hu hgr hrefs hkl hko hv hkk hk12;subst hS;intro z k;rfl
         obtain⟨hz1,hz2,hz3⟩:=hrep.miss ⟨cf,cn⟩ hfk
         rw[hz1,<-hq1] at hstep
         rw[<-hq1] at hz2 hz3
         rcases hk12 with h|h|h|h|h|h|h|h|h|h|h|h<;>
         ·simp only[h]
          cbv
          simp only[nat,ett,es,hy,hcf,hcn,hh]
          refine a0a hS (by clear hN hN2 hN3 hg hc hr hw hrep hcd hgd hdl hu hgr hrefs hkl hko hv hkk;subst hS;exact a0h (by omega) (by omega)) (a0a hS (by clear hN hN2 hN3 hg hc hr hw hrep hcd hgd hdl hu hgr hrefs hkl hko hv hkk;subst hS;exact⟨hx2,hx1⟩) (a0a hS (by clear hN hN2 hN3 hg hc hr hw hrep hcd hgd hdl hu hgr hrefs hkl hko hv hkk;subst hS;simp[std,IntKind.wrap,IntKind.bits,IntKind.signed];omega) (a0a hS (by clear hN hN2 hN3 hg hc hr hw hrep hcd hgd hdl hu hgr hrefs hkl hko hv hkk;subst hS;exact a0h hcb.2.1 hcb.2.2) ?_)))
          cbv
          simp only[hset,hcnt,es,eof]
          refine a0a hS hwr (a0a hS (by clear hN hN2 hN3 hg hc hr hw hrep hcd hgd hdl hu hgr hrefs hkl hko hv hkk;subst hS;simp[std,IntKind.wrap,IntKind.bits,IntKind.signed];omega) (a0a hS (by clear hN hN2 hN3 hg hc hr hw hrep hcd hgd hdl hu hgr hrefs hkl hko hv hkk;subst hS;exact a0h hcb.2.1 hcb.2.2) (a0a hS (by clear hN hN2 hN3 hg hc hr hw hrep hcd hgd hdl hu hgr hrefs hkl hko hv hkk;subst hS;simp[std,IntKind.wrap,IntKind.bits,IntKind.signed];omega) (a0a hS (by clear hN hN2 hN3 hg hc hr hw hrep hcd hgd hdl hu hgr hrefs hkl hko hv hkk;subst hS;exact a0h hcb.2.1 hcb.2.2) (a0a hS (by clear hN hN2 hN3 hg hc hr hw hrep hcd hgd hdl hu hgr hrefs hkl hko hv hkk;subst hS;exact a0h (by simp[std]) (by simp[std])) ?_)))))
          refine hN3 (k+1,a0r v k (-1-(q1:Int)),q1+1,fun k=>if k=[.i cf,.i cn] then some (-1-(q1:Int)) else f1 k) _ ⟨by simp only;omega,by simp only[hstep,hz2],by simp only[hstep];exact hz3,by simp only[hstep]⟩ (by simp only;omega) (a0m rfl ⟨a0b.refl _,a0b.refl _,a0b.refl _,a0b.refl _,a0b.refl _,a0b.refl _,a0b.refl _,a0b.refl _,a0b.refl _,a0b.refl _,a0b.refl _,a0b.refl _,a0b.refl _,a0b.refl _,a0b.refl _,a0b.refl _,a0b.int (by rw[h]),trivial⟩
           (.cons (.refl _) (.cons (.refl _) (.cons (a0f.map rfl fun k=>hms _ k) (.cons (.refl _) (.cons (.refl _) (.cons (.refl _) (.cons (.refl _) (.cons (a0f.var ?_) (.nil _))))))))) (by simp;omega) (.inl ⟨by cbv,by cbv⟩) rfl)
          exact .cons (a0b.refl _) (.cons (a1f (by rw[h];rfl)) (.cons (a1f (by rw[h];rfl)) (.cons (a1f (by rw[h];rfl)) (.cons (a1f (by rw[h];rfl)) (.cons (a1f (by rw[h];rfl)) (.cons (a1f (by rw[h];rfl)) (.cons (a1f (by rw[h];rfl)) (.cons (a1f (by rw[h];rfl)) (.cons (a1f (by rw[h];rfl)) (.cons (a1f (by rw[h];rfl)) (.cons (a1f (by rw[h];rfl)) (.cons (a1f (by rw[h];rfl)) (.nil)))))))))))))
      ·have hkeq:k=(lnk i) j:=by rename_i h;clear hN hN2 hN3 hg hc hr hw hrep hcd hgd hdl hu hgr hrefs hkl hko hv;subst hS;simp[std] at h;omega
       subst hkeq
       obtain⟨s2,hs2⟩: ∃s2,(a8o (l i) u j s1 (lnk i j)).1=s2:=⟨_,rfl⟩
       have hon2:s2.on=s1.on:=by rw[<-hs2];exact hko _
       have hv0: ∀m,lnk i j<=m->v m=0:=fun m hm=>by rw[hv];exact c2u _ _ _ _ _ _ hm
       have hkey:e3a (l i) u j s1=⟨lvar i j,L (lnk i j) v⟩:=by rw[e3a];simp only[hl];rw[hv];simp only[hl]
       have hvb: ∀m,m<12-> -100000001<=v m/\v m<=100000000:=fun m _=>by
        have:=d5o (l i) u j s1 100000000 (by simp only[hl];exact Int.ofNat_le.2 (show s1.oe.length+lnk i j<=100000000 by omega)) (fun k hk h0=> ?_) (lnk i j) (by simp only[hl];omega) m
        ·rw[<-hv] at this;omega
        ·simp only[hl] at hk h0⊢
         have h1:=(hgr k hk).1 h0
         have h2:=hrefs (lkid i j k).toNat ((Int.toNat_lt h0).2 h1)
         exact⟨h2.1,Int.le_trans (Int.le_of_lt h2.2) (Int.le_trans (Int.ofNat_le.2 hs1b.2) (by decide))⟩
       have hnk:a3v (lvar i j) (lnk i j) v=[.i (lvar i j),.i (v 0),.i (v 1),.i (v 2),.i (v 3),.i (v 4),.i (v 5),.i (v 6),.i (v 7),.i (v 8),.i (v 9),.i (v 10),.i (v 11)]:=by
        have: ∀m,(if m<lnk i j then v m else 0)=v m:=fun m=>by
         split
         ·rfl
         ·rw[hv0 m (by omega)]
        simp only[a3v,this]
       have hdstep:a4k (l i) s0 (j+1)=(⟨s2.oe,Law.onceE s1.on ⟨lvar i j,L (lnk i j) v⟩⟩,a0r u j (Law.at1 s1.on (⟨lvar i j,L (lnk i j) v⟩:NdR))):=by
        rw[a4k,hs1,<-hu,hkey,hko]
        simp only[hl]
        simp only[hl] at hs2
        rw[hs2]
       have hvr: ∀m,m<12->Sg.inr .i64 (v m):=fun m hm=>by
        have:=hvb m hm
        clear hN hN2 hN3 hg hc hr hw hrep hcd hgd hdl hu hgr hrefs hkl hko hv
        subst hS
        exact a0h (by omega) (by omega)
       have hvar2:lvar i j<=1000000:=Int.le_trans (Int.le_of_lt hgv.2.1) (Int.ofNat_le.2 hns)
       have hvar1:=hgv.1
       cbv
       refine a0a hS (by clear hN hN2 hN3 hg hc hr hw hrep hcd hgd hdl hu hgr hrefs hkl hko hv;subst hS;exact a0h (by omega) (by omega)) ?_
       refine a0a hS (hvr 0 (by omega)) (a0a hS (hvr 1 (by omega)) (a0a hS (hvr 2 (by omega)) (a0a hS (hvr 3 (by omega)) (a0a hS (hvr 4 (by omega)) (a0a hS (hvr 5 (by omega)) (a0a hS (hvr 6 (by omega)) (a0a hS (hvr 7 (by omega)) (a0a hS (hvr 8 (by omega)) (a0a hS (hvr 9 (by omega)) (a0a hS (hvr 10 (by omega)) (a0a hS (hvr 11 (by omega)) ?_)))))))))))
       have hshp:d1o sz ⟨lvar i j,L (lnk i j) v⟩:=⟨by simp only[a0k];omega,by simp only[a0k];exact hgv.2.2⟩
       cases hfk:f2 (a3v (lvar i j) (lnk i j) v) with
       |some z=>
        obtain⟨hz1,hz2⟩:=(show c1k (d1o sz) s2 f1 f2 by rw[<-hs2];exact hrep).hitN hshp hfk
        rw[hnk] at hfk
        rw[hon2] at hz1 hz2
        rw[hz2] at hdstep
        have hdstep:a4k (l i) s0 (j+1)=(⟨s2.oe,s1.on⟩,a0r u j z):=hdstep.trans (by rw[hz1])
        have hh:Sg.mhas f2 [.i (lvar i j),.i (v 0),.i (v 1),.i (v 2),.i (v 3),.i (v 4),.i (v 5),.i (v 6),.i (v 7),.i (v 8),.i (v 9),.i (v 10),.i (v 11)]=true:=by
         clear hN hN2 hN3 hg hc hr hw hrep hcd hgd hdl hu hgr hrefs hkl hko hv;subst hS;show (f2 _).isSome=true;rw[hfk];rfl
        have hgt:Sg.mget f2 [.i (lvar i j),.i (v 0),.i (v 1),.i (v 2),.i (v 3),.i (v 4),.i (v 5),.i (v 6),.i (v 7),.i (v 8),.i (v 9),.i (v 10),.i (v 11)]=z:=by
         clear hN hN2 hN3 hg hc hr hw hrep hcd hgd hdl hu hgr hrefs hkl hko hv;subst hS;show (f2 _).getD 0=z;rw[hfk];rfl
        simp only[hh,hgt]
        cbv
        refine a0a hS (by clear hN hN2 hN3 hg hc hr hw hrep hcd hgd hdl hu hgr hrefs hkl hko hv hvr hvb hv0;subst hS;exact⟨Int.natCast_nonneg j,Int.ofNat_lt.2 hjlt⟩) (a0a hS (by clear hN hN2 hN3 hg hc hr hw hrep hcd hgd hdl hu hgr hrefs hkl hko hv hvr hvb hv0;subst hS;exact hjlt) (a0a hS (by clear hN hN2 hN3 hg hc hr hw hrep hcd hgd hdl hu hgr hrefs hkl hko hv hvr hvb hv0;subst hS;exact a0h (by simp[std];omega) (by simp[std];omega)) ?_))
        refine hN2 (j+1,a0r u j z,q1,q2,w,f1,f2) _ ⟨by simp only;omega,by simp only[hdstep];rw[hq1,hs2],by simp only[hdstep];exact hq2,by simp only[hdstep];exact hw,by simp only[hdstep,<-hon2,<-hs2];exact hrep,by simp only[hdstep]⟩ (by simp only;omega) (a0m rfl ⟨a0b.refl _,a0b.refl _,a0b.refl _,a0b.refl _,a0b.refl _,a0b.refl _,a0b.refl _,a0b.refl _,a0b.refl _,a0b.refl _,a1f ?_,trivial⟩
         (.cons (.refl _) (.cons (.refl _) (.cons (.refl _) (.cons (.refl _) (.cons (.refl _) (.cons (a0f.arrr ?_ ?_) (.nil _))))))) (by simp;omega) (.inl ⟨by cbv,by cbv⟩) rfl)
        ·clear hN hN2 hN3 hg hc hr hw hrep hcd hgd hdl hu hgr hrefs hkl hko hv hvr hvb hv0;subst hS;simp[std]
        ·rfl
        ·intro m hm
         clear hN hN2 hN3 hg hc hr hw hrep hcd hgd hdl hu hgr hrefs hkl hko hv hvr hvb hv0
         subst hS
         simp only[std,a0r,Int.toNat_natCast,Int.ofNat_eq_natCast]
         split
         ·exact .one (.int rfl)
         ·exact .refl _
       |none=>
        obtain⟨hz1,hz2,hz3⟩:=(show c1k (d1o sz) s2 f1 f2 by rw[<-hs2];exact hrep).missN (d6q sz) hshp hfk
        rw[hnk] at hfk
        rw[hon2] at hz1 hz2 hz3
        rw[hz2,hz1] at hdstep
        rw[hz2] at hz3
        rw[<-hq2] at hdstep hz3
        rw[hnk] at hz3
        have hh:Sg.mhas f2 [.i (lvar i j),.i (v 0),.i (v 1),.i (v 2),.i (v 3),.i (v 4),.i (v 5),.i (v 6),.i (v 7),.i (v 8),.i (v 9),.i (v 10),.i (v 11)]=false:=by
         clear hN hN2 hN3 hg hc hr hw hrep hcd hgd hdl hu hgr hrefs hkl hko hv;subst hS;show (f2 _).isSome=false;rw[hfk];rfl
        have hcnt:Sg.mcnt f2 [.i (lvar i j),.i (v 0),.i (v 1),.i (v 2),.i (v 3),.i (v 4),.i (v 5),.i (v 6),.i (v 7),.i (v 8),.i (v 9),.i (v 10),.i (v 11)] q2=q2+1:=by
         clear hN hN2 hN3 hg hc hr hw hrep hcd hgd hdl hu hgr hrefs hkl hko hv;subst hS;show (if (f2 _).isSome then q2 else q2+1)=q2+1;rw[hfk];rfl
        simp only[hh]
        cbv
        simp only[hcnt,eof,ett]
        have hvt:(lvar i j).toNat<ns:=(Int.toNat_lt hgv.1).2 hgv.2.1
        have hvin:0<=lvar i j/\lvar i j<ns:=⟨hgv.1,hgv.2.1⟩
        have hwv:=hw _ hvt
        have hcl:=d7l s1.on (lvar i j).toNat
        have hwr:Sg.inr .i64 (Sg.iadd (w (lvar i j).toNat) (Int.ofNat 1)):=by
         have h1:=Int.le_trans hcl.2 (Int.ofNat_le.2 hs1b.2)
         rw[<-hwv] at h1 hcl
         have h0:=hcl.1
         clear hN hN2 hN3 hg hc hr hw hrep hcd hgd hdl hu hgr hrefs hkl hko hv hvr hvb hv0 hh hcnt hfk
         clear hwv
         subst hS
         have h2:w (lvar i j).toNat<=80000000:=h1
         exact a0h (by simp[std];omega) (by simp[std];omega)
        refine a0a hS (by clear hN hN2 hN3 hg hc hr hw hrep hcd hgd hdl hu hgr hrefs hkl hko hv hvr hvb hv0 hh hcnt hfk;subst hS;exact a0h (by omega) (by omega)) ?_
        refine a0a hS (hvr 0 (by omega)) (a0a hS (hvr 1 (by omega)) (a0a hS (hvr 2 (by omega)) (a0a hS (hvr 3 (by omega)) (a0a hS (hvr 4 (by omega)) (a0a hS (hvr 5 (by omega)) (a0a hS (hvr 6 (by omega)) (a0a hS (hvr 7 (by omega)) (a0a hS (hvr 8 (by omega)) (a0a hS (hvr 9 (by omega)) (a0a hS (hvr 10 (by omega)) (a0a hS (hvr 11 (by omega)) ?_)))))))))))
        refine a0a hS (by clear hN hN2 hN3 hg hc hr hw hrep hcd hgd hdl hu hgr hrefs hkl hko hv hvr hvb hv0 hh hcnt hfk;subst hS;exact hvin) (a0a hS (by clear hN hN2 hN3 hg hc hr hw hrep hcd hgd hdl hu hgr hrefs hkl hko hv hvr hvb hv0 hh hcnt hfk;subst hS;exact hvt) (a0a hS hwr (a0a hS (by clear hN hN2 hN3 hg hc hr hw hrep hcd hgd hdl hu hgr hrefs hkl hko hv hvr hvb hv0 hh hcnt hfk;subst hS;exact hvin) (a0a hS (by clear hN hN2 hN3 hg hc hr hw hrep hcd hgd hdl hu hgr hrefs hkl hko hv hvr hvb hv0 hh hcnt hfk;subst hS;exact hvt) ?_))))
        refine a0a hS (by clear hN hN2 hN3 hg hc hr hw hrep hcd hgd hdl hu hgr hrefs hkl hko hv hvr hvb hv0 hh hcnt hfk;subst hS;exact⟨Int.natCast_nonneg j,Int.ofNat_lt.2 hjlt⟩) (a0a hS (by clear hN hN2 hN3 hg hc hr hw hrep hcd hgd hdl hu hgr hrefs hkl hko hv hvr hvb hv0 hh hcnt hfk;subst hS;exact hjlt) (a0a hS (by clear hN hN2 hN3 hg hc hr hw hrep hcd hgd hdl hu hgr hrefs hkl hko hv hvr hvb hv0 hh hcnt hfk;subst hS;exact a0h (by simp[std];omega) (by simp[std];omega)) ?_))
        refine hN2 (j+1,a0r u j q2,q1,q2+1,a0r w (lvar i j).toNat (w (lvar i j).toNat+1),f1,fun k=>if k=[.i (lvar i j),.i (v 0),.i (v 1),.i (v 2),.i (v 3),.i (v 4),.i (v 5),.i (v 6),.i (v 7),.i (v 8),.i (v 9),.i (v 10),.i (v 11)] then some (q2:Int) else f2 k) _
         ⟨by simp only;omega,by simp only[hdstep];rw[hq1,hs2],by simp only[hdstep,List.length_append,List.length_cons,List.length_nil];omega,fun m hm=> ?_,by simp only[hdstep];exact hz3,by simp only[hdstep]⟩ (by simp only;omega)
         (a0m rfl ⟨a0b.refl _,a0b.refl _,a0b.refl _,a0b.refl _,a0b.refl _,a0b.refl _,a0b.refl _,a0b.refl _,a0b.refl _,a0b.refl _,a1f ?_,trivial⟩
           (.cons (.refl _) (.cons (a0f.arrr ?_ ?_) (.cons (.refl _) (.cons (a0f.map rfl fun k=> ?_) (.cons (.refl _) (.cons (a0f.arrr ?_ ?_) (.nil _))))))) (by simp;omega) (.inl ⟨by cbv,by cbv⟩) rfl)
        ·simp only[hdstep,a0r]
         rw[e6d,<-hw m hm]
         by_cases e:m=(lvar i j).toNat
         ·rw[if_pos e,if_pos (by rw[e];exact (Int.toNat_of_nonneg hgv.1).symm),e]
         ·rw[if_neg e,if_neg (fun h=>e (by rw[show lvar i j=(m:Int) from h,Int.toNat_natCast])),Int.add_zero]
        ·clear hN hN2 hN3 hg hc hr hw hrep hcd hgd hdl hu hgr hrefs hkl hko hv hvr hvb hv0 hh hcnt hfk;subst hS;simp[std]
        ·rfl
        ·intro m hm
         clear hN hN2 hN3 hg hc hr hw hrep hcd hgd hdl hu hgr hrefs hkl hko hv hvr hvb hv0 hh hcnt hfk
         clear hwr hwv
         subst hS
         simp only[std,a0r,Int.toNat_natCast,Int.ofNat_eq_natCast]
         split
         ·exact .one (.int rfl)
         ·exact .refl _
        ·clear hN hN2 hN3 hg hc hr hw hrep hcd hgd hdl hu hgr hrefs hkl hko hv hvr hvb hv0 hh hcnt hfk
         clear hwr hwv
         subst hS
         rfl
        ·rfl
        ·intro m hm
         clear hN hN2 hN3 hg hc hr hw hrep hcd hgd hdl hu hgr hrefs hkl hko hv hvr hvb hv0 hh hcnt hfk
         clear hwr hwv
         subst hS
         simp only[std,a0r,Int.toNat_natCast,Int.ofNat_eq_natCast]
         split
         ·exact .one (.int rfl)
         ·exact .refl _
    ·have hjeq:j=lnn i:=by rename_i h;clear hN hN2 hg hc hr hw hrep hcd hgd hdl hu;subst hS;simp[std] at h;omega
     subst hjeq
     rw[<-hfam] at hq1 hq2 hw hrep
     cbv
     refine a0a hS (by clear hN hN2 hg hc hr hw hrep hcd hgd hdl hu;subst hS;exact a0h (by simp[std];omega) (by simp[std];omega)) ?_
     refine hN (i+1,q1,q2,w,f1,f2) _ ⟨by simp only;omega,hq1,hq2,hw,hrep⟩ (by simp only;omega) (a0m rfl ⟨a0b.refl _,a0b.refl _,a0b.refl _,a0b.refl _,a0b.refl _,a1f ?_,trivial⟩ (.cons (.refl _) (.cons (.refl _) (.cons (.refl _) (.cons (.refl _) (.nil _))))) (by simp;omega) (.inl ⟨by cbv,by cbv⟩) rfl)
     clear hN hN2 hg hc hr hw hrep hcd hgd hdl hu;subst hS;simp[std]
  ·have hieq:i=n:=by rename_i h;clear hN hg hc hr hw hrep;subst hS;simp[std] at h;omega
   subst hieq
   cbv
   exact⟨[],by simp,hF (.cons (.refl _) (.cons (a0f.arrr rfl fun j hj=>by rw[hw j hj,hr j hj];exact .refl _) (.nil _))) (a0b.refl _) (by simp) (.inl ⟨rfl,rfl⟩) ⟨rfl,rfl,rfl⟩⟩
theorem c9t {ns no:Nat}(sz od:Nat->Int)(n:Nat)(hn:n<=1000)(hns:ns<=1000000)(l:Nat->DiR)(hg: ∀i,i<n->(l i).good ns sz)(hc: ∀i,i<n-> ∀j,j<(l i).ne->(0<=((l i).en j).fault/\((l i).en j).fault<=255)/\a4s ((l i).en j).n)
 (ce:Nat->List DV) (r:Nat->Int) (hr: ∀j,j<ns->r j=cnt (a7d l n).on j):
 a0j Tryz.prog false 56 [.agg [isl ns sz,isl no od,dsl n l,.d (.sl 1 n ce)]] (isl ns r):=by
 obtain⟨o,h⟩:=d4w sz od n hn hns l hg hc ce r hr
 exact a0j.of_own (l:=1) (a0g.mono (fun pg v h' ⟨a,b,c⟩=>⟨a,b,by rw[c];rfl,by rw[c];rfl⟩) h)
def a3n (r:Nat->Int):Nat->Int
 |0=>0
 |k+1=>a3n r k+r k
theorem c7r {r:Nat->Int}{n:Nat}(h: ∀j,j<n->0<=r j/\r j<=1000000000): ∀k,k<=n->0<=a3n r k/\a3n r k<=1000000000*(k:Int)
 |0,_=>by simp[a3n]
 |k+1,hk=>by
  have ih:=c7r h k (by omega)
  have:=h k (by omega)
  simp only[a3n]
  omega
theorem e3g {ns no n m:Nat}(hns:ns<=1000000)(e1 e2 e3 e4:Nat->List DV)(r:Nat->Int)(hr: ∀j,j<ns->0<=r j/\r j<=1000000000)
 (h56:a0j Tryz.prog false 56 [.agg [.d (.sl 1 ns e1),.d (.sl 1 no e2),.d (.sl 5 n e3),.d (.sl 1 m e4)]] (isl ns r)) (c:Int) (hc:c=a3n r ns):
 a0j Tryz.prog true 55 [.agg [.d (.sl 1 ns e1),.d (.sl 1 no e2),.d (.sl 5 n e3),.d (.sl 1 m e4)]] (int c):=by
 have hb:=c7r hr
 refine a1y (a0d Tryz.mixed okP g1v _ rfl fun E Sg hbs hS=> ?_)
 have ett: ∀z,Sg.toNat z=z.toNat:=by subst hS;exact fun _=>rfl
 cbv
 refine a0e hS _ h56 ?_
 cbv
 refine a0y Tryz.mixed okP hS (fun i=>i<=ns) (fun i=>ns-i)
  (fun i=>⟨a2l [(2,int (a3n r i)),(6,isl ns r),(7,int ns),(8,int i)] 17,[],[]⟩) 0 (by omega) ?_ ?_
 ·exact a0m rfl ⟨a1m rfl,a0b.refl _,a1f (by subst hS;rfl),a1m rfl,trivial⟩ (.nil _) (by omega) (.inl ⟨by cbv,by cbv⟩) rfl
 ·intro i hi N hN
  obtain⟨z,hz⟩: ∃z,a3n r i=z:=⟨_,rfl⟩
  obtain⟨z',hz'⟩: ∃z,a3n r (i+1)=z:=⟨_,rfl⟩
  have hst:z'=z+r i:=by rw[<-hz',<-hz];rfl
  have hbi:=hb i hi
  simp only[hz] at hbi⊢
  cbv
  split
  ·have hlt:i<ns:=by rename_i h;clear hN h56 hb;subst hS;simp[std] at h;omega
   have hri:=hr i hlt
   have hb1:0<=z'/\z'<=1000000000000000:=by
    have h1:=hb (i+1) hlt
    rw[hz'] at h1
    have h2:((i+1:Nat):Int)<=1000000:=Int.ofNat_le.2 (show i+1<=1000000 by omega)
    exact⟨h1.1,Int.le_trans h1.2 (Int.le_trans (Int.mul_le_mul_of_nonneg_left h2 (by decide)) (by decide))⟩
   cbv
   refine a0a hS (by clear hN h56 hb;subst hS;simp[std];omega) ?_
   simp only[nat,ett,Int.ofNat_eq_natCast,Int.toNat_natCast]
   refine a0a hS (by clear hN h56 hb;subst hS;exact a0h (by simp[std];omega) (by simp[std];omega)) ?_
   refine a0a hS (by clear hN h56 hb;subst hS;exact a0h (by simp[std];omega) (by simp[std];omega)) ?_
   refine hN (i+1) _ hlt (by omega) (a0m rfl ⟨?_,a0b.refl _,a0b.refl _,?_,trivial⟩ (.nil _) (by omega) (.inr rfl) rfl)
   ·rw[hz',hst];clear hN h56 hb;subst hS;exact a1f (by simp[std])
   ·clear hN h56 hb;subst hS;exact a1f (by simp[std])
  ·have:i=ns:=by rename_i h;clear hN h56 hb;subst hS;simp[std] at h;omega
   subst this
   cbv
   exact a1f (hz.symm.trans hc.symm)
section
variable {n:Nat} {e0:Nat->List DV} {v:AV} {r:Int}
theorem f3x {ns no m:Nat}{e1 e2 e3 e4:Nat->List DV}{k:Nat}(h54:a0j Tryz.prog false 54 [.d (.sl 5 n e0)] (.tuple [.agg [.d (.sl 1 ns e1),.d (.sl 1 no e2),.d (.sl 5 m e3),.d (.sl 1 k e4)],int 0]))(c:Int)
 (h55:a0j Tryz.prog true 55 [.agg [.d (.sl 1 ns e1),.d (.sl 1 no e2),.d (.sl 5 m e3),.d (.sl 1 k e4)]] (int c)):
 a0j Tryz.prog true 18 [.d (.sl 5 n e0)] (.tuple [int c,int 0]):=by
 refine e1o (fun z hz=>by simp at hz;rcases hz with rfl|rfl<;>trivial) (a0d Tryz.mixed okP f9y _ rfl fun E Sg hb hS=> ?_)
 cbv
 refine a0e hS _ h54 ?_
 cbv
 split
 ·rename_i h;exfalso;clear h54 h55;subst hS;simp[std] at h
 cbv
 refine a0e hS _ h55 ?_
 cbv
 exact a1r.tuple (.cons (a0b.refl _) (.cons (a1m rfl) .nil))
theorem f0u {ns no m k:Nat}{e1 e2 e3 e4:Nat->List DV}(h54:a0j Tryz.prog false 54 [.d (.sl 5 n e0)] (.tuple [.agg [.d (.sl 1 ns e1),.d (.sl 1 no e2),.d (.sl 5 m e3),.d (.sl 1 k e4)],int 0]))(e5:Nat->List DV)
 (h56:a0j Tryz.prog false 56 [.agg [.d (.sl 1 ns e1),.d (.sl 1 no e2),.d (.sl 5 m e3),.d (.sl 1 k e4)]] (.d (.sl 1 ns e5))):
 a0j Tryz.prog false 57 [.agg [.fn 56 [] []],.d (.sl 5 n e0)] (.tuple [.d (.sl 1 ns e5),int 0]):=by
 refine a0d Tryz.mixed okP g3w _ rfl fun E Sg hb hS=> ?_
 cbv
 refine a0e hS _ h54 ?_
 cbv
 split
 ·rename_i h;exfalso;clear h54 h56;subst hS;simp[std] at h
 cbv
 refine a2a hS (a0g.of_pure rfl h56) ?_
 cbv
 exact a1r.tuple (.cons (a0b.refl _) (.cons (a1m rfl) .nil))
theorem d9c {x:DV}(h57:a0j Tryz.prog false 57 [.agg [.fn 56 [] []],.d (.sl 5 n e0)] (.tuple [.d x,int r])):a0j Tryz.prog false 20 [.d (.sl 5 n e0)] (.tuple [.d x,int r]):=by
 refine a0d Tryz.mixed okP f9x _ rfl fun E Sg hb hS=> ?_
 cbv
 refine a0e hS _ h57 ?_
 cbv
 exact a1r.tuple (.cons (a0b.refl _) (.cons (a0b.refl _) .nil))
end
theorem c2c {α:Type}[DecidableEq α]{n:Nat}{f:Nat->α}{v:α}{i:Nat}(hi:i<n)(h:f i=v)(hn: ∀j,j<i->f j≠v):Law.at1 (L n f) v=i:=by
 have key: ∀(l:List α) (i:Nat),l[i]? =some v->(∀j,j<i->l[j]? ≠some v)->Law.at1 l v=i:=by
  intro l
  induction l with
  |nil=>intro i h;simp at h
  |cons y l ih=>
   intro i h hn
   simp only[Law.at1]
   cases i with
   |zero=>simp at h;rw[if_pos h]
   |succ i=>
    have h0:y≠v:=fun e=>hn 0 (by omega) (by simp[e])
    rw[if_neg h0,ih i (by simpa using h) fun j hj=>by have:=hn (j+1) (by omega);simpa using this]
 refine key _ _ (by rw[a6x,if_pos hi,h]) fun j hj=> ?_
 rw[a6x,if_pos (by omega)]
 exact fun e=>hn j hj (Option.some.inj e)
theorem c9m {α:Type}[DecidableEq α]{n:Nat}{f:Nat->α}{v:α}(hn: ∀j,j<n->f j≠v):v∉L n f/\Law.at1 (L n f) v=n:=by
 have h:v∉L n f:=fun h=>by
  obtain⟨j,hj,e⟩:=a5t.1 h
  exact hn j hj e
 exact⟨h,by rw[Law.at1_not h,a0k]⟩
theorem at1_mem {α:Type}[DecidableEq α]{l:List α}{v:α}(h:Law.at1 l v<l.length):v∈l:=by
 by_cases hm:v∈l
 ·exact hm
 ·rw[Law.at1_not hm] at h;omega
def ndL (q:Nat)(av:Nat->Int)(an:Nat->Nat)(ak:Nat->Nat->Int):List NdR:=L q fun j=>⟨av j,L (an j) (ak j)⟩
def veL (q:Nat)(ef en:Nat->Int):List VaR:=L q fun j=>⟨ef j,en j⟩
def arB (q:Nat)(av:Nat->Int)(an:Nat->Nat)(ak:Nat->Nat->Int):a0i:= .arr 2 q fun j=>[.int .i64 (.v (av j)),.sl 1 (an j) fun k=>[.int .i64 (.v (ak j k))]]
def arV (q:Nat)(ef en:Nat->Int):a0i:= .arr 2 q fun j=>[.int .u8 (.v (ef j)),.int .i64 (.v (en j))]
end Go.Proofs.Tryz.Run
