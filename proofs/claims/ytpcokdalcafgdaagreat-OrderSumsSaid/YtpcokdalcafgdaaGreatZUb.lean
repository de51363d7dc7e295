/- The nodes of a family, each once: what both the program and the document number. The program's numbers of a family: its maps. Conditions: none. -/
import Derived.Test.YtpcokdalcafgdaaGreatZSy
set_option linter.unusedSimpArgs false
set_option linter.unusedVariables false
namespace Go.Proofs.Tryz.Run
open Go Go.Vf Go.Proofs
open Go.Proofs.YtpcokdalcafgdaaGreat
structure Num where
 oe:List VaR
 on:List NdR
def resW (d:DiR)(refs:Nat→Int)(s:Num)(r:Int):Num×Int:=
 if 0≤r then (s,refs r.toNat) else (⟨Law.onceE s.oe (d.en (-1-r).toNat),s.on⟩,-1-(Law.at1 s.oe (d.en (-1-r).toNat):Int))
def kidW (d:DiR)(refs:Nat→Int)(i:Nat)(s:Num):Nat→Num×(Nat→Int)
 |0=>(s,fun _=>0)
 |k+1=>((resW d refs (kidW d refs i s k).1 (d.kid i k)).1,setAt (kidW d refs i s k).2 k (resW d refs (kidW d refs i s k).1 (d.kid i k)).2)
def keyW (d:DiR)(refs:Nat→Int)(i:Nat)(s:Num):NdR:=⟨d.var i,L (d.nk i) (kidW d refs i s (d.nk i)).2⟩
def diaW (d:DiR)(s:Num):Nat→Num×(Nat→Int)
 |0=>(s,fun _=>0)
 |i+1=>(⟨(kidW d (diaW d s i).2 i (diaW d s i).1 (d.nk i)).1.oe,Law.onceE (kidW d (diaW d s i).2 i (diaW d s i).1 (d.nk i)).1.on (keyW d (diaW d s i).2 i (diaW d s i).1)⟩,
  setAt (diaW d s i).2 i (Law.at1 (kidW d (diaW d s i).2 i (diaW d s i).1 (d.nk i)).1.on (keyW d (diaW d s i).2 i (diaW d s i).1)))
def famW (l:Nat→DiR):Nat→Num
 |0=>⟨[],[]⟩
 |n+1=>(diaW (l n) (famW l n) (l n).nn).1
theorem onceE_len {α:Type}[DecidableEq α](l:List α)(x:α):l.length≤(Law.onceE l x).length∧(Law.onceE l x).length≤l.length+1:=by
 unfold Law.onceE;split<;>simp
theorem at1_le {α:Type}[DecidableEq α](l:List α)(x:α):Law.at1 l x≤l.length:=by
 induction l with
 |nil=>simp[Law.at1]
 |cons y l ih=>simp only[Law.at1];split<;>simp<;>omega
theorem at1_lt {α:Type}[DecidableEq α]{l:List α}{x:α}(h:x∈l):Law.at1 l x<l.length:=by
 induction l with
 |nil=>simp at h
 |cons y l ih=>
  simp only[Law.at1]
  split
  ·simp
  ·rename_i hy
   simp at h
   have:=ih (h.resolve_left fun e=>hy e.symm)
   simp;omega
theorem resW_on (d:DiR)(refs:Nat→Int)(s:Num)(r:Int):(resW d refs s r).1.on=s.on:=by
 unfold resW;split<;>rfl
theorem kidW_on (d:DiR)(refs:Nat→Int)(i:Nat)(s:Num): ∀k,(kidW d refs i s k).1.on=s.on
 |0=>rfl
 |k+1=>by rw[kidW,resW_on];exact kidW_on d refs i s k
theorem kidW_len (d:DiR)(refs:Nat→Int)(i:Nat)(s:Num): ∀k,(kidW d refs i s k).1.oe.length≤s.oe.length+k
 |0=>by simp[kidW]
 |k+1=>by
  have:=kidW_len d refs i s k
  rw[kidW]
  unfold resW
  split
  ·simp only;omega
  ·have h:=(onceE_len (kidW d refs i s k).1.oe (d.en (-1-d.kid i k).toNat)).2
   simp only;omega
theorem kidW_zero (d:DiR)(refs:Nat→Int)(i:Nat)(s:Num): ∀k j,k≤j→(kidW d refs i s k).2 j=0
 |0,j,_=>rfl
 |k+1,j,h=>by
  rw[kidW]
  simp only[setAt]
  rw[if_neg (by omega)]
  exact kidW_zero d refs i s k j (by omega)
theorem kidW_bd (d:DiR)(refs:Nat→Int)(i:Nat)(s:Num)(B:Int)(hB:(s.oe.length:Int)+d.nk i≤B)(hr: ∀k,k<d.nk i→0≤d.kid i k→0≤refs (d.kid i k).toNat∧refs (d.kid i k).toNat≤B): ∀k,k≤d.nk i→ ∀m,-1-B≤(kidW d refs i s k).2 m∧(kidW d refs i s k).2 m≤B
 |0,_,m=>by simp only[kidW];omega
 |k+1,hk,m=>by
  have ih:=kidW_bd d refs i s B hB hr k (by omega) m
  have hl:=kidW_len d refs i s k
  rw[kidW]
  simp only[setAt]
  split
  ·unfold resW
   split
   ·rename_i h
    have:=hr k (by omega) h
    simp only;omega
   ·have:=at1_le (kidW d refs i s k).1.oe (d.en (-1-d.kid i k).toNat)
    simp only;omega
  ·exact ih
theorem diaW_len (d:DiR)(s:Num)(hk: ∀i,i<d.nn→d.nk i≤12): ∀i,i≤d.nn→(diaW d s i).1.oe.length≤s.oe.length+12*i∧(diaW d s i).1.on.length≤s.on.length+i
 |0,_=>by simp[diaW]
 |i+1,h=>by
  have ih:=diaW_len d s hk i (by omega)
  have h1:=kidW_len d (diaW d s i).2 i (diaW d s i).1 (d.nk i)
  have h2:=hk i (by omega)
  have h3:=kidW_on d (diaW d s i).2 i (diaW d s i).1 (d.nk i)
  have h4:=(onceE_len (kidW d (diaW d s i).2 i (diaW d s i).1 (d.nk i)).1.on (keyW d (diaW d s i).2 i (diaW d s i).1)).2
  rw[diaW]
  rw[h3] at h4⊢
  simp only
  omega
theorem famW_len (l:Nat→DiR){n:Nat}(hk: ∀i,i<n→(l i).nn≤6000∧ ∀j,j<(l i).nn→(l i).nk j≤12): ∀m,m≤n→(famW l m).oe.length≤72000*m∧(famW l m).on.length≤6000*m
 |0,_=>by simp[famW]
 |m+1,h=>by
  have ih:=famW_len l hk m (by omega)
  obtain⟨h1,h2⟩:=hk m (by omega)
  have:=diaW_len (l m) (famW l m) h2 (l m).nn (Nat.le_refl _)
  rw[famW]
  omega
theorem diaW_refs (d:DiR)(s:Num): ∀i j,j<i→0≤(diaW d s i).2 j∧(diaW d s i).2 j<(diaW d s i).1.on.length
 |0,j,h=>by omega
 |i+1,j,h=>by
  have ih:=diaW_refs d s i j
  have h3:=kidW_on d (diaW d s i).2 i (diaW d s i).1 (d.nk i)
  rw[diaW]
  rw[h3]
  simp only[setAt]
  have h5:=onceE_len (diaW d s i).1.on (keyW d (diaW d s i).2 i (diaW d s i).1)
  split
  ·refine⟨Int.natCast_nonneg _,Int.ofNat_lt.2 ?_⟩
   by_cases hm:keyW d (diaW d s i).2 i (diaW d s i).1∈(diaW d s i).1.on
   ·rw[Law.onceE_mem hm]
    exact at1_lt hm
   ·rw[Law.onceE_not hm,Law.at1_not hm,List.length_append,List.length_cons]
    omega
  ·have:=ih (by omega)
   exact⟨this.1,Int.lt_of_lt_of_le this.2 (Int.ofNat_le.2 h5.1)⟩
end Go.Proofs.Tryz.Run
set_option linter.unusedSimpArgs false
set_option linter.unusedVariables false
namespace Go.Proofs.Tryz.Run
open Go Go.Vf Go.Proofs
open Go.Proofs.YtpcokdalcafgdaaGreat
structure RepW (shp:NdR→Prop)(s:Num)(f1 f2:List KC→Option Int):Prop where
 f1: ∀v:VaR,f1 [.i v.fault,.i v.n]=if v∈s.oe then some (-1-(Law.at1 s.oe v:Int)) else none
 f2: ∀(ch:Int) (n:Nat) (u:Nat→Int),shp ⟨ch,L n u⟩→f2 (nkey ch n u)=if (⟨ch,L n u⟩:NdR)∈s.on then some (Law.at1 s.on ⟨ch,L n u⟩:Int) else none
theorem RepW.nil (shp:NdR→Prop):RepW shp ⟨[],[]⟩ (fun _=>none) (fun _=>none):=⟨fun v=>by simp,fun ch n u _=>by simp⟩
theorem RepW.hit {shp:NdR→Prop}{s:Num}{f1 f2:List KC→Option Int}(h:RepW shp s f1 f2)(c:VaR){z:Int}(hz:f1 [.i c.fault,.i c.n]=some z):z= -1-(Law.at1 s.oe c:Int)∧Law.onceE s.oe c=s.oe:=by
 have hf:=h.f1 c
 rw[hz] at hf
 split at hf
 ·rename_i hm;cases hf;exact⟨rfl,Law.onceE_mem hm⟩
 ·cases hf
theorem RepW.miss {shp:NdR→Prop}{s:Num}{f1 f2:List KC→Option Int}(h:RepW shp s f1 f2)(c:VaR)(hz:f1 [.i c.fault,.i c.n]=none):
 Law.at1 s.oe c=s.oe.length∧(Law.onceE s.oe c).length=s.oe.length+1∧RepW shp ⟨Law.onceE s.oe c,s.on⟩ (fun k=>if k=[.i c.fault,.i c.n] then some (-1-(s.oe.length:Int)) else f1 k) f2:=by
 have hf:=h.f1 c
 rw[hz] at hf
 split at hf
 ·cases hf
 ·rename_i hm
  rw[Law.onceE_not hm]
  refine⟨Law.at1_not hm,by simp,⟨fun v=> ?_,h.f2⟩⟩
  simp only
  by_cases e:v=c
  ·subst e
   rw[if_pos rfl,if_pos (by simp),at1_new hm]
  ·rw[if_neg (fun k=>e (VaR.key_inj k)),h.f1 v]
   by_cases hv:v∈s.oe
   ·rw[if_pos hv,if_pos (by simp[hv]),at1_app hv]
   ·rw[if_neg hv,if_neg (by simp[hv,e])]
theorem RepW.hitN {shp:NdR→Prop}{s:Num}{f1 f2:List KC→Option Int}(h:RepW shp s f1 f2){ch:Int}{n:Nat}{u:Nat→Int}(hs:shp ⟨ch,L n u⟩){z:Int}(hz:f2 (nkey ch n u)=some z):
 z=(Law.at1 s.on ⟨ch,L n u⟩:Int)∧Law.onceE s.on ⟨ch,L n u⟩=s.on:=by
 have hf:=h.f2 ch n u hs
 rw[hz] at hf
 split at hf
 ·rename_i hm;cases hf;exact⟨rfl,Law.onceE_mem hm⟩
 ·cases hf
theorem RepW.missN {shp:NdR→Prop}(hsp:ShpOk shp){s:Num}{f1 f2:List KC→Option Int}(h:RepW shp s f1 f2){ch:Int}{n:Nat}{u:Nat→Int}(hs:shp ⟨ch,L n u⟩)(hz:f2 (nkey ch n u)=none):
 Law.at1 s.on ⟨ch,L n u⟩=s.on.length∧Law.onceE s.on ⟨ch,L n u⟩=s.on++[⟨ch,L n u⟩]∧RepW shp ⟨s.oe,Law.onceE s.on ⟨ch,L n u⟩⟩ f1 (fun k=>if k=nkey ch n u then some (s.on.length:Int) else f2 k):=by
 have hf:=h.f2 ch n u hs
 rw[hz] at hf
 split at hf
 ·cases hf
 ·rename_i hm
  rw[Law.onceE_not hm]
  refine⟨Law.at1_not hm,rfl,⟨h.f1,fun c m w hw=> ?_⟩⟩
  simp only
  by_cases e:nkey c m w=nkey ch n u
  ·have hl:=hsp.2 ⟨c,L m w⟩ ⟨ch,L n u⟩ hw hs
   simp only[L_length] at hl
   have hm12:=hsp.1 ⟨c,L m w⟩ hw
   simp only[L_length] at hm12
   obtain⟨e1,e2⟩:=nkey_inj hm12 hl e
   rw[if_pos e,e1,e2,if_pos (by simp),at1_new hm]
  ·have hne:(⟨c,L m w⟩:NdR)≠⟨ch,L n u⟩:=fun k=>by
    injection k with k1 k2
    apply e
    have hl:m=n:=by simpa [L_length] using congrArg List.length k2
    subst hl
    subst k1
    unfold nkey
    have: ∀j,(if j<m then w j else 0)=(if j<m then u j else 0):=fun j=>by
     by_cases hj:j<m
     ·have:=congrArg (fun l=>l[j]?) k2
      rw[if_pos hj,if_pos hj]
      simpa [L,hj] using this
     ·rw[if_neg hj,if_neg hj]
    simp only[this]
   rw[if_neg e,h.f2 c m w hw]
   by_cases hv:(⟨c,L m w⟩:NdR)∈s.on
   ·rw[if_pos hv,if_pos (by simp[hv]),at1_app hv]
   ·rw[if_neg hv,if_neg (by simp only[List.mem_append,hv,List.mem_singleton,hne,or_self,not_false_eq_true])]
def cnt (l:List NdR)(j:Nat):Int:=((l.filter fun b=>decide (b.var=(j:Int))).length:Nat)
theorem cnt_app (l:List NdR)(b:NdR)(j:Nat):cnt (l++[b]) j=cnt l j+if b.var=(j:Int) then 1 else 0:=by
 unfold cnt
 rw[List.filter_append,List.length_append]
 by_cases h:b.var=(j:Int)
 ·simp[h]
 ·simp[h]
theorem cnt_le (l:List NdR)(j:Nat):0≤cnt l j∧cnt l j≤l.length:=by
 unfold cnt
 have:=List.length_filter_le (fun b:NdR=>decide (b.var=(j:Int))) l
 omega
structure DiR.good (d:DiR)(ns:Nat)(sz:Nat→Int):Prop where
 nn:d.nn≤6000
 ne:d.ne≤1000000
 nk: ∀j,j<d.nn→1≤d.nk j∧d.nk j≤12
 var: ∀j,j<d.nn→0≤d.var j∧d.var j<ns∧(d.nk j:Int)=sz (d.var j).toNat
 kid: ∀j,j<d.nn→ ∀k,k<d.nk j→refOk d.ne (d.kid j k) j
def shpW (sz:Nat→Int)(b:NdR):Prop:=b.kids.length≤12∧(b.kids.length:Int)=sz b.var.toNat
theorem shpW_ok (sz:Nat→Int):ShpOk (shpW sz):=⟨fun b h=>h.1,fun b c h k e=>by
 have h1:=h.2
 have h2:=k.2
 rw[e] at h1
 omega⟩
end Go.Proofs.Tryz.Run
