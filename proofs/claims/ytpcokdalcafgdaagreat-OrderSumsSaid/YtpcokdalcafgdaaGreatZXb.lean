/- The plain law of OrderSums: the numbers of a family. OrderSums: ready, a copy that grows. Conditions: none. -/
import Derived.Test.YtpcokdalcafgdaaGreatZUi
import Derived.Test.YtpcokdalcafgdaaGreatZOf
import Derived.Test.YtpcokdalcafgdaaGreatZUj
set_option linter.unusedSimpArgs false
set_option linter.unusedVariables false
namespace Go.Proofs.Tryz.Run
open Go Go.Vf Go.Proofs
open Go.Proofs.YtpcokdalcafgdaaGreat
def refF (d:DiR)(oe:List VaR)(refs:Nat→Int)(r:Int):Int:=if 0≤r then refs r.toNat else-1-(Law.at1 oe (d.en (-1-r).toNat):Int)
def keyF (d:DiR)(oe:List VaR)(refs:Nat→Int)(j:Nat):NdR:=⟨d.var j,L (d.nk j) fun k=>refF d oe refs (d.kid j k)⟩
def endsIn (d:DiR)(oe:List VaR)(j:Nat):Prop:= ∀k,k<d.nk j→d.kid j k<0→d.en (-1-d.kid j k).toNat∈oe
structure Ext2 (s s':Num):Prop where
 oe:s.oe<+:s'.oe
 on:s.on<+:s'.on
theorem Ext2.refl (s:Num):Ext2 s s:=⟨List.prefix_refl _,List.prefix_refl _⟩
theorem Ext2.trans {s t u:Num}(h:Ext2 s t)(k:Ext2 t u):Ext2 s u:=⟨h.oe.trans k.oe,h.on.trans k.on⟩
theorem at1_pre {α:Type}[DecidableEq α]{l m:List α}(h:l<+:m){x:α}(hx:x∈l):Law.at1 m x=Law.at1 l x:=by
 obtain⟨t,rfl⟩:=h
 induction l with
 |nil=>simp at hx
 |cons y l ih=>
  simp only[List.cons_append,Law.at1]
  by_cases e:y=x
  ·rw[if_pos e,if_pos e]
  ·rw[if_neg e,if_neg e,ih (by simp at hx;exact hx.resolve_left fun k=>e k.symm)]
theorem at1_inj {α:Type}[DecidableEq α]{l:List α}{x y:α}(hx:x∈l)(hy:y∈l)(h:Law.at1 l x=Law.at1 l y):x=y:=by
 induction l with
 |nil=>simp at hx
 |cons z l ih=>
  simp only[Law.at1] at h
  by_cases e1:z=x
  ·rw[if_pos e1] at h
   by_cases e2:z=y
   ·rw[←e1,e2]
   ·rw[if_neg e2] at h;omega
  ·rw[if_neg e1] at h
   by_cases e2:z=y
   ·rw[if_pos e2] at h;omega
   ·rw[if_neg e2] at h
    simp at hx hy
    exact ih (hx.resolve_left fun k=>e1 k.symm) (hy.resolve_left fun k=>e2 k.symm) (by omega)
theorem mem_pre {α:Type}{l m:List α}(h:l<+:m){x:α}(hx:x∈l):x∈m:=h.subset hx
theorem onceE_self {α:Type}[DecidableEq α](l:List α)(x:α):x∈Law.onceE l x:=by
 unfold Law.onceE;split
 ·assumption
 ·simp
theorem at1_onceE {α:Type}[DecidableEq α](l:List α)(x:α):Law.at1 (Law.onceE l x) x=Law.at1 l x:=by
 by_cases h:x∈l
 ·rw[Law.onceE_mem h]
 ·rw[Law.onceE_not h,Law.at1_not h,at1_new h]
theorem kidW_ext (d:DiR)(refs:Nat→Int)(i:Nat)(s:Num): ∀k,Ext2 s (kidW d refs i s k).1
 |0=> .refl s
 |k+1=>by
  refine (kidW_ext d refs i s k).trans ?_
  rw[kidW]
  simp only[resW]
  split
  ·exact .refl _
  ·exact⟨Law.onceE_pre _ _,List.prefix_refl _⟩
theorem kidW_val (d:DiR)(refs:Nat→Int)(i:Nat)(s:Num): ∀k j,j<k→((kidW d refs i s k).2 j=refF d (kidW d refs i s k).1.oe refs (d.kid i j))∧(d.kid i j<0→d.en (-1-d.kid i j).toNat∈(kidW d refs i s k).1.oe)
 |0,j,h=>by omega
 |k+1,j,h=>by
  have hpre:(kidW d refs i s k).1.oe<+:(kidW d refs i s (k+1)).1.oe:=by
   rw[kidW]
   simp only[resW]
   split
   ·exact List.prefix_refl _
   ·exact Law.onceE_pre _ _
  by_cases e:j=k
  ·subst e
   rw[kidW]
   simp only[setAt,if_pos,resW,refF]
   split
   ·rename_i h0
    exact⟨rfl,fun h=>by omega⟩
   ·simp only
    exact⟨by rw[at1_onceE],fun _=>onceE_self _ _⟩
  ·obtain⟨h1,h2⟩:=kidW_val d refs i s k j (by omega)
   refine⟨?_,fun h=>mem_pre hpre (h2 h)⟩
   have:(kidW d refs i s (k+1)).2 j=(kidW d refs i s k).2 j:=by rw[kidW];simp only[setAt,if_neg e]
   rw[this,h1]
   unfold refF
   split
   ·rfl
   ·rename_i h0
    rw[at1_pre hpre (h2 (by omega))]
def Done (d:DiR)(s:Num)(refs:Nat→Int)(i:Nat):Prop:= ∀j,j<i→endsIn d s.oe j∧keyF d s.oe refs j∈s.on∧refs j=(Law.at1 s.on (keyF d s.oe refs j):Int)
theorem keyF_ext {d:DiR}{oe oe':List VaR}(h:oe<+:oe'){refs:Nat→Int}{j:Nat}(he:endsIn d oe j):keyF d oe' refs j=keyF d oe refs j:=by
 unfold keyF
 congr 1
 refine L_congr fun k hk=> ?_
 unfold refF
 split
 ·rfl
 ·rw[at1_pre h (he k hk (by omega))]
theorem keyF_refs {d:DiR}{ne:Nat}(hk: ∀j,j<d.nn→ ∀k,k<d.nk j→refOk ne (d.kid j k) j){oe:List VaR}{refs refs':Nat→Int}{j:Nat}(hj:j<d.nn)(h: ∀m,m<j→refs m=refs' m):keyF d oe refs j=keyF d oe refs' j:=by
 unfold keyF
 congr 1
 refine L_congr fun k hkk=> ?_
 unfold refF
 split
 ·rename_i h0
  have:=(hk j hj k hkk).1 h0
  exact h _ (by omega)
 ·rfl
theorem Done.ext {d:DiR}{s s':Num}(h:Ext2 s s'){refs:Nat→Int}{i:Nat}(hd:Done d s refs i):Done d s' refs i:=fun j hj=>by
 obtain⟨h1,h2,h3⟩:=hd j hj
 rw[keyF_ext h.oe h1]
 exact⟨fun k hk h0=>mem_pre h.oe (h1 k hk h0),mem_pre h.on h2,by rw[at1_pre h.on h2];exact h3⟩
theorem diaW_ext (d:DiR)(s:Num): ∀i,Ext2 s (diaW d s i).1
 |0=> .refl s
 |i+1=>by
  refine (diaW_ext d s i).trans ((kidW_ext d (diaW d s i).2 i (diaW d s i).1 (d.nk i)).trans ?_)
  rw[diaW]
  exact⟨List.prefix_refl _,Law.onceE_pre _ _⟩
theorem keyW_eq (d:DiR)(refs:Nat→Int)(i:Nat)(s:Num):keyW d refs i s=keyF d (kidW d refs i s (d.nk i)).1.oe refs i:=by
 unfold keyW keyF
 congr 1
 exact L_congr fun k hk=>(kidW_val d refs i s (d.nk i) k hk).1
theorem diaW_done (d:DiR)(hk: ∀j,j<d.nn→ ∀k,k<d.nk j→refOk d.ne (d.kid j k) j)(s:Num): ∀i,i≤d.nn→Done d (diaW d s i).1 (diaW d s i).2 i
 |0,_=>fun j hj=>by omega
 |i+1,hi=>fun j hj=>by
  have ih:=diaW_done d hk s i (by omega)
  obtain⟨t,ht⟩: ∃t,diaW d s i=t:=⟨_,rfl⟩
  rw[ht] at ih
  have e1:(diaW d s (i+1)).1.oe=(kidW d t.2 i t.1 (d.nk i)).1.oe:=by rw[diaW,ht]
  have e2:(diaW d s (i+1)).1.on=Law.onceE (kidW d t.2 i t.1 (d.nk i)).1.on (keyW d t.2 i t.1):=by rw[diaW,ht]
  have e3: ∀m,(diaW d s (i+1)).2 m=if m=i then (Law.at1 (kidW d t.2 i t.1 (d.nk i)).1.on (keyW d t.2 i t.1):Int) else t.2 m:=fun m=>by rw[diaW,ht];rfl
  have hx:Ext2 t.1 (diaW d s (i+1)).1:=by
   refine (kidW_ext d t.2 i t.1 (d.nk i)).trans ⟨by rw[e1];exact List.prefix_refl _,by rw[e2];exact Law.onceE_pre _ _⟩
  have hkey:keyF d (diaW d s (i+1)).1.oe (diaW d s (i+1)).2 j=keyF d (diaW d s (i+1)).1.oe t.2 j:=keyF_refs hk (by omega) fun m hm=>by rw[e3,if_neg (by omega)]
  by_cases e:j=i
  ·subst e
   refine⟨fun k hk' h0=> ?_,?_,?_⟩
   ·rw[e1]
    exact (kidW_val d t.2 j t.1 (d.nk j) k hk').2 h0
   ·rw[hkey,e1,←keyW_eq,e2]
    exact onceE_self _ _
   ·rw[hkey,e3,if_pos rfl,e1,←keyW_eq,e2,at1_onceE]
  ·obtain⟨h1,h2,h3⟩:=ih.ext hx j (by omega)
   rw[hkey]
   exact⟨h1,h2,by rw[e3,if_neg e];exact h3⟩
theorem kidW_again {d:DiR}{refs:Nat→Int}{i:Nat}{s:Num}(he:endsIn d s.oe i): ∀k,k≤d.nk i→(kidW d refs i s k).1=s
 |0,_=>rfl
 |k+1,h=>by
  have ih:=kidW_again (refs:=refs) he k (by omega)
  rw[kidW,ih]
  simp only[resW]
  split
  ·rfl
  ·rw[Law.onceE_mem (he k (by omega) (by omega))]
theorem diaW_again (d:DiR)(hk: ∀j,j<d.nn→ ∀k,k<d.nk j→refOk d.ne (d.kid j k) j){s:Num}{refs:Nat→Int}(hd:Done d s refs d.nn): ∀i,i≤d.nn→(diaW d s i).1=s∧ ∀m,m<i→(diaW d s i).2 m=refs m
 |0,_=>⟨rfl,fun m hm=>by omega⟩
 |i+1,hi=>by
  obtain⟨ih1,ih2⟩:=diaW_again d hk hd i (by omega)
  obtain⟨h1,h2,h3⟩:=hd i (by omega)
  obtain⟨t,ht⟩: ∃t,(diaW d s i).2=t:=⟨_,rfl⟩
  rw[ht] at ih2
  have ek:=kidW_again (refs:=t) h1 (d.nk i) (Nat.le_refl _)
  have key:keyW d t i s=keyF d s.oe refs i:=by rw[keyW_eq,ek];exact keyF_refs hk (by omega) ih2
  rw[diaW,ih1,ht,ek,key,Law.onceE_mem h2]
  refine⟨rfl,fun m hm=> ?_⟩
  simp only[setAt]
  split
  ·rename_i e;rw[e];exact h3.symm
  ·exact ih2 m (by omega)
theorem done_inj {d:DiR}(hdi:DiOk d){s:Num}{refs:Nat→Int}(hd:Done d s refs d.nn): ∀i,i<d.nn→ ∀j,j<i→refs j≠refs i:=by
 have hko: ∀i,i<d.nn→ ∀j,j<d.nk i→refOk d.ne (d.kid i j) i:=hdi.loose.kids
 have hE:=hdi.dia.1
 have hN:=hdi.dia.2.1
 have main: ∀n,n≤d.nn→ ∀i,i<n→ ∀j,j<i→refs j≠refs i:=by
  intro n
  induction n with
  |zero=>intro _ i hi;omega
  |succ n ih=>
   intro hn i hi j hj
   by_cases e:i<n
   ·exact ih (by omega) i e j hj
   obtain rfl:i=n:=by omega
   have ih:=ih (by omega)
   have inj: ∀a,a<i→ ∀b,b<i→refs a=refs b→a=b:=fun a ha b hb h=>by
    rcases Nat.lt_trichotomy a b with h1|h1|h1
    ·exact absurd h (ih b hb a h1)
    ·exact h1
    ·exact absurd h.symm (ih a ha b h1)
   intro hr
   obtain⟨a1,a2,a3⟩:=hd i (by omega)
   obtain⟨b1,b2,b3⟩:=hd j (by omega)
   have nat:Law.at1 s.on (keyF d s.oe refs j)=Law.at1 s.on (keyF d s.oe refs i):=by rw[a3,b3] at hr;exact Int.ofNat.inj hr
   have hkey:keyF d s.oe refs j=keyF d s.oe refs i:=at1_inj b2 a2 nat
   unfold keyF at hkey
   injection hkey with q1 q2
   obtain⟨q3,q4⟩:=L_eq_iff.1 q2
   refine (hN i (by omega)).2 j hj ⟨q1,L_eq_iff.2 ⟨q3,fun k hk=> ?_⟩⟩
   have q5:=q4 k hk
   have r1:=hko j (by omega) k hk
   have r2:=hko i (by omega) k (by omega)
   unfold refF at q5
   have pos: ∀m,m<i→0≤refs m:=fun m hm=>by rw[(hd m (by omega)).2.2];exact Int.natCast_nonneg _
   split at q5
   ·rename_i x0
    have x1:=r1.1 x0
    split at q5
    ·rename_i y0
     have y1:=r2.1 y0
     have:=inj _ (show (d.kid j k).toNat<i by omega) _ (show (d.kid i k).toNat<i by omega) q5
     omega
    ·have:=pos (d.kid j k).toNat (by omega)
     omega
   ·rename_i x0
    have x1:=r1.2 (by omega)
    split at q5
    ·rename_i y0
     have y1:=r2.1 y0
     have:=pos (d.kid i k).toNat (by omega)
     omega
    ·rename_i y0
     have y1:=r2.2 (by omega)
     have q6:Law.at1 s.oe (d.en (-1-d.kid j k).toNat)=Law.at1 s.oe (d.en (-1-d.kid i k).toNat):=by omega
     have q7:=at1_inj (b1 k hk (by omega)) (a1 k (by omega) (by omega)) q6
     have q8:(-1-d.kid j k).toNat=(-1-d.kid i k).toNat:=by
      rcases Nat.lt_trichotomy (-1-d.kid j k).toNat (-1-d.kid i k).toNat with h1|h1|h1
      ·exact absurd q7 (hE _ (by omega) _ h1)
      ·exact h1
      ·exact absurd q7.symm (hE _ (by omega) _ h1)
     omega
 exact main d.nn (Nat.le_refl _)
theorem done_len {d:DiR}(hdi:DiOk d){s:Num}{refs:Nat→Int}(hd:Done d s refs d.nn):d.nn≤s.on.length:=by
 have h1:=done_inj hdi hd
 have:=nodup_len s.on.length (L d.nn refs) (nodup_L.2 fun i hi k hk=>h1 i hi k hk) fun x hx=>by
  obtain⟨j,hj,rfl⟩:=mem_L.1 hx
  obtain⟨_,a2,a3⟩:=hd j hj
  rw[a3]
  exact⟨Int.natCast_nonneg _,Int.ofNat_lt.2 (at1_lt a2)⟩
 rwa [L_length] at this
theorem famW_ext (l:Nat→DiR): ∀n m,m≤n→Ext2 (famW l m) (famW l n)
 |0,m,h=>by rw[show m=0 by omega];exact .refl _
 |n+1,m,h=>by
  by_cases e:m=n+1
  ·subst e;exact .refl _
  ·refine (famW_ext l n m (by omega)).trans ?_
   rw[famW]
   exact diaW_ext _ _ _
theorem famW_congr {l l':Nat→DiR}: ∀{n},(∀i,i<n→l i=l' i)→famW l n=famW l' n
 |0,_=>rfl
 |n+1,h=>by rw[famW,famW,famW_congr (n:=n) fun i hi=>h i (by omega),h n (by omega)]
theorem famW_done {l:Nat→DiR}{n i:Nat}(hi:i<n)(hdi:DiOk (l i)): ∃refs,Done (l i) (famW l n) refs (l i).nn:=by
 have h:=diaW_done (l i) hdi.loose.kids (famW l i) (l i).nn (Nat.le_refl _)
 have e:famW l (i+1)=(diaW (l i) (famW l i) (l i).nn).1:=rfl
 rw[←e] at h
 exact⟨_,h.ext (famW_ext l n (i+1) hi)⟩
theorem cost_ge {l:Nat→DiR}{n i:Nat}(hi:i<n)(hdi:DiOk (l i)):(l i).nn≤(famW l n).on.length:=by
 obtain⟨refs,h⟩:=famW_done hi hdi
 exact done_len hdi h
theorem cost_one {d:DiR}(hdi:DiOk d)(hf:d.fit):(famW (fun _=>d) 1).on.length=d.nn:=by
 have h1:=cost_ge (l:=fun _=>d) (n:=1) (i:=0) (by omega) hdi
 have h2:=(diaW_len d ⟨[],[]⟩ (fun j hj=>((hdi.good hf).nk j hj).2) d.nn (Nat.le_refl _)).2
 have e:famW (fun _=>d) 1=(diaW d ⟨[],[]⟩ d.nn).1:=rfl
 rw[←e] at h2
 simp at h2
 omega
theorem cost_again {l l':Nat→DiR}{n:Nat}(hn:0<n)(hdi:DiOk (l 0))(h1: ∀i,i<n→l' i=l i)(h2:l' n=l 0):(famW l' (n+1)).on=(famW l n).on:=by
 rw[famW,h2,famW_congr h1]
 obtain⟨refs,h⟩:=famW_done hn hdi
 rw[(diaW_again (l 0) hdi.loose.kids h (l 0).nn (Nat.le_refl _)).1]
def sumN (f:Nat→Nat):Nat→Nat
 |0=>0
 |n+1=>sumN f n+f n
theorem cost_le {l:Nat→DiR}{n:Nat}(hk: ∀i,i<n→ ∀j,j<(l i).nn→(l i).nk j≤12): ∀m,m≤n→(famW l m).on.length≤sumN (fun i=>(l i).nn) m
 |0,_=>by simp[famW,sumN]
 |m+1,h=>by
  have ih:=cost_le hk m (by omega)
  have:=(diaW_len (l m) (famW l m) (hk m (by omega)) (l m).nn (Nat.le_refl _)).2
  rw[famW,sumN]
  omega
end Go.Proofs.Tryz.Run
set_option linter.unusedSimpArgs false
set_option linter.unusedVariables false
namespace Go.Proofs.Tryz.Run
open Go Go.Vf Go.Proofs
open Go.Proofs.YtpcokdalcafgdaaGreat
theorem famErr_eq {n:Nat}{l:Nat→DiR}{c:Int}(hc:famErr n l c)(h:famErr n l 0):c=0:=by
 obtain⟨hp,hd⟩:=fam_ok h
 rcases hc with⟨h1,_⟩|⟨_,hc⟩
 ·omega
 ·rcases hc with⟨i,a,b,c,d⟩|⟨a,hc⟩
  ·exact absurd (hd i a).1 c
  ·rcases hc with⟨_,b⟩|⟨b,_⟩
   ·exact b
   ·exact absurd (fun i _ hi=>(hd i hi).2) b
theorem ready34 (n:Nat)(l:Nat→DiR)(hw: ∀i,i<n→(l i).wf)(r:Bool)(hr:r=true↔thins n l∧famErr n l 0):PureF Tryz.prog true 34 [dsl n l] (bool r):=by
 obtain⟨c,hc⟩:=famErr_ex n l
 by_cases ht:thins n l
 ·have h16:=thin16 n l hw true (by simp[ht])
  have h21:=check21 n (by have:=ht.1;omega) l (fun i hi=>(ht.2 i hi).1.fit (hw i hi)) c hc
  have hcr:(c==0)=r:=by
   by_cases h0:c=0
   ·subst h0;rw[hr.2 ⟨ht,hc⟩];rfl
   ·rw[beq_false_of_ne h0]
    cases r
    ·rfl
    ·exact absurd (famErr_eq hc (hr.1 rfl).2) h0
  clear hc hr ht hw
  refine pure_bool (pureF_of_fn Tryz.mixed okP ok34 _ rfl fun E Sg hb hS=> ?_)
  have e:=stdE hS
  cbv
  refine callb_i hS _ h16 ?_
  cbv
  refine callb_i hS _ h21 ?_
  cbv
  exact lk_bool (by rw[←hcr];exact e.ieq _ _)
 ·have h16:=thin16 n l hw false (by simp[ht])
  have hrf:r=false:=by
   cases r
   ·rfl
   ·exact absurd (hr.1 rfl).1 ht
  subst hrf
  clear hc hr ht hw
  refine pure_bool (pureF_of_fn Tryz.mixed okP ok34 _ rfl fun E Sg hb hS=> ?_)
  cbv
  refine callb_i hS _ h16 ?_
  cbv
  exact Like.refl _
def copyK (n:Nat)(l:Nat→DiR)(pg:List Nat)(v:AV)(h':List AObj):Prop:=pg=[]∧v= .msl 0 5 none n false∧h'=[.arr 5 n fun i=>(l i).row]
set_option maxHeartbeats 4000000 in
set_option maxRecDepth 100000 in
theorem copy19r (n:Nat)(hn:n≤1000000)(l:Nat→DiR)(hl: ∀i,i<n→(l i).fit):ACall Tryz.prog 19 [dsl n l] [] (copyK n l):=by
 have q:=fun i hi=>copy35 (l i).sz (l i).od (fun j=>((l i).en j).row) (l i).var (l i).nk (l i).kid (l i).root (hl i hi).ns (hl i hi).no (hl i hi).ne (hl i hi).nn (hl i hi).nk
 refine acall_c Tryz.mixed okP ok19 rfl fun E Sg hb hS F hF=> ?_
 have hb0:E.base=0:=hb
 have e:=stdE hS
 cbv
 refine loop_t Tryz.mixed okP hS (fun i=>i≤n) (fun i=>n-i)
  (fun i=>⟨mkTs [(0,dsl n l),(3,.msl 0 5 none i false),(4,int i)] 20,[.arr 5 i fun i=>(l i).row],[0]⟩) 0 (by omega) ?_ ?_
 ·exact (Tame.gt 3 5 (fun _=>[]) rfl).trans (Tame.le (le_mk rfl ⟨Like.refl _,Like.refl _,lk_l rfl,trivial⟩
   (.cons (LikeO.arrr rfl fun j hj=>by omega) (.nil _)) (by simp;omega) (.inr rfl) rfl))
 ·intro i hi N hN
  cbv
  split
  ·rename_i h
   have hlt:i<n:=t_ltN hS h
   cbv
   simp only[nat,e.toNat,Int.ofNat_eq_natCast,Int.toNat_natCast]
   refine req_i hS (i_inbN hS hlt) ?_
   refine callb_i hS _ (q i hlt) ?_
   cbv
   refine req_i hS trivial (req_i hS (i_leA hS (by omega)) (req_i hS (i_inc hS (by omega)) ?_))
   exact hN (i+1) _ hlt (by omega) (Tame.le (le_mk rfl ⟨Like.refl _,lk_msl1 hS,v_inc hS,trivial⟩
    (.cons (lkO_app hS (fun j hj=> .refl _) (.refl _)) (.nil _)) (by simp;omega) (.inr rfl) rfl))
  ·rename_i h
   have hin:i=n:=by have:=f_ltN hS h;omega
   subst hin
   cbv
   exact⟨[],by simp,hF (LikesO.same _) (Like.refl _) (by simp) (.inr rfl) ⟨rfl,rfl,rfl⟩⟩
end Go.Proofs.Tryz.Run
