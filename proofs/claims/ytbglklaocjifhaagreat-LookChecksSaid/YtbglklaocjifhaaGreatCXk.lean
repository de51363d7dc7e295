/- Plans: which cells places have, whether looks decide them, the best plan. The search for a best plan: a look that shows nothing more; the best of some looks. Where a cell belongs among ascending ones; the parts of places when one more comes. Conditions: none. -/
import Derived.Test.YtbglklaocjifhaaGreatCHb
import Derived.Test.YtbglklaocjifhaaGreatCHz
open List renaming getD_eq_getElem?_getD->AA,length_take->AB,getElem?_eq_getElem->AC,pairwise_cons->AD,mem_cons->AE,mem_cons_of_mem->AF,length_cons->AH,getElem?_append_right->AJ,sum_cons->AK,map_cons->AL
open Go.Proofs.Tryz.Run renaming VaR->AG,vlt->AM
open Nat renaming not_lt_zero->AI,lt_trichotomy->AN
set_option linter.unusedSimpArgs false
set_option linter.unusedVariables false
namespace Go.Proofs.Tryz.Run
open Go Go.Vf Go.Proofs
instance vltDec (a b:AG):Decidable (AM a b):=inferInstanceAs (Decidable (a.fault<b.fault\/a.fault=b.fault/\a.n<b.n))
theorem j9m (a:AG): ¬AM a a:=by unfold AM;omega
theorem j9w {a b c:AG}:AM a b->AM b c->AM a c:=by unfold AM;omega
theorem k1m {a b:AG}(h: ¬AM a b)(h2:a≠b):AM b a:=by
 unfold AM at*
 have: ¬(a.fault=b.fault/\a.n=b.n):=fun⟨x,y⟩=>h2 (by cases a;cases b;simp_all);omega
def k1d (v:AG):List AG->List AG
 |[]=>[v]
 |c::cs=>if AM c v then c::k1d v cs else if c=v then c::cs else v::c::cs
theorem k0d {v w:AG}: ∀{cs:List AG},w∈k1d v cs↔w=v\/w∈cs
 |[]=>by simp[k1d]
 |c::cs=>by
  unfold k1d;split
  ·simp only[AE,k0d (cs:=cs)];constructor
   ·rintro (h|h|h)<;>simp[h]
   ·rintro (h|h|h)<;>simp[h]
  ·split
   ·rename_i h;subst h;simp
   ·simp
theorem k1s {v:AG}: ∀{cs:List AG},cs.Pairwise AM->(k1d v cs).Pairwise AM
 |[],_=>by simp[k1d]
 |c::cs,h=>by
  obtain⟨h1,h2⟩:=AD.1 h;unfold k1d;split
  ·rename_i hc;refine AD.2 ⟨fun w hw=> ?_,k1s h2⟩;rcases k0d.1 hw with rfl|hw
   ·exact hc
   ·exact h1 w hw
  ·split
   ·exact h
   ·rename_i hc he;have:=k1m hc he;refine AD.2 ⟨fun w hw=> ?_,h⟩;rcases AE.1 hw with rfl|hw
    ·exact this
    ·exact j9w this (h1 w hw)
def cellsOf (X:Nat->AG)(l:List Nat):List AG:=l.foldl (fun cs p=>k1d (X p) cs) []
def j7u (X:Nat->AG)(v:AG)(l:List Nat):List Nat:=l.filter fun p=>decide (X p=v)
theorem j8d (X:Nat->AG)(l:List Nat)(p:Nat):cellsOf X (l++[p])=k1d (X p) (cellsOf X l):=by simp[cellsOf]
theorem j8i (X:Nat->AG)(v:AG)(l:List Nat)(p:Nat):j7u X v (l++[p])=if X p=v then j7u X v l++[p] else j7u X v l:=by unfold j7u;rw[List.filter_append];by_cases h:X p=v<;>simp[h]
theorem j9p {P:List Nat->Prop}(h0:P [])(h1: ∀l p,P l->P (l++[p]))(l:List Nat):P l:=by
 have: ∀m:List Nat,P m.reverse:=fun m=>by
  induction m with
  |nil=>exact h0
  |cons x m ih=>rw[List.reverse_cons];exact h1 _ _ ih
 simpa using this l.reverse
theorem j7x {X:Nat->AG}{v:AG}{l:List Nat}:v∈cellsOf X l↔ ∃p,p∈l/\X p=v:=by
 induction l using j9p with
 |h0=>simp[cellsOf]
 |h1 l p ih=>
  rw[j8d,k0d,ih];constructor
  ·rintro (h|⟨q,hq,h⟩)
   ·exact⟨p,by simp,h.symm⟩
   ·exact⟨q,by simp[hq],h⟩
  ·rintro⟨q,hq,h⟩;rcases List.mem_append.1 hq with hq|hq
   ·exact .inr ⟨q,hq,h⟩
   ·rw[List.mem_singleton] at hq;subst hq;exact .inl h.symm
theorem j8b (X:Nat->AG)(l:List Nat):(cellsOf X l).Pairwise AM:=by
 induction l using j9p with
 |h0=>simp[cellsOf]
 |h1 l p ih=>rw[j8d];exact k1s ih
theorem j9u {l:List AG}(h:l.Pairwise AM):l.Nodup:=h.imp fun {a b} hab=>by intro e;subst e;exact j9m _ hab
theorem k1h: ∀{a b:List AG},a.Pairwise AM->b.Pairwise AM->(∀v,v∈a↔v∈b)->a=b
 |[],[],_,_,_=>rfl
 |[],y::b,_,_,h=>by have:=(h y).2 (by simp);simp at this
 |x::a,[],_,_,h=>by have:=(h x).1 (by simp);simp at this
 |x::a,y::b,ha,hb,h=>by
  obtain⟨a1,a2⟩:=AD.1 ha;obtain⟨b1,b2⟩:=AD.1 hb;have exy:x=y:=by
   rcases AE.1 ((h x).1 (by simp)) with e|e
   ·exact e
   rcases AE.1 ((h y).2 (by simp)) with e'|e'
   ·exact e'.symm
   exact absurd (j9w (b1 x e) (a1 y e')) (j9m y)
  subst exy;refine congrArg _ (k1h a2 b2 fun v=>⟨fun hv=> ?_,fun hv=> ?_⟩)
  ·rcases AE.1 ((h v).1 (AF _ hv)) with e|e
   ·subst e;exact absurd (a1 v hv) (j9m v)
   ·exact e
  ·rcases AE.1 ((h v).2 (AF _ hv)) with e|e
   ·subst e;exact absurd (b1 v hv) (j9m v)
   ·exact e
theorem j8c {X:Nat->AG}{v:AG}{l:List Nat}{p:Nat}:p∈j7u X v l↔p∈l/\X p=v:=by simp[j7u]
theorem j9e {X:Nat->AG}{v:AG}{l:List Nat}(h:v∈cellsOf X l):j7u X v l≠[]:=fun e=>by obtain⟨p,hp,hx⟩:=j7x.1 h;have:p∈j7u X v l:=j8c.2 ⟨hp,hx⟩;rw[e] at this;simp at this
def k1e (G:Nat->Bool)(l:List Nat):Prop:= ∀p,p∈l-> ∀q,q∈l->G p=G q
theorem j8e {cs:List AG}{j:Nat}(h:j<cs.length):cs.getD j ⟨0,0⟩∈cs:=by rw[AA,AC h];exact List.getElem_mem h
theorem k0n (X:Nat->AG)(cs:List AG)(hn:cs.Nodup): ∀l:List Nat,(∀p,p∈l->X p∈cs)->(cs.map fun v=>(j7u X v l).length).sum=l.length
 |[],_=>by
  have: ∀cs:List AG,(cs.map fun v=>(j7u X v []).length).sum=0:=fun cs=>by
   induction cs with
   |nil=>rfl
   |cons c cs ih=>simp only[AL,AK,ih];rfl
  exact this cs
 |p::l,h=>by
  have ih:=k0n X cs hn l fun q hq=>h q (AF _ hq);have hp:=h p (by simp);have: ∀cs:List AG,cs.Nodup->(cs.map fun v=>(j7u X v (p::l)).length).sum=(cs.map fun v=>(j7u X v l).length).sum+if X p∈cs then 1 else 0:=by
   intro cs
   induction cs with
   |nil=>intro _;simp
   |cons c cs ih=>
    intro hn;obtain⟨h1,h2⟩:=List.nodup_cons.1 hn;simp only[AL,AK,ih h2];by_cases e:X p=c
    ·subst e;have e1:(j7u X (X p) (p::l)).length=(j7u X (X p) l).length+1:=by simp[j7u]
     rw[e1,if_neg h1,if_pos (by simp)];omega
    ·have e1:(j7u X c (p::l)).length=(j7u X c l).length:=by simp[j7u,e]
     have e2:(X p∈c::cs)↔X p∈cs:=by simp[e]
     rw[e1];simp only[e2];omega
  rw[this cs hn,ih,if_pos hp];simp
theorem j9v (X:Nat->AG)(l:List Nat):(cellsOf X l).length<=l.length:=by
 have h:=k0n X (cellsOf X l) (j9u (j8b X l)) l fun p hp=>j7x.2 ⟨p,hp,rfl⟩;rw[<-h];have: ∀cs:List AG,(∀v,v∈cs->1<=(j7u X v l).length)->cs.length<=(cs.map fun v=>(j7u X v l).length).sum:=by
  intro cs
  induction cs with
  |nil=>intro _;simp
  |cons c cs ih=>intro h;have:=ih fun v hv=>h v (AF _ hv);have:=h c (by simp);simp only[AH,AL,AK];omega
 exact this _ fun v hv=>List.length_pos_iff.2 (j9e hv)
theorem k1f {cs:List AG}{v:AG}(h:v∈cs): ∃j,j<cs.length/\cs.getD j ⟨0,0⟩=v:=by obtain⟨j,hj,e⟩:=List.getElem_of_mem h;exact⟨j,hj,by rw[AA,AC hj,<-e];rfl⟩
def j8z (v:AG):List AG->Nat
 |[]=>0
 |c::cs=>if AM c v then j8z v cs+1 else 0
theorem k0i {v:AG}: ∀{cs:List AG},j8z v cs<=cs.length
 |[]=>Nat.le_refl _
 |c::cs=>by
  unfold j8z;split
  ·have:=k0i (v:=v) (cs:=cs);simp only[AH];omega
  ·exact Nat.zero_le _
theorem k2r {v:AG}: ∀{cs:List AG} {j:Nat},j<j8z v cs->AM (cs.getD j ⟨0,0⟩) v
 |[],j,h=>absurd h (AI j)
 |c::cs,j,h=>by
  unfold j8z at h;split at h
  ·rename_i hc;cases j with
   |zero=>simpa using hc
   |succ j=>simpa using k2r (v:=v) (cs:=cs) (by omega)
  ·exact absurd h (AI j)
theorem k1c {v:AG}: ∀{cs:List AG},j8z v cs<cs.length-> ¬AM (cs.getD (j8z v cs) ⟨0,0⟩) v
 |[],h=>absurd h (AI _)
 |c::cs,h=>by
  unfold j8z at h⊢;split
  ·rename_i hc;rw[if_pos hc] at h;simpa using k1c (v:=v) (cs:=cs) (by simpa using h)
  ·rename_i hc;simpa using hc
theorem k1l {v:AG}{cs:List AG}{k:Nat}(hk:k<=cs.length)(h: ∀j,j<k->AM (cs.getD j ⟨0,0⟩) v)(h2:k<cs.length-> ¬AM (cs.getD k ⟨0,0⟩) v):j8z v cs=k:=by
 rcases AN (j8z v cs) k with e|e|e
 ·exact absurd (h _ e) (k1c (by omega))
 ·exact e
 ·have:=k0i (v:=v) (cs:=cs);exact absurd (k2r e) (h2 (by omega))
theorem k0x {v:AG}: ∀{cs:List AG},k1d v cs=if j8z v cs<cs.length/\cs.getD (j8z v cs) ⟨0,0⟩=v then cs else cs.take (j8z v cs)++v::cs.drop (j8z v cs)
 |[]=>by simp[k1d,j8z]
 |c::cs=>by
  unfold k1d j8z;by_cases hc:AM c v
  ·rw[if_pos hc,if_pos hc,k0x (cs:=cs)];simp only[AH,Nat.add_lt_add_iff_right,List.getD_cons_succ,List.take_succ_cons,List.drop_succ_cons,List.cons_append];split<;>rfl
  ·rw[if_neg hc,if_neg hc];by_cases e:c=v
   ·simp[e]
   ·simp[e]
theorem k1v {v:AG}{cs:List AG}(h:j8z v cs<cs.length)(e:cs.getD (j8z v cs) ⟨0,0⟩=v):k1d v cs=cs:=by rw[k0x,if_pos ⟨h,e⟩]
theorem k1r {v:AG}{cs:List AG}(hs:cs.Pairwise AM):v∈cs↔j8z v cs<cs.length/\cs.getD (j8z v cs) ⟨0,0⟩=v:=by
 constructor
 ·intro h;obtain⟨j,hj,e⟩:=k1f h;have:j8z v cs=j:=k1l (by omega) (fun i hi=>by
   rw[<-e,AA,AA,AC hj,AC (by omega)];exact List.pairwise_iff_getElem.1 hs i j (by omega) hj hi) (fun _=>by rw[e];exact j9m v)
  rw[this];exact⟨hj,e⟩
 ·rintro⟨h,e⟩;rw[<-e];exact j8e h
theorem k0y {v:AG}{cs:List AG}(h: ¬(j8z v cs<cs.length/\cs.getD (j8z v cs) ⟨0,0⟩=v)):(k1d v cs).length=cs.length+1:=by have:=k0i (v:=v) (cs:=cs);rw[k0x,if_neg h,List.length_append,AH,AB,List.length_drop];omega
theorem k3d {v:AG}{cs:List AG}(h: ¬(j8z v cs<cs.length/\cs.getD (j8z v cs) ⟨0,0⟩=v))(j:Nat):
 (k1d v cs).getD j ⟨0,0⟩=if j<j8z v cs then cs.getD j ⟨0,0⟩ else if j=j8z v cs then v else cs.getD (j-1) ⟨0,0⟩:=by
 have hl:=k0i (v:=v) (cs:=cs);rw[k0x,if_neg h];simp only[AA];rcases AN j (j8z v cs) with e|e|e
 ·rw[if_pos e,List.getElem?_append_left (by rw[AB];omega),List.getElem?_take_of_lt e]
 ·rw[if_neg (by omega),if_pos e,AJ (by rw[AB];omega),AB,show j-min (j8z v cs) cs.length=0 by omega];rfl
 ·rw[if_neg (by omega),if_neg (by omega),AJ (by rw[AB];omega),AB,show j-min (j8z v cs) cs.length=(j-j8z v cs-1)+1 by omega,List.getElem?_cons_succ,List.getElem?_drop,show j8z v cs+(j-j8z v cs-1)=j-1 by omega]
end Go.Proofs.Tryz.Run
