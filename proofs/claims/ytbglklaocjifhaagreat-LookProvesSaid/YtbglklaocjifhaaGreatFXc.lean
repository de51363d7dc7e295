/- slices.SortFunc at cells. Conditions: none. -/
import Derived.Test.YtbglklaocjifhaaGreatFHz
import Derived.Shelf.SlSortCmp.WholeK
open List renaming getD_eq_getElem?_getD->AA,getElem?_eq_getElem->AB,length_singleton->AC,length_append->AD,mem_cons->AF,mem_cons_of_mem->AG,getElem?_append_right->AH,length_take->AI,length_cons->AJ,pairwise_iff_getElem->AK,range->AM,pairwise_cons->AN,map_cons->AO,range'->AP,getElem?_append_left->AQ,mem_singleton->AU,getElem?_map->AW,range'_succ->Aa,ext_getElem->Ab,getElem?_eq_some_iff->Af,sum_cons->Ag,length_pos_iff->An,mem_range'_1->Ap,mem_append->Aq,map_append->Ar,length_map->As
open Go.Proofs.Tryz.Run renaming VaR->AE,vlt->Ah
open Option renaming some->AR,map_some->AZ,none->At
open Nat renaming not_lt_zero->AS,lt_trichotomy->AX,le_refl->Ac,zero_add->Al,zero_le->Am
open Go.Sort renaming ahead->AT
open Bool renaming false->AY
open Array renaming getElem?_eq_some_iff->Ad,getElem?_eq_getElem->Ae,size_eq_zero_iff->Ai,getElem?_modify->Aj,getElem?_append->Ak,extract_size->Ao
set_option linter.unusedSimpArgs false
set_option linter.unusedVariables false
set_option maxRecDepth 100000
namespace Go.Proofs.Tryz.Run
open Go Go.Vf Go.Proofs
instance vltDec (a b:AE):Decidable (Ah a b):=inferInstanceAs (Decidable (a.fault<b.fault\/a.fault=b.fault/\a.n<b.n))
theorem j9m (a:AE): ¬Ah a a:=by unfold Ah;omega
theorem j9w {a b c:AE}:Ah a b->Ah b c->Ah a c:=by unfold Ah;omega
theorem k1m {a b:AE}(h: ¬Ah a b)(h2:a≠b):Ah b a:=by
 unfold Ah at*
 have: ¬(a.fault=b.fault/\a.n=b.n):=fun⟨x,y⟩=>h2 (by cases a;cases b;simp_all);omega
def k1d (v:AE):List AE->List AE
 |[]=>[v]
 |c::cs=>if Ah c v then c::k1d v cs else if c=v then c::cs else v::c::cs
theorem k0d {v w:AE}: ∀{cs:List AE},w∈k1d v cs↔w=v\/w∈cs
 |[]=>by simp[k1d]
 |c::cs=>by
  unfold k1d;split
  ·simp only[AF,k0d (cs:=cs)];constructor
   ·rintro (h|h|h)<;>simp[h]
   ·rintro (h|h|h)<;>simp[h]
  ·split
   ·rename_i h;subst h;simp
   ·simp
theorem k1s {v:AE}: ∀{cs:List AE},cs.Pairwise Ah->(k1d v cs).Pairwise Ah
 |[],_=>by simp[k1d]
 |c::cs,h=>by
  obtain⟨h1,h2⟩:=AN.1 h;unfold k1d;split
  ·rename_i hc;refine AN.2 ⟨fun w hw=> ?_,k1s h2⟩;rcases k0d.1 hw with rfl|hw
   ·exact hc
   ·exact h1 w hw
  ·split
   ·exact h
   ·rename_i hc he;have:=k1m hc he;refine AN.2 ⟨fun w hw=> ?_,h⟩;rcases AF.1 hw with rfl|hw
    ·exact this
    ·exact j9w this (h1 w hw)
def cellsOf (X:Nat->AE)(l:List Nat):List AE:=l.foldl (fun cs p=>k1d (X p) cs) []
def j7u (X:Nat->AE)(v:AE)(l:List Nat):List Nat:=l.filter fun p=>decide (X p=v)
theorem j8d (X:Nat->AE)(l:List Nat)(p:Nat):cellsOf X (l++[p])=k1d (X p) (cellsOf X l):=by simp[cellsOf]
theorem j8i (X:Nat->AE)(v:AE)(l:List Nat)(p:Nat):j7u X v (l++[p])=if X p=v then j7u X v l++[p] else j7u X v l:=by unfold j7u;rw[List.filter_append];by_cases h:X p=v<;>simp[h]
theorem j9p {P:List Nat->Prop}(h0:P [])(h1: ∀l p,P l->P (l++[p]))(l:List Nat):P l:=by
 have: ∀m:List Nat,P m.reverse:=fun m=>by
  induction m with
  |nil=>exact h0
  |cons x m ih=>rw[List.reverse_cons];exact h1 _ _ ih
 simpa using this l.reverse
theorem j7x {X:Nat->AE}{v:AE}{l:List Nat}:v∈cellsOf X l↔ ∃p,p∈l/\X p=v:=by
 induction l using j9p with
 |h0=>simp[cellsOf]
 |h1 l p ih=>
  rw[j8d,k0d,ih];constructor
  ·rintro (h|⟨q,hq,h⟩)
   ·exact⟨p,by simp,h.symm⟩
   ·exact⟨q,by simp[hq],h⟩
  ·rintro⟨q,hq,h⟩;rcases Aq.1 hq with hq|hq
   ·exact .inr ⟨q,hq,h⟩
   ·rw[AU] at hq;subst hq;exact .inl h.symm
theorem j8b (X:Nat->AE)(l:List Nat):(cellsOf X l).Pairwise Ah:=by
 induction l using j9p with
 |h0=>simp[cellsOf]
 |h1 l p ih=>rw[j8d];exact k1s ih
theorem j9u {l:List AE}(h:l.Pairwise Ah):l.Nodup:=h.imp fun {a b} hab=>by intro e;subst e;exact j9m _ hab
theorem k1h: ∀{a b:List AE},a.Pairwise Ah->b.Pairwise Ah->(∀v,v∈a↔v∈b)->a=b
 |[],[],_,_,_=>rfl
 |[],y::b,_,_,h=>by have:=(h y).2 (by simp);simp at this
 |x::a,[],_,_,h=>by have:=(h x).1 (by simp);simp at this
 |x::a,y::b,ha,hb,h=>by
  obtain⟨a1,a2⟩:=AN.1 ha;obtain⟨b1,b2⟩:=AN.1 hb;have exy:x=y:=by
   rcases AF.1 ((h x).1 (by simp)) with e|e
   ·exact e
   rcases AF.1 ((h y).2 (by simp)) with e'|e'
   ·exact e'.symm
   exact absurd (j9w (b1 x e) (a1 y e')) (j9m y)
  subst exy;refine congrArg _ (k1h a2 b2 fun v=>⟨fun hv=> ?_,fun hv=> ?_⟩)
  ·rcases AF.1 ((h v).1 (AG _ hv)) with e|e
   ·subst e;exact absurd (a1 v hv) (j9m v)
   ·exact e
  ·rcases AF.1 ((h v).2 (AG _ hv)) with e|e
   ·subst e;exact absurd (b1 v hv) (j9m v)
   ·exact e
theorem j8c {X:Nat->AE}{v:AE}{l:List Nat}{p:Nat}:p∈j7u X v l↔p∈l/\X p=v:=by simp[j7u]
theorem j9e {X:Nat->AE}{v:AE}{l:List Nat}(h:v∈cellsOf X l):j7u X v l≠[]:=fun e=>by obtain⟨p,hp,hx⟩:=j7x.1 h;have:p∈j7u X v l:=j8c.2 ⟨hp,hx⟩;rw[e] at this;simp at this
structure PbR where
 nl:Nat
 A:Nat->Bool
 X:Nat->Nat->AE
 G:Nat->Bool
def k1e (G:Nat->Bool)(l:List Nat):Prop:= ∀p,p∈l-> ∀q,q∈l->G p=G q
def PbR.pt (K:PbR)(i:Nat)(l:List Nat)(j:Nat):List Nat:=j7u (K.X i) ((cellsOf (K.X i) l).getD j ⟨0,0⟩) l
theorem j8e {cs:List AE}{j:Nat}(h:j<cs.length):cs.getD j ⟨0,0⟩∈cs:=by rw[AA,AB h];exact List.getElem_mem h
theorem k0n (X:Nat->AE)(cs:List AE)(hn:cs.Nodup): ∀l:List Nat,(∀p,p∈l->X p∈cs)->(cs.map fun v=>(j7u X v l).length).sum=l.length
 |[],_=>by
  have: ∀cs:List AE,(cs.map fun v=>(j7u X v []).length).sum=0:=fun cs=>by
   induction cs with
   |nil=>rfl
   |cons c cs ih=>simp only[AO,Ag,ih];rfl
  exact this cs
 |p::l,h=>by
  have ih:=k0n X cs hn l fun q hq=>h q (AG _ hq);have hp:=h p (by simp);have: ∀cs:List AE,cs.Nodup->(cs.map fun v=>(j7u X v (p::l)).length).sum=(cs.map fun v=>(j7u X v l).length).sum+if X p∈cs then 1 else 0:=by
   intro cs
   induction cs with
   |nil=>intro _;simp
   |cons c cs ih=>
    intro hn;obtain⟨h1,h2⟩:=List.nodup_cons.1 hn;simp only[AO,Ag,ih h2];by_cases e:X p=c
    ·subst e;have e1:(j7u X (X p) (p::l)).length=(j7u X (X p) l).length+1:=by simp[j7u]
     rw[e1,if_neg h1,if_pos (by simp)];omega
    ·have e1:(j7u X c (p::l)).length=(j7u X c l).length:=by simp[j7u,e]
     have e2:(X p∈c::cs)↔X p∈cs:=by simp[e]
     rw[e1];simp only[e2];omega
  rw[this cs hn,ih,if_pos hp];simp
theorem j9v (X:Nat->AE)(l:List Nat):(cellsOf X l).length<=l.length:=by
 have h:=k0n X (cellsOf X l) (j9u (j8b X l)) l fun p hp=>j7x.2 ⟨p,hp,rfl⟩;rw[<-h];have: ∀cs:List AE,(∀v,v∈cs->1<=(j7u X v l).length)->cs.length<=(cs.map fun v=>(j7u X v l).length).sum:=by
  intro cs
  induction cs with
  |nil=>intro _;simp
  |cons c cs ih=>intro h;have:=ih fun v hv=>h v (AG _ hv);have:=h c (by simp);simp only[AJ,AO,Ag];omega
 exact this _ fun v hv=>An.2 (j9e hv)
theorem j8p {X:Nat->AE}{v:AE}{l:List Nat}: ∀p,p∈j7u X v l->p∈l:=fun _ h=>(j8c.1 h).1
theorem j8q {X Y:Nat->AE}{l:List Nat}(h: ∀p,p∈l->X p=Y p):cellsOf X l=cellsOf Y l:=
 k1h (j8b X l) (j8b Y l) fun v=>by
  rw[j7x,j7x];exact exists_congr fun p=>and_congr_right fun hp=>by rw[h p hp]
theorem j9d {X Y:Nat->AE}{v:AE}{l:List Nat}(h: ∀p,p∈l->X p=Y p):j7u X v l=j7u Y v l:=List.filter_congr fun p hp=>by rw[h p hp]
structure PbR.same (K K':PbR)(l:List Nat):Prop where
 nl:K.nl=K'.nl
 A: ∀i,i<K.nl->K.A i=K'.A i
 X: ∀i,i<K.nl-> ∀p,p∈l->K.X i p=K'.X i p
 G: ∀p,p∈l-> ∀q,q∈l->(K.G p=K.G q↔K'.G p=K'.G q)
theorem PbR.same.sub {K K':PbR}{l m:List Nat}(h:K.same K' l)(hs: ∀p,p∈m->p∈l):K.same K' m:=⟨h.nl,h.A,fun i hi p hp=>h.X i hi p (hs p hp),fun p hp q hq=>h.G p (hs p hp) q (hs q hq)⟩
theorem PbR.same.dec {K K':PbR}{l:List Nat}(h:K.same K' l):k1e K.G l↔k1e K'.G l:=
 ⟨fun hd p hp q hq=>(h.G p hp q hq).1 (hd p hp q hq),fun hd p hp q hq=>(h.G p hp q hq).2 (hd p hp q hq)⟩
theorem k1f {cs:List AE}{v:AE}(h:v∈cs): ∃j,j<cs.length/\cs.getD j ⟨0,0⟩=v:=by obtain⟨j,hj,e⟩:=List.getElem_of_mem h;exact⟨j,hj,by rw[AA,AB hj,<-e];rfl⟩
def j8z (v:AE):List AE->Nat
 |[]=>0
 |c::cs=>if Ah c v then j8z v cs+1 else 0
theorem k0i {v:AE}: ∀{cs:List AE},j8z v cs<=cs.length
 |[]=>Ac _
 |c::cs=>by
  unfold j8z;split
  ·have:=k0i (v:=v) (cs:=cs);simp only[AJ];omega
  ·exact Am _
theorem k2r {v:AE}: ∀{cs:List AE} {j:Nat},j<j8z v cs->Ah (cs.getD j ⟨0,0⟩) v
 |[],j,h=>absurd h (AS j)
 |c::cs,j,h=>by
  unfold j8z at h;split at h
  ·rename_i hc;cases j with
   |zero=>simpa using hc
   |succ j=>simpa using k2r (v:=v) (cs:=cs) (by omega)
  ·exact absurd h (AS j)
theorem k1c {v:AE}: ∀{cs:List AE},j8z v cs<cs.length-> ¬Ah (cs.getD (j8z v cs) ⟨0,0⟩) v
 |[],h=>absurd h (AS _)
 |c::cs,h=>by
  unfold j8z at h⊢;split
  ·rename_i hc;rw[if_pos hc] at h;simpa using k1c (v:=v) (cs:=cs) (by simpa using h)
  ·rename_i hc;simpa using hc
theorem k1l {v:AE}{cs:List AE}{k:Nat}(hk:k<=cs.length)(h: ∀j,j<k->Ah (cs.getD j ⟨0,0⟩) v)(h2:k<cs.length-> ¬Ah (cs.getD k ⟨0,0⟩) v):j8z v cs=k:=by
 rcases AX (j8z v cs) k with e|e|e
 ·exact absurd (h _ e) (k1c (by omega))
 ·exact e
 ·have:=k0i (v:=v) (cs:=cs);exact absurd (k2r e) (h2 (by omega))
theorem k0x {v:AE}: ∀{cs:List AE},k1d v cs=if j8z v cs<cs.length/\cs.getD (j8z v cs) ⟨0,0⟩=v then cs else cs.take (j8z v cs)++v::cs.drop (j8z v cs)
 |[]=>by simp[k1d,j8z]
 |c::cs=>by
  unfold k1d j8z;by_cases hc:Ah c v
  ·rw[if_pos hc,if_pos hc,k0x (cs:=cs)];simp only[AJ,Nat.add_lt_add_iff_right,List.getD_cons_succ,List.take_succ_cons,List.drop_succ_cons,List.cons_append];split<;>rfl
  ·rw[if_neg hc,if_neg hc];by_cases e:c=v
   ·simp[e]
   ·simp[e]
theorem k1v {v:AE}{cs:List AE}(h:j8z v cs<cs.length)(e:cs.getD (j8z v cs) ⟨0,0⟩=v):k1d v cs=cs:=by rw[k0x,if_pos ⟨h,e⟩]
theorem k1r {v:AE}{cs:List AE}(hs:cs.Pairwise Ah):v∈cs↔j8z v cs<cs.length/\cs.getD (j8z v cs) ⟨0,0⟩=v:=by
 constructor
 ·intro h;obtain⟨j,hj,e⟩:=k1f h;have:j8z v cs=j:=k1l (by omega) (fun i hi=>by
   rw[<-e,AA,AA,AB hj,AB (by omega)];exact AK.1 hs i j (by omega) hj hi) (fun _=>by rw[e];exact j9m v)
  rw[this];exact⟨hj,e⟩
 ·rintro⟨h,e⟩;rw[<-e];exact j8e h
theorem k0y {v:AE}{cs:List AE}(h: ¬(j8z v cs<cs.length/\cs.getD (j8z v cs) ⟨0,0⟩=v)):(k1d v cs).length=cs.length+1:=by have:=k0i (v:=v) (cs:=cs);rw[k0x,if_neg h,AD,AJ,AI,List.length_drop];omega
theorem k3d {v:AE}{cs:List AE}(h: ¬(j8z v cs<cs.length/\cs.getD (j8z v cs) ⟨0,0⟩=v))(j:Nat):
 (k1d v cs).getD j ⟨0,0⟩=if j<j8z v cs then cs.getD j ⟨0,0⟩ else if j=j8z v cs then v else cs.getD (j-1) ⟨0,0⟩:=by
 have hl:=k0i (v:=v) (cs:=cs);rw[k0x,if_neg h];simp only[AA];rcases AX j (j8z v cs) with e|e|e
 ·rw[if_pos e,AQ (by rw[AI];omega),List.getElem?_take_of_lt e]
 ·rw[if_neg (by omega),if_pos e,AH (by rw[AI];omega),AI,show j-min (j8z v cs) cs.length=0 by omega];rfl
 ·rw[if_neg (by omega),if_neg (by omega),AH (by rw[AI];omega),AI,show j-min (j8z v cs) cs.length=(j-j8z v cs-1)+1 by omega,List.getElem?_cons_succ,List.getElem?_drop,show j8z v cs+(j-j8z v cs-1)=j-1 by omega]
open Go.Proofs.YtbglklaocjifhaaGreat
def j8r (X:Nat->AE)(l:List Nat):List AE:=l.foldl (fun ks p=>if X p∈ks then ks else ks++[X p]) []
theorem j8m (X:Nat->AE)(l:List Nat)(p:Nat):j8r X (l++[p])=if X p∈j8r X l then j8r X l else j8r X l++[X p]:=by unfold j8r;rw[List.foldl_append];rfl
theorem j9g {X:Nat->AE}{v:AE}{l:List Nat}:v∈j8r X l↔v∈cellsOf X l:=by
 induction l using j9p with
 |h0=>simp[j8r,cellsOf]
 |h1 l p ih=>
  rw[j8m,j8d,k0d,<-ih];split
  ·rename_i h;exact⟨.inr,fun h'=>h'.elim (fun e=>e▸h) id⟩
  ·simp only[Aq,AU];exact Or.comm
theorem j8w (X:Nat->AE)(l:List Nat):(j8r X l).Nodup:=by
 induction l using j9p with
 |h0=>simp[j8r]
 |h1 l p ih=>
  rw[j8m];split
  ·exact ih
  ·rename_i h;refine List.nodup_append.2 ⟨ih,by simp,fun a ha b hb e=>h ?_⟩;rw[AU] at hb;rw[<-hb,<-e];exact ha
theorem k2i (X:Nat->AE)(l:List Nat):(j8r X l).length<=l.length:=by
 induction l using j9p with
 |h0=>simp[j8r]
 |h1 l p ih=>rw[j8m];split<;>simp<;>omega
def k0l (v:AE):List KC:=[.i v.fault,.i v.n]
theorem k1u {v u:AE}(h:k0l v=k0l u):v=u:=by simp only[k0l,List.cons.injEq,KC.i.injEq,and_true] at h;cases v;cases u;simp_all
theorem k0j {ks:List AE}{V:Nat->AV}{v:AE}:(v∉ks-> ∀n,b1j (k0l v) (ks.map k0l) ((AP n ks.length).map V)=At/\c9t (k0l v) (ks.map k0l) n=At)/\
 (∀j,j<ks.length->ks.getD j ⟨0,0⟩=v->(∀i,i<j->ks.getD i ⟨0,0⟩≠v)-> ∀n,b1j (k0l v) (ks.map k0l) ((AP n ks.length).map V)=AR (V (n+j))/\c9t (k0l v) (ks.map k0l) n=AR (n+j)):=by
 induction ks with
 |nil=>exact⟨fun _ n=>⟨rfl,rfl⟩,fun j hj=>absurd hj (AS j)⟩
 |cons k ks ih=>
  obtain⟨ih1,ih2⟩:=ih;refine⟨fun h n=> ?_,fun j hj he hn n=> ?_⟩
  ·have h1:k0l k≠k0l v:=fun e=>h (by rw[k1u e];simp);obtain⟨g1,g2⟩:=ih1 (fun h'=>h (AG _ h')) (n+1);simp only[AO,AJ,Aa,b1j,c9t,if_neg h1];exact⟨g1,g2⟩
  ·cases j with
   |zero=>
    have:k=v:=by simpa using he
    subst this;simp[Aa,b1j,c9t]
   |succ j=>have h1:k0l k≠k0l v:=fun e=>hn 0 (by omega) (by simpa using k1u e);obtain⟨g1,g2⟩:=ih2 j (by simpa using hj) (by simpa using he) (fun i hi=>by simpa using hn (i+1) (by omega)) (n+1);simp only[AO,AJ,Aa,b1j,c9t,if_neg h1];rw[show n+(j+1)=n+1+j by omega];exact⟨g1,g2⟩
def spR (F:Nat->Nat->AE)(g:Nat->Bool)(q:Nat):List DV:=h7v (F q) (g q)
structure G1 where
 i:Nat
 H:List a0f
 mv:List Nat
 P:Nat->Nat
def G1.ks (X:Nat->AE)(l:List Nat)(s:G1):List AE:=j8r X (l.take s.i)
def G1.pt (X:Nat->AE)(l:List Nat)(s:G1)(j:Nat):List Nat:=j7u X ((s.ks X l).getD j ⟨0,0⟩) (l.take s.i)
structure G1.ok (k:Nat)(l:List Nat)(X:Nat->AE)(F:Nat->Nat->AE)(g:Nat->Bool)(C:List a0f)(s:G1):Prop where
 hi:s.i<=l.length
 hlen:k+2<=a3q s.H
 hC:k3e k s.H C
 hM:a1a s.H k=AR (.mapv true [.u8,.i64] ((s.ks X l).map k0l) ((AP 0 (s.ks X l).length).map fun j=> .msl (s.P j) 9 At (s.pt X l j).length AY))
 hE: ∃ce:Nat->List DV,a1a s.H (k+1)=AR (.arr 2 (s.ks X l).length ce)/\ ∀j,j<(s.ks X l).length->ce j=((s.ks X l).getD j ⟨0,0⟩).row
 hP: ∀j,j<(s.ks X l).length->k+2<=s.P j/\ ∃pe:Nat->List DV,a1a s.H (s.P j)=AR (.arr 9 (s.pt X l j).length pe)/\ ∀i,i<(s.pt X l j).length->pe i=spR F g ((s.pt X l j).getD i 0)
 hinj: ∀j j',j<(s.ks X l).length->j'<(s.ks X l).length->s.P j=s.P j'->j=j'
 hmv: ∀x,x∈s.mv->k<=x
theorem j8k {l:List Nat}{i:Nat}(h:i<l.length):l.take (i+1)=l.take i++[l.getD i 0]:=by rw[List.take_add_one,AB h,AA,AB h];rfl
theorem k0f {ks:List AE}{x:AE}{j:Nat}(h:j<ks.length):(ks++[x]).getD j ⟨0,0⟩=ks.getD j ⟨0,0⟩:=by rw[AA,AA,AQ h]
theorem k0h {ks:List AE}{x:AE}:(ks++[x]).getD ks.length ⟨0,0⟩=x:=by rw[AA,AH (Ac _)];simp
theorem k0b {ks:List Nat}{x j:Nat}(h:j<ks.length):(ks++[x]).getD j 0=ks.getD j 0:=by rw[AA,AA,AQ h]
theorem k0a {ks:List Nat}{x:Nat}:(ks++[x]).getD ks.length 0=x:=by rw[AA,AH (Ac _)];simp
section
variable {k:Nat} {l:List Nat} {X:Nat->AE} {F:Nat->Nat->AE} {g:Nat->Bool} {C:List a0f} {i M:Nat} {H H':List a0f} {mv:List Nat} {P:Nat->Nat} {q:Nat} {KS:List AE}
theorem G1.ok_new (hR:G1.ok k l X F g C ⟨i,H,mv,P⟩)(hi:i<l.length)(hCl:a3q C=k)(hCf: ∀x o i,x<k->a1a C x=AR o->k<=i->o.forget i AY=o)(hM:a3q H=M)(hq:l.getD i 0=q)(hKS:j8r X (l.take i)=KS)(hin:X q∉KS)
 (f1:M+3<=a3q H') (f2:a1a H' k=AR (.mapv true [.u8,.i64] (a2u (KS.map k0l) [k0l (X q)]) (a2u ((AP 0 KS.length).map fun j=> .msl (P j) 9 At (j7u X (KS.getD j ⟨0,0⟩) (l.take i)).length AY) [.msl (M+2) 9 At 1 AY])))
 (f3: ∃e:Nat->List DV,a1a H' (k+1)=AR (.arr 2 (KS.length+1) e)/\(∀ce,a1a H (k+1)=AR (.arr 2 KS.length ce)-> ∀j,j<KS.length->e j=ce j)/\e KS.length=(X q).row)
 (f4: ∀x o,x<M->x≠k->x≠k+1->a1a H x=AR o->o.forget (k+1) AY=o->a1a H' x=AR o)
 (f5: ∃e:Nat->List DV,a1a H' (M+2)=AR (.arr 9 1 e)/\e 0=spR F g q):
 G1.ok k l X F g C ⟨i+1,H',(k+1)::mv,fun j=>if j=KS.length then M+2 else P j⟩:=by
 obtain⟨_,hlen,hC,hM0,⟨ce,hE1,hE2⟩,hP,hinj,hmv⟩:=hR;simp only[G1.ks,G1.pt,hKS] at hlen hC hM0 hE1 hE2 hP hinj hmv;have ht:l.take (i+1)=l.take i++[q]:=by rw[j8k hi,hq]
 have hkn:j8r X (l.take (i+1))=KS++[X q]:=by rw[ht,j8m,hKS,if_neg hin]
 have hpo: ∀j,j<KS.length->j7u X ((KS++[X q]).getD j ⟨0,0⟩) (l.take (i+1))=j7u X (KS.getD j ⟨0,0⟩) (l.take i):=fun j hj=>by rw[k0f hj,ht,j8i,if_neg fun e=>hin (by rw[e];exact j8e hj)]
 have hpn:j7u X ((KS++[X q]).getD KS.length ⟨0,0⟩) (l.take (i+1))=[q]:=by
  have e2:j7u X (X q) (l.take i)=[]:=Classical.byContradiction fun h=>by obtain⟨p,hp⟩:=List.exists_mem_of_ne_nil _ h;obtain⟨p1,p2⟩:=j8c.1 hp;exact hin (by rw[<-hKS];exact j9g.2 (j7x.2 ⟨p,p1,p2⟩))
  rw[k0h,ht,j8i,if_pos rfl,e2];rfl
 have hPM: ∀j,j<KS.length->P j<M:=fun j hj=>by obtain⟨_,pe,h,_⟩:=hP j hj;rw[<-hM];exact j8l h
 have hkM:k+2<=M:=by rw[<-hM];exact hlen
 obtain⟨e3,g1,g2,g3⟩:=f3;obtain⟨e5,g4,g5⟩:=f5;refine⟨hi,by show k+2<=a3q H';omega,fun x hx=> ?_,?_,⟨e3,?_,fun j hj=> ?_⟩,fun j hj=> ?_,fun j j' hj hj' he=> ?_,fun x hx=> ?_⟩
 ·obtain⟨o,ho⟩:=j9o (l:=C) (i:=x) (by omega);have:=hC x hx;rw[ho] at this;rw[f4 x o (by omega) (by omega) (by omega) this (hCf x o _ hx ho (by omega)),ho]
 ·simp only[G1.ks,G1.pt,hkn];rw[f2];congr 2
  ·rw[a0r,Ar];rfl
  ·rw[a0r,AD,AC,List.range'_concat,Ar];congr 1
   ·refine List.map_congr_left fun j hj=> ?_;rw[Ap] at hj;rw[if_neg (by omega),hpo j (by omega)]
   ·simp only[AO,List.map_nil,Al,Nat.one_mul,if_true,hpn];rfl
 ·simp only[G1.ks,hkn,AD,AC];exact g1
 ·simp only[G1.ks,hkn,AD,AC] at hj⊢;by_cases ej:j=KS.length
  ·subst ej;rw[g3,k0h]
  ·rw[k0f (by omega),g2 ce hE1 j (by omega)];exact hE2 j (by omega)
 ·simp only[G1.ks,G1.pt,hkn,AD,AC] at hj⊢;by_cases ej:j=KS.length
  ·subst ej;rw[if_pos rfl,hpn];refine⟨by omega,e5,g4,fun i' hi'=> ?_⟩;obtain rfl:i'=0:=by simpa using hi'
   exact g5
  ·rw[if_neg ej,hpo j (by omega)];obtain⟨h1,pe,h2,h3⟩:=hP j (by omega);exact⟨h1,pe,f4 _ _ (hPM j (by omega)) (by omega) (by omega) h2 rfl,h3⟩
 ·simp only[G1.ks,hkn,AD,AC] at hj hj';simp only at he;by_cases ej:j=KS.length<;>by_cases ej':j'=KS.length
  ·omega
  ·rw[if_pos ej,if_neg ej'] at he;have:=hPM j' (by omega);omega
  ·rw[if_neg ej,if_pos ej'] at he;have:=hPM j (by omega);omega
  ·rw[if_neg ej,if_neg ej'] at he;exact hinj j j' (by omega) (by omega) he
 ·rcases AF.1 hx with rfl|hx
  ·omega
  ·exact hmv x hx
theorem G1.ok_old {c:Nat}(hR:G1.ok k l X F g C ⟨i,H,mv,P⟩)(hi:i<l.length)(hCl:a3q C=k)(hCf: ∀x o i,x<k->a1a C x=AR o->k<=i->o.forget i AY=o)(hM:a3q H=M)(hq:l.getD i 0=q)(hKS:j8r X (l.take i)=KS)(hc:c<KS.length)(hin:KS.getD c ⟨0,0⟩=X q)
 (f1:M<=a3q H') (f2:a1a H' k=AR (.mapv true [.u8,.i64] (KS.map k0l) (a2x ((AP 0 KS.length).map fun j=> .msl (P j) 9 At (j7u X (KS.getD j ⟨0,0⟩) (l.take i)).length AY) c (.msl (P c) 9 At ((j7u X (KS.getD c ⟨0,0⟩) (l.take i)).length+1) AY))))
 (f4: ∀x o,x<M->x≠k->x≠P c->a1a H x=AR o->o.forget (P c) AY=o->a1a H' x=AR o)
 (f5: ∃e:Nat->List DV,a1a H' (P c)=AR (.arr 9 ((j7u X (KS.getD c ⟨0,0⟩) (l.take i)).length+1) e)/\(∀pe,a1a H (P c)=AR (.arr 9 (j7u X (KS.getD c ⟨0,0⟩) (l.take i)).length pe)-> ∀j,j<(j7u X (KS.getD c ⟨0,0⟩) (l.take i)).length->e j=pe j)/\e (j7u X (KS.getD c ⟨0,0⟩) (l.take i)).length=spR F g q):
 G1.ok k l X F g C ⟨i+1,H',P c::mv,P⟩:=by
 obtain⟨_,hlen,hC,hM0,⟨ce,hE1,hE2⟩,hP,hinj,hmv⟩:=hR;simp only[G1.ks,G1.pt,hKS] at hlen hC hM0 hE1 hE2 hP hinj hmv;have ht:l.take (i+1)=l.take i++[q]:=by rw[j8k hi,hq]
 have hmem:X q∈KS:=by rw[<-hin];exact j8e hc
 have hkn:j8r X (l.take (i+1))=KS:=by rw[ht,j8m,hKS,if_pos hmem]
 have hnd:KS.Nodup:=by rw[<-hKS];exact j8w _ _
 have hne: ∀j,j<KS.length->j≠c->X q≠KS.getD j ⟨0,0⟩:=fun j hj hjc e=>by
  rw[<-hin,AA,AA,AB hc,AB hj] at e;simp only[Option.getD_some] at e;have hp:=AK.1 hnd;rcases AX c j with h|h|h
  ·exact hp c j hc hj h e
  ·exact hjc h.symm
  ·exact hp j c hj hc h e.symm
 have hpo: ∀j,j<KS.length->j≠c->j7u X (KS.getD j ⟨0,0⟩) (l.take (i+1))=j7u X (KS.getD j ⟨0,0⟩) (l.take i):=fun j hj hjc=>by rw[ht,j8i,if_neg (hne j hj hjc)]
 have hpc:j7u X (KS.getD c ⟨0,0⟩) (l.take (i+1))=j7u X (KS.getD c ⟨0,0⟩) (l.take i)++[q]:=by rw[ht,j8i,if_pos hin.symm]
 have hPM: ∀j,j<KS.length->P j<M:=fun j hj=>by obtain⟨_,pe,h,_⟩:=hP j hj;rw[<-hM];exact j8l h
 have hkM:k+2<=M:=by rw[<-hM];exact hlen
 have hPc:=(hP c hc).1;obtain⟨e5,g4,g6,g5⟩:=f5;refine⟨hi,by show k+2<=a3q H';omega,fun x hx=> ?_,?_,⟨ce,?_,?_⟩,fun j hj=> ?_,?_,fun x hx=> ?_⟩
 ·obtain⟨o,ho⟩:=j9o (l:=C) (i:=x) (by omega);have:=hC x hx;rw[ho] at this;rw[f4 x o (by omega) (by omega) (by omega) this (hCf x o _ hx ho (by omega)),ho]
 ·simp only[G1.ks,G1.pt,hkn];rw[f2];congr 2;rw[a0l];refine List.ext_getElem? fun j=> ?_;rw[List.getElem?_set];by_cases ej:c=j
  ·subst ej;have hr:(AP 0 KS.length)[c]? =AR c:=by rw[List.getElem?_range' hc];simp
   rw[if_pos rfl,As,List.length_range',if_pos hc,AW,hr];simp only[AZ];rw[hpc,AD,AC]
  ·rw[if_neg ej,AW,AW];cases hr:(AP 0 KS.length)[j]? with
   |none=>rfl
   |some t=>
    have ht2:=List.mem_of_getElem? hr;rw[Ap] at ht2;have hjl:=(Af.1 hr).1;have htj:t=j:=by rw[AB hjl] at hr;simpa using hr.symm
    simp only[AZ];rw[hpo t (by omega) (by omega)]
 ·simp only[G1.ks,hkn];exact f4 _ _ (by omega) (by omega) (by omega) hE1 rfl
 ·simp only[G1.ks,hkn];exact hE2
 ·simp only[G1.ks,G1.pt,hkn] at hj⊢;by_cases ej:j=c
  ·subst ej;obtain⟨h1,pe,h2,h3⟩:=hP j hj;rw[hpc,AD,AC];refine⟨h1,e5,g4,fun i' hi'=> ?_⟩;by_cases ei:i'=(j7u X (KS.getD j ⟨0,0⟩) (l.take i)).length
   ·subst ei;rw[g5,k0a]
   ·rw[g6 pe h2 i' (by omega),h3 i' (by omega),k0b (by omega)]
  ·rw[hpo j hj ej];obtain⟨h1,pe,h2,h3⟩:=hP j hj;exact⟨h1,pe,f4 _ _ (hPM j hj) (by omega) (fun e=>ej (hinj j c hj hc e)) h2 rfl,h3⟩
 ·simp only[G1.ks,hkn];exact hinj
 ·rcases AF.1 hx with rfl|hx
  ·omega
  ·exact hmv x hx
end
open Go Go.Vf Go.Proofs Go.Shelf
def k3u:Ren where
 f:=fun
  |6=>173|15=>191|14=>204|28=>225|29=>226|20=>243|21=>244|22=>245|23=>246|24=>247|25=>248|26=>249|27=>250|46=>267|47=>257|48=>258|49=>268|50=>269|57=>272
  |n=>n
 t:=fun
  |22=>24|24=>77|25=>203|3=>3|39=>227|0=>0|53=>254|55=>257|4=>4|46=>268|45=>267|50=>119|5=>5|9=>9|66=>294|70=>298|76=>307|77=>308
  |n=>n
 g:=fun n=>n
theorem j8h {P:Program}{f:FuncId}{B fn:Func}(h:P.funcs[f]? =AR fn)(hn:(fn.name== "runtime.NumGoroutine")=AY)(e:AR {B with name:=fn.name}=AR fn):Bears P f B:=⟨fn.name,hn,h.trans e.symm⟩
theorem k3s:SlLaysF0.n6 Tryz.prog k3u:=by
 constructor
 all_goals first|kernel_rfl|(intro w;kernel_rfl)|exact j8h Tryz.func173 (by kernel_rfl) (by kernel_rfl)|exact j8h Tryz.func204 (by kernel_rfl) (by kernel_rfl)|exact j8h Tryz.func243 (by kernel_rfl) (by kernel_rfl)|exact j8h Tryz.func244 (by kernel_rfl) (by kernel_rfl)|exact j8h Tryz.func245 (by kernel_rfl) (by kernel_rfl)|exact j8h Tryz.func246 (by kernel_rfl) (by kernel_rfl)|exact j8h Tryz.func247 (by kernel_rfl) (by kernel_rfl)|exact j8h Tryz.func248 (by kernel_rfl) (by kernel_rfl)|exact j8h Tryz.func249 (by kernel_rfl) (by kernel_rfl)|exact j8h Tryz.func250 (by kernel_rfl) (by kernel_rfl)|exact j8h Tryz.func267 (by kernel_rfl) (by kernel_rfl)|exact j8h Tryz.func268 (by kernel_rfl) (by kernel_rfl)|exact j8h Tryz.func269 (by kernel_rfl) (by kernel_rfl)|exact j8h Tryz.func272 (by kernel_rfl) (by kernel_rfl)
open Go Go.Vf Go.Proofs Go.Shelf Go.RowKit Go.Lib Go.Sort
theorem k2e {w w':World}(h:d6d w w'): ∃q os',w'=grow (w.drewN q) os':=by
 obtain⟨h1,⟨h2,h3⟩,h4,h5,h6⟩:=h;obtain⟨hp,tp,dr,os,ou⟩:=w;obtain⟨hp',tp',dr',os',ou'⟩:=w';simp only at h1 h2 h3 h4 h5 h6;subst h1 h2 h4;refine⟨dr'-dr,hp'.extract hp.size hp'.size,?_⟩;simp only[grow,World.drewN];congr 1
 ·refine Array.ext_getElem? fun i=> ?_;rw[Ak];split
  ·rename_i h;exact h6 i h
  ·rename_i h;rw[Array.getElem?_extract];by_cases hi:i<hp'.size
   ·rw[if_pos (by omega)];congr 1;omega
   ·rw[if_neg (by omega),Array.getElem?_eq_none (by omega)]
 ·omega
abbrev CeR:={v:AE//a1i v/\0<=v.fault}
instance:Inhabited CeR:=⟨⟨⟨0,0⟩,by simp[a1i]⟩⟩
def j9a (x:CeR):List Value:=[.int .u8 x.1.fault,.int .i64 x.1.n]
def k1y (x y:CeR):Int:=if x.1=y.1 then 0 else if Ah x.1 y.1 then-1 else 1
theorem k4j (x y:CeR):ltOf k1y x y=decide (Ah x.1 y.1):=by
 unfold ltOf k1y;by_cases h:x.1=y.1
 ·rw[if_pos h,h];simp[j9m]
 ·rw[if_neg h];by_cases h2:Ah x.1 y.1<;>simp[h2]
theorem k4k:SWO (ltOf k1y) where
 irrefl x:=by rw[k4j];simp[j9m]
 trans x y z h1 h2:=by rw[k4j] at*;simp at*;exact j9w h1 h2
 ntrans x y z h1 h2:=by
  rw[k4j] at*
  simp at*
  intro h;by_cases e:x.1=y.1
  ·rw[e] at h;exact h2 h
  ·exact h2 (j9w (k1m h1 e) h)
theorem k2p (blk off size:Nat)(w:World):CmpLays Tryz.prog 149 #[] j9a 2 k1y blk off size w:=fun m os dk hs x y=>by
 have h:=c9s x.1 y.1 x.2.2 y.2.2 x.2.1 y.2.1 (k1y x y) rfl;generalize sortWorldK j9a 2 w blk off m dk os=W;refine (h.2 W (fun _=>False) _ (fun _ h=>h.elim) ⟨rfl,fun i z u hz hu=> ?_⟩).mono fun e w' hR=> ?_
 ·have hag: ∀c:CeR,VR W (fun _=>False) a2j c.1.av (.agg (j9a c).toArray):=fun c=>by
   refine .agg _ _ rfl fun j z u hz hu=> ?_
   match j,hz,hu with
   |0,hz,hu=>simp[j9a] at hz hu;subst hz;subst hu;exact .d (.int _ _)
   |1,hz,hu=>simp[j9a] at hz hu;subst hz;subst hu;exact .d (.int _ _)
  match i,hz,hu with
  |0,hz,hu=>simp at hz hu;subst hz;subst hu;exact hag x
  |1,hz,hu=>simp at hz hu;subst hz;subst hu;exact hag y
 ·obtain⟨v,S',h1,h2,_,h3⟩:=hR;cases h2 with
  |d h2=>cases h2;exact⟨h1,k2e h3⟩
noncomputable def k4i (v:AE):CeR:=by classical exact if h:a1i v/\0<=v.fault then⟨v,h⟩ else default
theorem k1w {v:AE}(h:a1i v/\0<=v.fault):(k4i v).1=v:=by unfold k4i;rw[dif_pos h]
noncomputable def k0k (n:Nat)(f:Nat->AE):Array CeR:=((AM n).map fun i=>k4i (f i)).toArray
theorem j8o (n:Nat)(f:Nat->AE):(k0k n f).size=n:=by simp[k0k]
theorem k2u {n i:Nat}(f:Nat->AE)(h:i<n):(k0k n f)[i]! =k4i (f i):=by rw[getElem!_pos _ i (by rw[j8o];exact h)];simp[k0k]
theorem k2f {w:World}{S:Nat->Prop}{ρ:Rho}{b C n:Nat}{e:Nat->List DV}(hs:Sim w S ρ [.arr 2 n e])(hρ:ρ 0=AR (AR b,C))(d':Array CeR)(hd:d'.size=n)(m:Nat)(os:Array Obj):
 ∃S',Sim (sortWorldK j9a 2 w b 0 m d' os) S' ρ [.arr 2 n fun i=>(d'[i]!).1.row]/\Ext w S ρ (sortWorldK j9a 2 w b 0 m d' os) S' ρ:=by
 obtain⟨o,ho,hh⟩:=hs.obj 0 _ C hρ;simp at ho;subst ho;obtain⟨cs,ty,h1,h2,h3,h4⟩:=hh;have hblk:b<w.heap.size:=(Ad.1 h1).1;have hw1:(putRowK j9a 2 (AT w m) b 0 d').heap[b]? =AR (.cells (putCells id 0 (flatK j9a 2 d') cs) ty (0,0)):=by show (w.heap.modify b _)[b]? =_;rw[Aj,if_pos rfl,h1];rfl
 have hB:a0z (putRowK j9a 2 (AT w m) b 0 d') S ρ b C (.arr 2 n fun i=>(d'[i]!).1.row):=by
  refine⟨_,ty,hw1,by simp[putCells,h2],h3,fun i hi=>⟨rfl,fun j x v hx hv=> ?_⟩⟩;have hj:j<2:=(Af.1 hx).1;have hlt:i*2+j<d'.size*2:=by rw[hd];omega
  have hcs:i*2+j<cs.size:=by rw[h2];omega
  rw[putCells,Array.getElem?_mapIdx,Ae hcs] at hv;simp only[AZ,Am,true_and,Al,size_flatK,hlt,if_true,Nat.sub_zero,id,Option.some.injEq] at hv;rw[get_flatK _ _ _ _ hlt] at hv;rw[show (i*2+j)/2=i by omega,show (i*2+j) % 2=j by omega] at hv;subst hv
  match j,hx,hj with
  |0,hx,_=>simp[VaR.row] at hx;subst hx;exact .int _ _
  |1,hx,_=>simp[VaR.row] at hx;subst hx;exact .int _ _
 have c1:=Chg.set (w':=putRowK j9a 2 (AT w m) b 0 d') (o':= .arr 2 n fun i=>(d'[i]!).1.row) hs hρ (o:= .arr 2 n e) rfl rfl rfl ⟨rfl,Nat.le_add_right _ _⟩ rfl (by show (w.heap.modify b _).size=_;simp)
  (fun k hk=>by show (w.heap.modify b _)[k]? =_;rw[Aj,if_neg (Ne.symm hk)]) hB
 have hk:d6d (putRowK j9a 2 (AT w m) b 0 d') (sortWorldK j9a 2 w b 0 m d' os):=⟨rfl,⟨rfl,Ac _⟩,rfl,by simp[sortWorldK,grow],fun k hk=>by
  show ((putRowK j9a 2 (AT w m) b 0 d').heap++os)[k]? =_;rw[Ak,if_pos hk]⟩
 have c2:=b5v (S1:=fun _=>False) c1.sim (fun _ h=>h.elim) hk;exact⟨_,c2.sim,c1.ext.trans c2.ext⟩
def k4l (n:Nat)(f:Nat->AE)(pg:List Nat)(v:AV)(h':List a0f):Prop:=
 pg=[]/\v= .tuple []/\ ∃g:Nat->AE,h'=[.arr 2 n fun i=>(g i).row]/\((AM n).map g).Perm ((AM n).map f)/\ ∀i j,i<j->j<n-> ¬Ah (g j) (g i)
theorem k3y {n:Nat}(h0:0<n)(hn:n<=1000000)(f:Nat->AE)(hf: ∀i,i<n->a1i (f i)/\0<=(f i).fault)(e:Nat->List DV)(he: ∀i,i<n->e i=(f i).row):
 a1h Tryz.prog 173 [.msl 0 2 At n AY,.fn 149 [] []] [.arr 2 n e] (k4l n f):=by
 obtain⟨fn,c,hfn,hb,hname,_⟩:=e9x;refine⟨⟨fn,hfn,hname,by rw[hb];simp⟩,fun w S ρ vs hs hv=> ?_⟩;obtain⟨hl,hg⟩:=hv;obtain⟨v0,v1,rfl⟩: ∃a b,vs= #[a,b]:=by
  match vs,hl with
  |⟨[a,b]⟩,_=>exact⟨a,b,rfl⟩
 have g0:=hg 0 _ v0 rfl rfl;have g1:=hg 1 _ v1 rfl rfl;cases g1 with
 |fn _ _ _ us cs hl1 _ hl2 _=>
  obtain rfl:us= #[]:=Ai.1 hl1.symm;obtain rfl:cs= #[]:=Ai.1 hl2.symm;cases g0 with
  |msl _ _ _ _ _ ob C cap a hρ hc hcap ha=>
   simp only[Option.getD] at hc hcap ha;obtain⟨o,ho,hh⟩:=hs.obj 0 _ C hρ;simp at ho;subst ho;cases ob with
   |none=>have:=hh.1;omega
   |some b=>
    have hcp:cap=C:=by rw[hcap,if_neg (by decide)];omega
    rw[ha (by omega)];obtain⟨cs,ty,h1,h2,h3,h4⟩:=hh;have hblk:b<w.heap.size:=(Ad.1 h1).1;have hH:HoldsK j9a 2 w b 0 (k0k n f):=fun t ht=>by
     rw[size_flatK,j8o] at ht;have hi:t/2<n:=by omega
     have hj:t % 2<2:=by omega
     have hcs:t<cs.size:=by rw[h2];omega
     rw[get_flatK _ _ _ _ (by rw[j8o];exact ht),k2u f hi];simp only[World.cell?,World.frozen?,h1,Al];refine⟨?_,by simp⟩;have ht2:t/2*2+t % 2=t:=by omega
     have:=(h4 (t/2) hi).2 (t % 2);rw[he _ hi] at this;simp only[j9a,k1w (hf _ hi),id];rw[ht2] at this;rw[Ae hcs] at this⊢;simp only[Option.isSome_none,Bool.false_eq_true,if_false];generalize cs[t]=u at this⊢;rcases Nat.lt_or_ge (t % 2) 1 with h|h
     ·have e0:t % 2=0:=by omega
      rw[e0] at this⊢;have h5:=this (.int .u8 (.v (f (t/2)).fault)) _ rfl rfl;cases h5;simp[e0];rfl
     ·have e0:t % 2=1:=by omega
      rw[e0] at this⊢;have h5:=this (.int .i64 (.v (f (t/2)).n)) _ rfl rfl;cases h5;simp[e0];rfl
    have hcon:=AnyQ.slices_SortFunc k3s 2 (fun w=>by kernel_rfl) (fun w=>by kernel_rfl) j9a (fun _=>rfl) (fun x v hv=>by simp[j9a] at hv;rcases hv with rfl|rfl<;>rfl) k1y k4k 149 #[] b 0 cap (k0k n f) w
     (enters_of Tryz.func149 (by kernel_rfl) rfl) (k2p b 0 _ w) hH hblk (by rw[j8o];omega)
    rw[j8o] at hcon;refine Calls.mono hcon fun en w' hR=> ?_;obtain⟨rfl,d',m,os,hp,hso,rfl⟩:=hR;have hd:d'.size=n:=by rw[hp.1,j8o]
    obtain⟨S',hS',hE'⟩:=k2f hs hρ d' hd m os;refine⟨_,.tuple [],[],[.arr 2 n fun i=>(d'[i]!).1.row],S',ρ,rfl,⟨rfl,rfl,fun i=>(d'[i]!).1,rfl,?_,?_⟩,.tuple _ _ rfl (fun i x v h=>by simp at h),hS',hE',by simp,fun _ _ _=>rfl⟩
    ·have h6:=hp.2.2;have ea:(k0k n f).extract 0 n=k0k n f:=by
      have:=Ao (xs:=k0k n f)
      rwa [j8o] at this
     have ed:d'.extract 0 n=d':=by
      have:=Ao (xs:=d')
      rwa [hd] at this
     rw[ea,ed] at h6;have h7:=h6.map (fun x:CeR=>x.1);have e1:(AM n).map (fun i=>(d'[i]!).1)=d'.toList.map fun x=>x.1:=by
      refine Ab (by simp[hd]) fun i h1 h2=> ?_;have:i<d'.size:=by simpa using h2
      simp[getElem!_pos d' i this]
     have e2:(AM n).map f=(k0k n f).toList.map fun x=>x.1:=by
      refine Ab (by simp[j8o]) fun i h1 h2=> ?_;have:i<n:=by simpa using h1
      simp[k0k,k1w (hf i this)]
     rw[e1,e2];exact h7
    ·intro i j h1 h2;have h6:=hso i j (Am _) h1 h2;rw[k4j] at h6;simpa using h6
theorem k3c {KS SS:List AE}(h0:KS≠[])(hn:KS.length<=1000000)(hf: ∀v,v∈KS->a1i v/\0<=v.fault)(hd:KS.Nodup)(hs:SS.Pairwise Ah)(hm: ∀v,v∈SS↔v∈KS)(e:Nat->List DV)(he: ∀i,i<KS.length->e i=(KS.getD i ⟨0,0⟩).row):
 a1h Tryz.prog 173 [.msl 0 2 At KS.length AY,.fn 149 [] []] [.arr 2 KS.length e] fun pg v h'=>pg=[]/\v= .tuple []/\ ∃e':Nat->List DV,h'=[.arr 2 KS.length e']/\SS.length=KS.length/\ ∀i,i<KS.length->e' i=(SS.getD i ⟨0,0⟩).row:=by
 refine (k3y (An.2 h0) hn (fun i=>KS.getD i ⟨0,0⟩) (fun i hi=>hf _ (j8e hi)) e he).mono fun pg v h' hr=> ?_;obtain⟨rfl,rfl,g,rfl,hp,ha⟩:=hr;have e1:(AM KS.length).map (fun i=>KS.getD i ⟨0,0⟩)=KS:=Ab (by simp) fun i h1 h2=>by simp[AB h2]
 rw[e1] at hp;have hnd:((AM KS.length).map g).Nodup:=hp.nodup_iff.2 hd;have hpw:((AM KS.length).map g).Pairwise Ah:=AK.2 fun i j hi hj hij=>by have h1:=AK.1 hnd i j hi hj hij;simp only[As,List.length_range] at hi hj;simp only[List.getElem_map,List.getElem_range] at h1⊢;exact k1m (ha i j hij hj) (fun e=>h1 e.symm)
 have hss:SS=(AM KS.length).map g:=k1h hs hpw fun v=>(hm v).trans hp.mem_iff.symm;have hl:SS.length=KS.length:=by rw[hss];simp
 refine⟨rfl,rfl,_,rfl,hl,fun i hi=> ?_⟩;rw[hss];simp[hi]
end Go.Proofs.Tryz.Run
