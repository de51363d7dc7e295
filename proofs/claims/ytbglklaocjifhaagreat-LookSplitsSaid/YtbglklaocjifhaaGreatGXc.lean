/- slices.SortFunc at cells. Conditions: none. -/
import Derived.Test.YtbglklaocjifhaaGreatGCj
import Derived.Shelf.SlSortCmp.WholeK
open List renaming getD_eq_getElem?_getD->AA,getElem?_eq_getElem->AB,exists_mem_of_ne_nil->AC,length_singleton->AD,length_append->AE,mem_cons->AG,mem_cons_of_mem->AH,range->AI,pairwise_cons->AJ,map_cons->AK,range'->AL,pairwise_iff_getElem->AN,length_pos_iff->AS,mem_singleton->AU,getElem?_map->AW,range'_succ->AZ,length_cons->Aa,ext_getElem->Ab,getElem?_append_right->Ae,getElem?_eq_some_iff->Ah,getElem?_append_left->Ai,sum_cons->Aj,mem_range'_1->Ar,mem_append->Au,map_append->Av,length_map->Aw
open Go.Proofs.Tryz.Run renaming g8->AF,Yr->As,om->Ay
open Bool renaming and_eq_true_iff->AM,false->AQ,true->Ag
open Nat renaming le_refl->AO,not_lt_zero->AR,lt_trichotomy->AX,lt_irrefl->Ak,zero_add->Ao,zero_le->Ap,lt_succ_self->At
open Option renaming some->AP,map_some->AY,none->Ax
open Go.Sort renaming ahead->AT
open Classical renaming byContradiction->Ac
open Array renaming getElem?_eq_some_iff->Ad,getElem?_eq_getElem->Af,size_eq_zero_iff->Al,getElem?_modify->Am,getElem?_append->An,extract_size->Aq
set_option linter.unusedSimpArgs false
set_option linter.unusedVariables false
set_option maxRecDepth 100000
namespace Go.Proofs.Tryz.Run
open Go Go.Vf Go.Proofs
instance ZB (a b:AF):Decidable (As a b):=inferInstanceAs (Decidable (a.fault<b.fault\/a.fault=b.fault/\a.n<b.n))
theorem NY (a:AF): ¬As a a:=by unfold As;omega
theorem Uf {a b c:AF}:As a b->As b c->As a c:=by unfold As;omega
theorem k1m {a b:AF}(h: ¬As a b)(h2:a≠b):As b a:=by
 unfold As at*
 have: ¬(a.fault=b.fault/\a.n=b.n):=fun⟨x,y⟩=>h2 (by cases a;cases b;simp_all);omega
def JB (v:AF):List AF->List AF
 |[]=>[v]
 |c::cs=>if As c v then c::JB v cs else if c=v then c::cs else v::c::cs
theorem Ue {v w:AF}: ∀{cs:List AF},w∈JB v cs↔w=v\/w∈cs
 |[]=>by simp[JB]
 |c::cs=>by
  unfold JB;split
  ·simp only[AG,Ue (cs:=cs)];constructor
   ·rintro (h|h|h)<;>simp[h]
   ·rintro (h|h|h)<;>simp[h]
  ·split
   ·rename_i h;subst h;simp
   ·simp
theorem k1s {v:AF}: ∀{cs:List AF},cs.Pairwise As->(JB v cs).Pairwise As
 |[],_=>by simp[JB]
 |c::cs,h=>by
  obtain⟨h1,h2⟩:=AJ.1 h;unfold JB;split
  ·rename_i hc;refine AJ.2 ⟨fun w hw=> ?_,k1s h2⟩;rcases Ue.1 hw with rfl|hw
   ·exact hc
   ·exact h1 w hw
  ·split
   ·exact h
   ·rename_i hc he;have:=k1m hc he;refine AJ.2 ⟨fun w hw=> ?_,h⟩;rcases AG.1 hw with rfl|hw
    ·exact this
    ·exact Uf this (h1 w hw)
def cellsOf (X:Nat->AF)(l:List Nat):List AF:=l.foldl (fun cs p=>JB (X p) cs) []
def ey (X:Nat->AF)(v:AF)(l:List Nat):List Nat:=l.filter fun p=>decide (X p=v)
theorem UZ (X:Nat->AF)(l:List Nat)(p:Nat):cellsOf X (l++[p])=JB (X p) (cellsOf X l):=by simp[cellsOf]
theorem NG (X:Nat->AF)(v:AF)(l:List Nat)(p:Nat):ey X v (l++[p])=if X p=v then ey X v l++[p] else ey X v l:=by unfold ey;rw[List.filter_append];by_cases h:X p=v<;>simp[h]
theorem NQ {P:List Nat->Prop}(h0:P [])(h1: ∀l p,P l->P (l++[p]))(l:List Nat):P l:=by
 have: ∀m:List Nat,P m.reverse:=fun m=>by
  induction m with
  |nil=>exact h0
  |cons x m ih=>rw[List.reverse_cons];exact h1 _ _ ih
 simpa using this l.reverse
theorem wk {X:Nat->AF}{v:AF}{l:List Nat}:v∈cellsOf X l↔ ∃p,p∈l/\X p=v:=by
 induction l using NQ with
 |h0=>simp[cellsOf]
 |h1 l p ih=>
  rw[UZ,Ue,ih];constructor
  ·rintro (h|⟨q,hq,h⟩)
   ·exact⟨p,by simp,h.symm⟩
   ·exact⟨q,by simp[hq],h⟩
  ·rintro⟨q,hq,h⟩;rcases Au.1 hq with hq|hq
   ·exact .inr ⟨q,hq,h⟩
   ·rw[AU] at hq;subst hq;exact .inl h.symm
theorem MG (X:Nat->AF)(l:List Nat):(cellsOf X l).Pairwise As:=by
 induction l using NQ with
 |h0=>simp[cellsOf]
 |h1 l p ih=>rw[UZ];exact k1s ih
theorem UL {l:List AF}(h:l.Pairwise As):l.Nodup:=h.imp fun {a b} hab=>by intro e;subst e;exact NY _ hab
theorem UK: ∀{a b:List AF},a.Pairwise As->b.Pairwise As->(∀v,v∈a↔v∈b)->a=b
 |[],[],_,_,_=>rfl
 |[],y::b,_,_,h=>by have:=(h y).2 (by simp);simp at this
 |x::a,[],_,_,h=>by have:=(h x).1 (by simp);simp at this
 |x::a,y::b,ha,hb,h=>by
  obtain⟨a1,a2⟩:=AJ.1 ha;obtain⟨b1,b2⟩:=AJ.1 hb;have exy:x=y:=by
   rcases AG.1 ((h x).1 (by simp)) with e|e
   ·exact e
   rcases AG.1 ((h y).2 (by simp)) with e'|e'
   ·exact e'.symm
   exact absurd (Uf (b1 x e) (a1 y e')) (NY y)
  subst exy;refine congrArg _ (UK a2 b2 fun v=>⟨fun hv=> ?_,fun hv=> ?_⟩)
  ·rcases AG.1 ((h v).1 (AH _ hv)) with e|e
   ·subst e;exact absurd (a1 v hv) (NY v)
   ·exact e
  ·rcases AG.1 ((h v).2 (AH _ hv)) with e|e
   ·subst e;exact absurd (b1 v hv) (NY v)
   ·exact e
theorem Kw {X:Nat->AF}{v:AF}{l:List Nat}{p:Nat}:p∈ey X v l↔p∈l/\X p=v:=by simp[ey]
theorem j9e {X:Nat->AF}{v:AF}{l:List Nat}(h:v∈cellsOf X l):ey X v l≠[]:=fun e=>by obtain⟨p,hp,hx⟩:=wk.1 h;have:p∈ey X v l:=Kw.2 ⟨hp,hx⟩;rw[e] at this;simp at this
theorem j9y {X:Nat->AF}{l:List Nat}(h:l≠[]):cellsOf X l≠[]:=fun e=>by obtain⟨p,hp⟩:=AC l h;have:=(wk (X:=X)).2 ⟨p,hp,rfl⟩;rw[e] at this;simp at this
def G0 (X:Nat->AF)(l:List Nat):Prop:= ∀p,p∈l-> ∀q,q∈l->X p=X q
theorem G0.part {X:Nat->AF}{l:List Nat}(h:G0 X l){v:AF}(hv:v∈cellsOf X l):ey X v l=l:=by obtain⟨p,hp,hx⟩:=wk.1 hv;exact List.filter_eq_self.2 fun q hq=>decide_eq_true ((h q hq p hp).trans hx)
theorem G0.sub {X:Nat->AF}{l m:List Nat}(h:G0 X l)(hs: ∀p,p∈m->p∈l):G0 X m:=fun p hp q hq=>h p (hs p hp) q (hs q hq)
theorem k0v {X:Nat->AF}{v:AF}{l:List Nat}:G0 X (ey X v l):=fun p hp q hq=>((Kw.1 hp).2).trans (Kw.1 hq).2.symm
structure d8 where
 nl:Nat
 A:Nat->Bool
 X:Nat->Nat->AF
 G:Nat->Bool
def zy (G:Nat->Bool)(l:List Nat):Prop:= ∀p,p∈l-> ∀q,q∈l->G p=G q
def d8.can (K:d8):Nat->List Nat->Prop
 |0,l=>zy K.G l
 |n+1,l=>zy K.G l\/ ∃i,i<K.nl/\K.A i=Ag/\ ∀v,v∈cellsOf (K.X i) l->d8.can K n (ey (K.X i) v l)
theorem d8.Xl {K:d8}{l:List Nat}(h:zy K.G l): ∀n,K.can n l
 |0=>h
 |_+1=> .inl h
theorem d8.Wu {K:d8}: ∀{n:Nat} {l:List Nat},K.can n l->K.can (n+1) l
 |0,_,h=> .inl h
 |_+1,_,.inl h=> .inl h
 |_+1,_,.inr ⟨i,h1,h2,h3⟩=> .inr ⟨i,h1,h2,fun v hv=>d8.Wu (h3 v hv)⟩
theorem d8.Wt {K:d8}{n m:Nat}{l:List Nat}(h:K.can n l)(hm:n<=m):K.can m l:=by
 obtain⟨d,rfl⟩: ∃d,m=n+d:=⟨m-n,by omega⟩;clear hm
 induction d with
 |zero=>exact h
 |succ d ih=>exact d8.Wu ih
noncomputable def mi (P:Nat->Prop):Nat->Nat
 |0=>0
 |n+1=>by classical exact if mi P n<n then mi P n else if P n then n else n+1
theorem OR (P:Nat->Prop): ∀n,mi P n<=n/\(mi P n<n->P (mi P n))/\ ∀j,j<mi P n-> ¬P j
 |0=>⟨AO _,fun h=>absurd h (Ak _),fun j hj=>absurd hj (AR _)⟩
 |n+1=>by
  obtain⟨h1,h2,h3⟩:=OR P n;unfold mi;split
  ·rename_i h;exact⟨by omega,fun _=>h2 h,h3⟩
  ·rename_i h;have e:mi P n=n:=by omega
   rw[e] at h3;split
   ·rename_i h4;exact⟨by omega,fun _=>h4,h3⟩
   ·rename_i h4;refine⟨AO _,fun h=>absurd h (Ak _),fun j hj=> ?_⟩;by_cases ej:j=n
    ·subst ej;exact h4
    ·exact h3 j (by omega)
theorem k1g {P:Nat->Prop}{n i:Nat}(hi:i<n)(h:P i)(hj: ∀j,j<i-> ¬P j):mi P n=i:=by
 obtain⟨h1,h2,h3⟩:=OR P n;rcases AX (mi P n) i with h'|h'|h'
 ·exact absurd (h2 (by omega)) (hj _ h')
 ·exact h'
 ·exact absurd h (h3 i h')
theorem k0r {P Q:Nat->Prop}{n:Nat}(h: ∀i,i<n->(P i↔Q i)):mi P n=mi Q n:=by
 obtain⟨h1,h2,h3⟩:=OR Q n;by_cases hq:mi Q n<n
 ·exact k1g hq ((h _ hq).2 (h2 hq)) fun j hj h'=>h3 j hj ((h j (by omega)).1 h')
 ·obtain⟨g1,g2,g3⟩:=OR P n;by_cases hp:mi P n<n
  ·exact absurd ((h _ hp).1 (g2 hp)) (h3 _ (by omega))
  ·omega
def QK:Ay:= .mk (-1) 0 (fun _=>⟨0,0⟩) 0 fun _=> .none
def Jw (i:Nat)(cs:List AF)(f:Nat->Ay):Ay:= .mk i cs.length (fun j=>cs.getD j ⟨0,0⟩) cs.length fun j=>if j<cs.length then f j else .none
theorem k1a {i:Nat}{cs:List AF}{f:Nat->Ay}{j:Nat}(h:j<cs.length):(Jw i cs f).nx j=f j:=if_pos h
theorem k1i {i:Nat}{cs:List AF}{f g:Nat->Ay}(h: ∀j,j<cs.length->f j=g j):Jw i cs f=Jw i cs g:=by
 unfold Jw;congr 1;funext j;split
 ·rename_i hj;exact h j hj
 ·rfl
def d8.sp (K:d8)(n:Nat)(l:List Nat)(i:Nat):Prop:=K.A i=Ag/\ ∀v,v∈cellsOf (K.X i) l->K.can n (ey (K.X i) v l)
def d8.pt (K:d8)(i:Nat)(l:List Nat)(j:Nat):List Nat:=ey (K.X i) ((cellsOf (K.X i) l).getD j ⟨0,0⟩) l
noncomputable def d8.bt (K:d8):Nat->List Nat->Ay
 |0,_=>QK
 |n+1,l=>by classical exact if K.can n l then d8.bt K n l else Jw (mi (K.sp n l) K.nl) (cellsOf (K.X (mi (K.sp n l) K.nl)) l) fun j=>d8.bt K n (K.pt (mi (K.sp n l) K.nl) l j)
theorem d8.Yl {K:d8}{n m:Nat}{l:List Nat}(h:K.can n l)(hm:n<=m):K.bt m l=K.bt n l:=by
 obtain⟨d,rfl⟩: ∃d,m=n+d:=⟨m-n,by omega⟩;clear hm
 induction d with
 |zero=>rfl
 |succ d ih=>rw[<-ih];show d8.bt K (n+d+1) l=_;rw[d8.bt,if_pos (d8.Wt h (by omega))]
theorem IZ {cs:List AF}{j:Nat}(h:j<cs.length):cs.getD j ⟨0,0⟩∈cs:=by rw[AA,AB h];exact List.getElem_mem h
def d8.t4 (K:d8)(n:Nat)(l:List Nat):Prop:=K.can n l/\ ∀m,m<n-> ¬K.can m l
theorem d8.Xo {K:d8}{l:List Nat}: ∀{n:Nat},K.can n l-> ∃m,m<=n/\K.t4 m l:=by
 intro n
 induction n using Nat.strongRecOn with
 |ind n ih=>
  intro h;by_cases g: ∃m,m<n/\K.can m l
  ·obtain⟨m,h1,h2⟩:=g;obtain⟨k,h3,h4⟩:=ih m h1 h2;exact⟨k,by omega,h4⟩
  ·exact⟨n,AO _,h,fun m hm hc=>g ⟨m,hm,hc⟩⟩
theorem d8.t4.uniq {K:d8}{l:List Nat}{n m:Nat}(h:K.t4 n l)(h':K.t4 m l):n=m:=by
 rcases AX n m with e|e|e
 ·exact absurd h.1 (h'.2 n e)
 ·exact e
 ·exact absurd h'.1 (h.2 m e)
theorem d8.t4.dec {K:d8}{l:List Nat}{n:Nat}(h:K.t4 (n+1) l): ¬zy K.G l:=fun hd=>h.2 0 (by omega) hd
theorem d8.t4.fst {K:d8}{l:List Nat}{n:Nat}(h:K.t4 (n+1) l):mi (K.sp n l) K.nl<K.nl/\K.sp n l (mi (K.sp n l) K.nl)/\K.bt (n+1) l=Jw (mi (K.sp n l) K.nl) (cellsOf (K.X (mi (K.sp n l) K.nl)) l) fun j=>K.bt n (K.pt (mi (K.sp n l) K.nl) l j):=by
 have h1: ∃i,i<K.nl/\K.sp n l i:=by
  rcases h.1 with hd|⟨i,h1,h2,h3⟩
  ·exact absurd hd h.dec
  ·exact⟨i,h1,h2,h3⟩
 obtain⟨i,hi,hs⟩:=h1;obtain⟨g1,g2,g3⟩:=OR (K.sp n l) K.nl;have hlt:mi (K.sp n l) K.nl<K.nl:=Ac fun hn=>g3 i (by omega) hs;exact⟨hlt,g2 hlt,by rw[d8.bt,if_neg (h.2 n (by omega))]⟩
theorem d8.WW {K:d8}{l:List Nat}{n i:Nat}(h:K.sp n l i){j:Nat}(hj:j<(cellsOf (K.X i) l).length):K.can n (K.pt i l j):=h.2 _ (IZ hj)
theorem k0n (X:Nat->AF)(cs:List AF)(hn:cs.Nodup): ∀l:List Nat,(∀p,p∈l->X p∈cs)->(cs.map fun v=>(ey X v l).length).sum=l.length
 |[],_=>by
  have: ∀cs:List AF,(cs.map fun v=>(ey X v []).length).sum=0:=fun cs=>by
   induction cs with
   |nil=>rfl
   |cons c cs ih=>simp only[AK,Aj,ih];rfl
  exact this cs
 |p::l,h=>by
  have ih:=k0n X cs hn l fun q hq=>h q (AH _ hq);have hp:=h p (by simp);have: ∀cs:List AF,cs.Nodup->(cs.map fun v=>(ey X v (p::l)).length).sum=(cs.map fun v=>(ey X v l).length).sum+if X p∈cs then 1 else 0:=by
   intro cs
   induction cs with
   |nil=>intro _;simp
   |cons c cs ih=>
    intro hn;obtain⟨h1,h2⟩:=List.nodup_cons.1 hn;simp only[AK,Aj,ih h2];by_cases e:X p=c
    ·subst e;have e1:(ey X (X p) (p::l)).length=(ey X (X p) l).length+1:=by simp[ey]
     rw[e1,if_neg h1,if_pos (by simp)];omega
    ·have e1:(ey X c (p::l)).length=(ey X c l).length:=by simp[ey,e]
     have e2:(X p∈c::cs)↔X p∈cs:=by simp[e]
     rw[e1];simp only[e2];omega
  rw[this cs hn,ih,if_pos hp];simp
theorem Ow (X:Nat->AF)(l:List Nat):(cellsOf X l).length<=l.length:=by
 have h:=k0n X (cellsOf X l) (UL (MG X l)) l fun p hp=>wk.2 ⟨p,hp,rfl⟩;rw[<-h];have: ∀cs:List AF,(∀v,v∈cs->1<=(ey X v l).length)->cs.length<=(cs.map fun v=>(ey X v l).length).sum:=by
  intro cs
  induction cs with
  |nil=>intro _;simp
  |cons c cs ih=>intro h;have:=ih fun v hv=>h v (AH _ hv);have:=h c (by simp);simp only[Aa,AK,Aj];omega
 exact this _ fun v hv=>AS.2 (j9e hv)
theorem d8.XI (K:d8): ∀(us:List Nat) (l:List Nat) (n:Nat),(∀i,i<K.nl->K.A i=Ag->i∉us->G0 (K.X i) l)->K.can n l->K.can us.length l:=by
 intro us
 induction hu:us.length generalizing us with
 |zero=>
  intro l n h hc;have:us=[]:=List.length_eq_zero_iff.1 hu;subst this;have hz: ∀n,K.can n l->zy K.G l:=fun n=>by
   induction n with
   |zero=>exact fun h=>h
   |succ n ih=>
    rintro (hd|⟨i,h1,h2,h3⟩)
    ·exact hd
    ·by_cases hl:l=[]
     ·subst hl;exact fun p hp=>absurd hp (by simp)
     obtain⟨p,hp⟩:=AC l hl;have hv:K.X i p∈cellsOf (K.X i) l:=wk.2 ⟨p,hp,rfl⟩;have:=h3 _ hv;rw[(h i h1 h2 (by simp)).part hv] at this;exact ih this
  exact hz n hc
 |succ k ih=>
  intro l n h hc;obtain⟨m,_,hm⟩:=d8.Xo hc;cases m with
  |zero=>exact d8.Xl hm.1 _
  |succ m=>
   rcases hm.1 with hd|⟨i,h1,h2,h3⟩
   ·exact absurd hd hm.dec
   by_cases hi:i∈us
   ·refine .inr ⟨i,h1,h2,fun v hv=> ?_⟩;refine ih (us.erase i) (by rw[List.length_erase_of_mem hi];omega) _ m (fun i' g1 g2 g3=> ?_) (h3 v hv);by_cases e:i'=i
    ·subst e;exact k0v
    ·exact (h i' g1 g2 fun gm=>g3 ((List.mem_erase_of_ne e).2 gm)).sub fun p hp=>(Kw.1 hp).1
   ·exfalso;by_cases hl:l=[]
    ·subst hl;exact hm.dec fun p hp=>absurd hp (by simp)
    obtain⟨p,hp⟩:=AC l hl;have hv:K.X i p∈cellsOf (K.X i) l:=wk.2 ⟨p,hp,rfl⟩;have:=h3 _ hv;rw[(h i h1 h2 hi).part hv] at this;exact hm.2 m (by omega) this
def d8.wo (K:d8)(i:Nat):d8:=⟨K.nl,fun j=>K.A j&&decide (j≠i),K.X,K.G⟩
theorem Kx {X:Nat->AF}{v:AF}{l:List Nat}: ∀p,p∈ey X v l->p∈l:=fun _ h=>(Kw.1 h).1
theorem d8.In {K:d8}{i:Nat}: ∀{n:Nat} {l:List Nat},G0 (K.X i) l->((K.wo i).can n l↔K.can n l)
 |0,_,_=>Iff.rfl
 |n+1,l,hf=>by
  constructor
  ·rintro (h|⟨j,h1,h2,h3⟩)
   ·exact .inl h
   ·exact .inr ⟨j,h1,(AM.1 h2).1,fun v hv=>(d8.In (hf.sub Kx)).1 (h3 v hv)⟩
  ·rintro (h|⟨j,h1,h2,h3⟩)
   ·exact .inl h
   ·by_cases e:j=i
    ·subst e;by_cases hl:l=[]
     ·subst hl;exact .inl fun p hp=>absurd hp (by simp)
     ·obtain⟨p,hp⟩:=AC l hl;have hv:K.X j p∈cellsOf (K.X j) l:=wk.2 ⟨p,hp,rfl⟩;have:=h3 _ hv;rw[hf.part hv] at this;exact d8.Wu ((d8.In hf).2 this)
    ·exact .inr ⟨j,h1,AM.2 ⟨h2,decide_eq_true e⟩,fun v hv=>(d8.In (hf.sub Kx)).2 (h3 v hv)⟩
theorem d8.Yh {K:d8}{i n:Nat}{l:List Nat}(hf:G0 (K.X i) l):(K.wo i).t4 n l↔K.t4 n l:=by unfold d8.t4;rw[d8.In hf];exact and_congr_right fun _=>forall_congr' fun m=>imp_congr_right fun _=>not_congr (d8.In hf)
theorem d8.X5 {K:d8}{i:Nat}: ∀{n:Nat} {l:List Nat},G0 (K.X i) l->(K.wo i).bt n l=K.bt n l
 |0,_,_=>rfl
 |n+1,l,hf=>by
  by_cases hc:K.can n l
  ·rw[d8.bt,d8.bt,if_pos hc,if_pos ((d8.In hf).2 hc)];exact d8.X5 hf
  ·have Nk: ∀j,(K.wo i).sp n l j↔K.sp n l j:=fun j=>by
    constructor
    ·rintro⟨h1,h2⟩;exact⟨(AM.1 h1).1,fun v hv=>(d8.In (hf.sub Kx)).1 (h2 v hv)⟩
    ·rintro⟨h1,h2⟩;by_cases e:j=i
     ·subst e;exfalso;by_cases hl:l=[]
      ·subst hl;exact hc (d8.Xl (fun p hp=>absurd hp (by simp)) n)
      ·obtain⟨p,hp⟩:=AC l hl;have hv:K.X j p∈cellsOf (K.X j) l:=wk.2 ⟨p,hp,rfl⟩;have:=h2 _ hv;rw[hf.part hv] at this;exact hc this
     ·exact⟨AM.2 ⟨h1,decide_eq_true e⟩,fun v hv=>(d8.In (hf.sub Kx)).2 (h2 v hv)⟩
   have Jf:mi ((K.wo i).sp n l) (K.wo i).nl=mi (K.sp n l) K.nl:=k0r (n:=K.nl) fun j _=>Nk j;rw[d8.bt,d8.bt,if_neg hc,if_neg (fun h=>hc ((d8.In hf).1 h)),Jf];show Jw _ (cellsOf (K.X _) l) (fun j=>(K.wo i).bt n (K.pt _ l j))=_;congr 1;funext j;exact d8.X5 (hf.sub Kx)
theorem Ov {X Y:Nat->AF}{l:List Nat}(h: ∀p,p∈l->X p=Y p):cellsOf X l=cellsOf Y l:=
 UK (MG X l) (MG Y l) fun v=>by
  rw[wk,wk];exact exists_congr fun p=>and_congr_right fun hp=>by rw[h p hp]
theorem j9d {X Y:Nat->AF}{v:AF}{l:List Nat}(h: ∀p,p∈l->X p=Y p):ey X v l=ey Y v l:=List.filter_congr fun p hp=>by rw[h p hp]
structure d8.same (K K':d8)(l:List Nat):Prop where
 nl:K.nl=K'.nl
 A: ∀i,i<K.nl->K.A i=K'.A i
 X: ∀i,i<K.nl-> ∀p,p∈l->K.X i p=K'.X i p
 G: ∀p,p∈l-> ∀q,q∈l->(K.G p=K.G q↔K'.G p=K'.G q)
theorem d8.same.sub {K K':d8}{l m:List Nat}(h:K.same K' l)(hs: ∀p,p∈m->p∈l):K.same K' m:=⟨h.nl,h.A,fun i hi p hp=>h.X i hi p (hs p hp),fun p hp q hq=>h.G p (hs p hp) q (hs q hq)⟩
theorem d8.same.dec {K K':d8}{l:List Nat}(h:K.same K' l):zy K.G l↔zy K'.G l:=
 ⟨fun hd p hp q hq=>(h.G p hp q hq).1 (hd p hp q hq),fun hd p hp q hq=>(h.G p hp q hq).2 (hd p hp q hq)⟩
theorem d8.same.can {K K':d8}: ∀{n:Nat} {l:List Nat},K.same K' l->(K.can n l↔K'.can n l)
 |0,_,h=>h.dec
 |n+1,l,h=>or_congr h.dec (exists_congr fun i=>by
  rw[<-h.nl];refine and_congr_right fun hi=> ?_;rw[h.A i hi,Ov (h.X i hi)];refine and_congr_right fun _=>forall_congr' fun v=>imp_congr_right fun _=> ?_;rw[j9d (h.X i hi)];exact d8.same.can (h.sub Kx))
theorem d8.same.t4 {K K':d8}{n:Nat}{l:List Nat}(h:K.same K' l):K.t4 n l↔K'.t4 n l:=by unfold d8.t4;rw[h.can];exact and_congr_right fun _=>forall_congr' fun m=>imp_congr_right fun _=>not_congr h.can
theorem d8.same.sp {K K':d8}{n i:Nat}{l:List Nat}(h:K.same K' l)(hi:i<K.nl):K.sp n l i↔K'.sp n l i:=by unfold d8.sp;rw[h.A i hi,Ov (h.X i hi)];refine and_congr_right fun _=>forall_congr' fun v=>imp_congr_right fun _=> ?_;rw[j9d (h.X i hi)];exact (h.sub Kx).can
theorem d8.same.bt {K K':d8}: ∀{n:Nat} {l:List Nat},K.same K' l->K.can n l->K.bt n l=K'.bt n l
 |0,_,_,_=>rfl
 |n+1,l,h,hc=>by
  by_cases hn:K.can n l
  ·rw[d8.bt,d8.bt,if_pos hn,if_pos (h.can.1 hn)];exact d8.same.bt h hn
  ·have hm:K.t4 (n+1) l:=⟨hc,fun m hm qq=>hn (d8.Wt qq (by omega))⟩;obtain⟨f1,f2,f3⟩:=hm.fst;obtain⟨g1,g2,g3⟩:=(h.t4.1 hm).fst;have e:mi (K.sp n l) K.nl=mi (K'.sp n l) K'.nl:=by rw[<-h.nl];exact k0r fun i hi=>h.sp hi
   rw[f3,g3,<-e];rw[Ov (h.X _ f1)];refine k1i fun j hj=> ?_;have hp:K.pt (mi (K.sp n l) K.nl) l j=K'.pt (mi (K.sp n l) K.nl) l j:=by unfold d8.pt;rw[Ov (h.X _ f1),j9d (h.X _ f1)]
   rw[<-hp];exact d8.same.bt (h.sub Kx) (d8.WW f2 (by rw[Ov (h.X _ f1)];exact hj))
def d8.res (K:d8)(l:List Nat)(z:Bool)(d:Nat)(r:Ay):Prop:=
 (z=Ag->K.t4 d l/\r=K.bt d l)/\(z=AQ->d=0/\r= .none/\ ∀n,¬K.can n l)
theorem d8.YH (K:d8)(l:List Nat): ∃z d r,K.res l z d r:=by
 by_cases h: ∃n,K.can n l
 ·obtain⟨n,hn⟩:=h;obtain⟨m,_,hm⟩:=d8.Xo hn;exact⟨Ag,m,K.bt m l,⟨fun _=>⟨hm,rfl⟩,fun h=>(by cases h)⟩⟩
 ·exact⟨AQ,0,.none,⟨fun h=>(by cases h),fun _=>⟨rfl,rfl,fun n hn=>h ⟨n,hn⟩⟩⟩⟩
theorem d8.YI {K:d8}{i:Nat}{l:List Nat}{z:Bool}{d:Nat}{r:Ay}(hf:G0 (K.X i) l):(K.wo i).res l z d r↔K.res l z d r:=by unfold d8.res;rw[d8.Yh hf,d8.X5 hf];exact and_congr_right fun _=>imp_congr_right fun _=>and_congr_right fun _=>and_congr_right fun _=>forall_congr' fun m=>not_congr (d8.In hf)
theorem d8.XW {K:d8}{l:List Nat}{z z':Bool}{d d':Nat}{r r':Ay}(h:K.res l z d r)(h':K.res l z' d' r'):z=z'/\d=d'/\r=r':=by
 cases z with
 |true=>
  obtain⟨h1,h2⟩:=h.1 rfl;cases z' with
  |true=>obtain⟨h3,h4⟩:=h'.1 rfl;obtain rfl:=h1.uniq h3;exact⟨rfl,rfl,h2.trans h4.symm⟩
  |false=>exact absurd h1.1 ((h'.2 rfl).2.2 d)
 |false=>
  obtain⟨h1,h2,h3⟩:=h.2 rfl;cases z' with
  |true=>exact absurd (h'.1 rfl).1.1 (h3 d')
  |false=>obtain⟨h4,h5,_⟩:=h'.2 rfl;exact⟨rfl,h1.trans h4.symm,h2.trans h5.symm⟩
theorem d8.same.res {K K':d8}{l:List Nat}{z:Bool}{d:Nat}{r:Ay}(h:K.same K' l):K.res l z d r↔K'.res l z d r:=by
 unfold d8.res;refine and_congr (imp_congr_right fun _=> ?_) (imp_congr_right fun _=>and_congr_right fun _=>and_congr_right fun _=>forall_congr' fun n=>not_congr h.can);rw[h.t4];exact and_congr_right fun hm=>by rw[h.bt (h.t4.2 hm).1]
def d8.upto (K:d8)(l:List Nat)(i:Nat)(is:Bool)(d j:Nat):Prop:=
 (is=AQ-> ∀a,a<i-> ∀n,¬K.sp n l a)/\(is=Ag->j<i/\K.sp d l j/\(∀a,a<i-> ∀m,m<d-> ¬K.sp m l a)/\ ∀a,a<j-> ¬K.sp d l a)
theorem d8.Y5 (K:d8)(l:List Nat):K.upto l 0 AQ 0 0:=⟨fun _ a ha=>absurd ha (AR a),fun h=>(by cases h)⟩
theorem d8.Yg {K:d8}{l:List Nat}{i d j:Nat}{is:Bool}(h:K.upto l i is d j)(hn: ∀n,¬K.sp n l i):K.upto l (i+1) is d j:=
 ⟨fun e a ha n=>by
   by_cases e2:a=i
   ·subst e2;exact hn n
   ·exact h.1 e a (by omega) n,fun e=>by
   obtain⟨h1,h2,h3,h4⟩:=h.2 e;refine⟨by omega,h2,fun a ha m hm=> ?_,h4⟩;by_cases e2:a=i
   ·subst e2;exact hn m
   ·exact h3 a (by omega) m hm⟩
theorem d8.X3 {K:d8}{l:List Nat}{i d j e:Nat}{is:Bool}(h:K.upto l i is d j)(h1:K.sp e l i)(h2: ∀m,m<e-> ¬K.sp m l i)(hb:is=Ag->e<d):K.upto l (i+1) Ag e i:=
 ⟨fun h=>(by cases h),fun _=>⟨by omega,h1,fun a ha m hm=>by
   by_cases e2:a=i
   ·subst e2;exact h2 m hm
   ·cases is with
    |false=>exact h.1 rfl a (by omega) m
    |true=>exact (h.2 rfl).2.2.1 a (by omega) m (by have:=hb rfl;omega),fun a ha=>by
   cases is with
   |false=>exact h.1 rfl a (by omega) e
   |true=>exact (h.2 rfl).2.2.1 a (by omega) e (hb rfl)⟩⟩
theorem d8.X4 {K:d8}{l:List Nat}{i d j e:Nat}(h:K.upto l i Ag d j)(h2: ∀m,m<e-> ¬K.sp m l i)(hb:d<=e):K.upto l (i+1) Ag d j:=
 ⟨fun h=>(by cases h),fun _=>by
   obtain⟨g1,g2,g3,g4⟩:=h.2 rfl;refine⟨by omega,g2,fun a ha m hm=> ?_,g4⟩;by_cases e2:a=i
   ·subst e2;exact h2 m (by omega)
   ·exact g3 a (by omega) m hm⟩
theorem d8.X2 {K:d8}{l:List Nat}{d j:Nat}{is:Bool}(h:K.upto l K.nl is d j)(hd: ¬zy K.G l):(is=AQ-> ∀n,¬K.can n l)/\(is=Ag->K.t4 (d+1) l/\K.bt (d+1) l=Jw j (cellsOf (K.X j) l) fun t=>K.bt d (K.pt j l t)):=by
 constructor
 ·intro e n hn;cases n with
  |zero=>exact hd hn
  |succ n=>
   rcases hn with hn|⟨a,h1,h2,h3⟩
   ·exact hd hn
   ·exact h.1 e a h1 n ⟨h2,h3⟩
 ·intro e;obtain⟨h1,h2,h3,h4⟩:=h.2 e;have hm:K.t4 (d+1) l:=⟨.inr ⟨j,h1,h2.1,h2.2⟩,fun m hm hc=>by
   cases m with
   |zero=>exact hd hc
   |succ m=>
    rcases hc with hc|⟨a,g1,g2,g3⟩
    ·exact hd hc
    ·exact h3 a g1 m (by omega) ⟨g2,g3⟩⟩
  obtain⟨f1,f2,f3⟩:=hm.fst;have:mi (K.sp d l) K.nl=j:=k1g h1 h2 h4;rw[this] at f3;exact⟨hm,f3⟩
def Xy (D:Nat->Nat):Nat->Nat
 |0=>0
 |p+1=>max (Xy D p) (D p)
theorem k2n {D:Nat->Nat}: ∀{p j:Nat},j<p->D j<=Xy D p
 |0,j,h=>absurd h (AR j)
 |p+1,j,h=>by
  simp only[Xy];by_cases e:j=p
  ·subst e;omega
  ·have:=k2n (D:=D) (show j<p by omega);omega
theorem k2j {D:Nat->Nat}: ∀{p:Nat},0<p-> ∃j,j<p/\Xy D p=D j
 |0,h=>absurd h (Ak 0)
 |p+1,_=>by
  by_cases h:Xy D p<=D p
  ·exact⟨p,At p,by simp only[Xy];omega⟩
  ·rcases Nat.eq_zero_or_pos p with e|e
   ·subst e;simp only[Xy] at h;omega
   ·obtain⟨j,h1,h2⟩:=k2j (D:=D) e;exact⟨j,by omega,by simp only[Xy];omega⟩
theorem k3l {D:Nat->Nat}{B:Nat}: ∀{p:Nat},(∀j,j<p->D j<=B)->Xy D p<=B
 |0,_=>Ap _
 |p+1,h=>by have:=k3l (D:=D) (B:=B) (p:=p) fun j hj=>h j (by omega);have:=h p (At p);simp only[Xy];omega
theorem k1f {cs:List AF}{v:AF}(h:v∈cs): ∃j,j<cs.length/\cs.getD j ⟨0,0⟩=v:=by obtain⟨j,hj,e⟩:=List.getElem_of_mem h;exact⟨j,hj,by rw[AA,AB hj,<-e];rfl⟩
theorem d8.YL {K:d8}{l:List Nat}{i:Nat}(hl:l≠[])(hA:K.A i=Ag){D:Nat->Nat}(hD: ∀j,j<(cellsOf (K.X i) l).length->K.t4 (D j) (K.pt i l j)):
 K.sp (Xy D (cellsOf (K.X i) l).length) l i/\ ∀m,m<Xy D (cellsOf (K.X i) l).length-> ¬K.sp m l i:=by
 refine⟨⟨hA,fun v hv=> ?_⟩,fun m hm h=> ?_⟩
 ·obtain⟨j,hj,rfl⟩:=k1f hv;exact d8.Wt (hD j hj).1 (k2n hj)
 ·obtain⟨j,hj,e⟩:=k2j (D:=D) (AS.2 (j9y (X:=K.X i) hl));exact (hD j hj).2 m (by omega) (d8.WW h hj)
open Go.Proofs.YtbglklaocjifhaaGreat
def ur (X:Nat->AF)(l:List Nat):List AF:=l.foldl (fun ks p=>if X p∈ks then ks else ks++[X p]) []
theorem K6 (X:Nat->AF)(l:List Nat)(p:Nat):ur X (l++[p])=if X p∈ur X l then ur X l else ur X l++[X p]:=by unfold ur;rw[List.foldl_append];rfl
theorem Se {X:Nat->AF}{v:AF}{l:List Nat}:v∈ur X l↔v∈cellsOf X l:=by
 induction l using NQ with
 |h0=>simp[ur,cellsOf]
 |h1 l p ih=>
  rw[K6,UZ,Ue,<-ih];split
  ·rename_i h;exact⟨.inr,fun h'=>h'.elim (fun e=>e▸h) id⟩
  ·simp only[Au,AU];exact Or.comm
theorem Sf (X:Nat->AF)(l:List Nat):(ur X l).Nodup:=by
 induction l using NQ with
 |h0=>simp[ur]
 |h1 l p ih=>
  rw[K6];split
  ·exact ih
  ·rename_i h;refine List.nodup_append.2 ⟨ih,by simp,fun a ha b hb e=>h ?_⟩;rw[AU] at hb;rw[<-hb,<-e];exact ha
theorem k2i (X:Nat->AF)(l:List Nat):(ur X l).length<=l.length:=by
 induction l using NQ with
 |h0=>simp[ur]
 |h1 l p ih=>rw[K6];split<;>simp<;>omega
def ss (v:AF):List KC:=[.i v.fault,.i v.n]
theorem k1u {v u:AF}(h:ss v=ss u):v=u:=by simp only[ss,List.cons.injEq,KC.i.injEq,and_true] at h;cases v;cases u;simp_all
theorem k0j {ks:List AF}{V:Nat->AV}{v:AF}:(v∉ks-> ∀n,mf (ss v) (ks.map ss) ((AL n ks.length).map V)=Ax/\pw (ss v) (ks.map ss) n=Ax)/\
 (∀j,j<ks.length->ks.getD j ⟨0,0⟩=v->(∀i,i<j->ks.getD i ⟨0,0⟩≠v)-> ∀n,mf (ss v) (ks.map ss) ((AL n ks.length).map V)=AP (V (n+j))/\pw (ss v) (ks.map ss) n=AP (n+j)):=by
 induction ks with
 |nil=>exact⟨fun _ n=>⟨rfl,rfl⟩,fun j hj=>absurd hj (AR j)⟩
 |cons k ks ih=>
  obtain⟨uz,LS⟩:=ih;refine⟨fun h n=> ?_,fun j hj he hn n=> ?_⟩
  ·have h1:ss k≠ss v:=fun e=>h (by rw[k1u e];simp);obtain⟨g1,g2⟩:=uz (fun h'=>h (AH _ h')) (n+1);simp only[AK,Aa,AZ,mf,pw,if_neg h1];exact⟨g1,g2⟩
  ·cases j with
   |zero=>
    have:k=v:=by simpa using he
    subst this;simp[AZ,mf,pw]
   |succ j=>have h1:ss k≠ss v:=fun e=>hn 0 (by omega) (by simpa using k1u e);obtain⟨g1,g2⟩:=LS j (by simpa using hj) (by simpa using he) (fun i hi=>by simpa using hn (i+1) (by omega)) (n+1);simp only[AK,Aa,AZ,mf,pw,if_neg h1];rw[show n+(j+1)=n+1+j by omega];exact⟨g1,g2⟩
def WJ (F:Nat->Nat->AF)(g:Nat->Bool)(q:Nat):List DV:=NR (F q) (g q)
structure G1 where
 i:Nat
 H:List ae
 mv:List Nat
 P:Nat->Nat
def G1.ks (X:Nat->AF)(l:List Nat)(s:G1):List AF:=ur X (l.take s.i)
def G1.pt (X:Nat->AF)(l:List Nat)(s:G1)(j:Nat):List Nat:=ey X ((s.ks X l).getD j ⟨0,0⟩) (l.take s.i)
structure G1.ok (k:Nat)(l:List Nat)(X:Nat->AF)(F:Nat->Nat->AF)(g:Nat->Bool)(C:List ae)(s:G1):Prop where
 hi:s.i<=l.length
 hlen:k+2<=az s.H
 hC:RR k s.H C
 hM:ax s.H k=AP (.dz Ag [.u8,.i64] ((s.ks X l).map ss) ((AL 0 (s.ks X l).length).map fun j=> .bi (s.P j) 9 Ax (s.pt X l j).length AQ))
 hE: ∃ce:Nat->List DV,ax s.H (k+1)=AP (.arr 2 (s.ks X l).length ce)/\ ∀j,j<(s.ks X l).length->ce j=((s.ks X l).getD j ⟨0,0⟩).row
 hP: ∀j,j<(s.ks X l).length->k+2<=s.P j/\ ∃pe:Nat->List DV,ax s.H (s.P j)=AP (.arr 9 (s.pt X l j).length pe)/\ ∀i,i<(s.pt X l j).length->pe i=WJ F g ((s.pt X l j).getD i 0)
 Vx: ∀j j',j<(s.ks X l).length->j'<(s.ks X l).length->s.P j=s.P j'->j=j'
 Wl: ∀x,x∈s.mv->k<=x
theorem Ua {l:List Nat}{i:Nat}(h:i<l.length):l.take (i+1)=l.take i++[l.getD i 0]:=by rw[List.take_add_one,AB h,AA,AB h];rfl
theorem k0f {ks:List AF}{x:AF}{j:Nat}(h:j<ks.length):(ks++[x]).getD j ⟨0,0⟩=ks.getD j ⟨0,0⟩:=by rw[AA,AA,Ai h]
theorem k0h {ks:List AF}{x:AF}:(ks++[x]).getD ks.length ⟨0,0⟩=x:=by rw[AA,Ae (AO _)];simp
theorem k0b {ks:List Nat}{x j:Nat}(h:j<ks.length):(ks++[x]).getD j 0=ks.getD j 0:=by rw[AA,AA,Ai h]
theorem k0a {ks:List Nat}{x:Nat}:(ks++[x]).getD ks.length 0=x:=by rw[AA,Ae (AO _)];simp
section
variable {k:Nat} {l:List Nat} {X:Nat->AF} {F:Nat->Nat->AF} {g:Nat->Bool} {C:List ae} {i M:Nat} {H H':List ae} {mv:List Nat} {P:Nat->Nat} {q:Nat} {KS:List AF}
theorem G1.YC (hR:G1.ok k l X F g C ⟨i,H,mv,P⟩)(hi:i<l.length)(wx:az C=k)(hCf: ∀x o i,x<k->ax C x=AP o->k<=i->o.forget i AQ=o)(hM:az H=M)(hq:l.getD i 0=q)(jg:ur X (l.take i)=KS)(aq:X q∉KS)
 (f1:M+3<=az H') (f2:ax H' k=AP (.dz Ag [.u8,.i64] (ba (KS.map ss) [ss (X q)]) (ba ((AL 0 KS.length).map fun j=> .bi (P j) 9 Ax (ey X (KS.getD j ⟨0,0⟩) (l.take i)).length AQ) [.bi (M+2) 9 Ax 1 AQ])))
 (f3: ∃e:Nat->List DV,ax H' (k+1)=AP (.arr 2 (KS.length+1) e)/\(∀ce,ax H (k+1)=AP (.arr 2 KS.length ce)-> ∀j,j<KS.length->e j=ce j)/\e KS.length=(X q).row)
 (f4: ∀x o,x<M->x≠k->x≠k+1->ax H x=AP o->o.forget (k+1) AQ=o->ax H' x=AP o)
 (f5: ∃e:Nat->List DV,ax H' (M+2)=AP (.arr 9 1 e)/\e 0=WJ F g q):
 G1.ok k l X F g C ⟨i+1,H',(k+1)::mv,fun j=>if j=KS.length then M+2 else P j⟩:=by
 obtain⟨_,hlen,hC,GC,⟨ce,Pf,Pg⟩,hP,Vx,Wl⟩:=hR;simp only[G1.ks,G1.pt,jg] at hlen hC GC Pf Pg hP Vx Wl;have ht:l.take (i+1)=l.take i++[q]:=by rw[Ua hi,hq]
 have sj:ur X (l.take (i+1))=KS++[X q]:=by rw[ht,K6,jg,if_neg aq]
 have P7: ∀j,j<KS.length->ey X ((KS++[X q]).getD j ⟨0,0⟩) (l.take (i+1))=ey X (KS.getD j ⟨0,0⟩) (l.take i):=fun j hj=>by rw[k0f hj,ht,NG,if_neg fun e=>aq (by rw[e];exact IZ hj)]
 have hpn:ey X ((KS++[X q]).getD KS.length ⟨0,0⟩) (l.take (i+1))=[q]:=by
  have e2:ey X (X q) (l.take i)=[]:=Ac fun h=>by obtain⟨p,hp⟩:=AC _ h;obtain⟨p1,p2⟩:=Kw.1 hp;exact aq (by rw[<-jg];exact Se.2 (wk.2 ⟨p,p1,p2⟩))
  rw[k0h,ht,NG,if_pos rfl,e2];rfl
 have M6: ∀j,j<KS.length->P j<M:=fun j hj=>by obtain⟨_,pe,h,_⟩:=hP j hj;rw[<-hM];exact Ju h
 have hkM:k+2<=M:=by rw[<-hM];exact hlen
 obtain⟨e3,g1,g2,g3⟩:=f3;obtain⟨e5,g4,g5⟩:=f5;refine⟨hi,by show k+2<=az H';omega,fun x hx=> ?_,?_,⟨e3,?_,fun j hj=> ?_⟩,fun j hj=> ?_,fun j j' hj hj' he=> ?_,fun x hx=> ?_⟩
 ·obtain⟨o,ho⟩:=Th (l:=C) (i:=x) (by omega);have:=hC x hx;rw[ho] at this;rw[f4 x o (by omega) (by omega) (by omega) this (hCf x o _ hx ho (by omega)),ho]
 ·simp only[G1.ks,G1.pt,sj];rw[f2];congr 2
  ·rw[fi,Av];rfl
  ·rw[fi,AE,AD,List.range'_concat,Av];congr 1
   ·refine List.map_congr_left fun j hj=> ?_;rw[Ar] at hj;rw[if_neg (by omega),P7 j (by omega)]
   ·simp only[AK,List.map_nil,Ao,Nat.one_mul,if_true,hpn];rfl
 ·simp only[G1.ks,sj,AE,AD];exact g1
 ·simp only[G1.ks,sj,AE,AD] at hj⊢;by_cases ej:j=KS.length
  ·subst ej;rw[g3,k0h]
  ·rw[k0f (by omega),g2 ce Pf j (by omega)];exact Pg j (by omega)
 ·simp only[G1.ks,G1.pt,sj,AE,AD] at hj⊢;by_cases ej:j=KS.length
  ·subst ej;rw[if_pos rfl,hpn];refine⟨by omega,e5,g4,fun i' fw=> ?_⟩;obtain rfl:i'=0:=by simpa using fw
   exact g5
  ·rw[if_neg ej,P7 j (by omega)];obtain⟨h1,pe,h2,h3⟩:=hP j (by omega);exact⟨h1,pe,f4 _ _ (M6 j (by omega)) (by omega) (by omega) h2 rfl,h3⟩
 ·simp only[G1.ks,sj,AE,AD] at hj hj';simp only at he;by_cases ej:j=KS.length<;>by_cases ej':j'=KS.length
  ·omega
  ·rw[if_pos ej,if_neg ej'] at he;have:=M6 j' (by omega);omega
  ·rw[if_neg ej,if_pos ej'] at he;have:=M6 j (by omega);omega
  ·rw[if_neg ej,if_neg ej'] at he;exact Vx j j' (by omega) (by omega) he
 ·rcases AG.1 hx with rfl|hx
  ·omega
  ·exact Wl x hx
theorem G1.YD {c:Nat}(hR:G1.ok k l X F g C ⟨i,H,mv,P⟩)(hi:i<l.length)(wx:az C=k)(hCf: ∀x o i,x<k->ax C x=AP o->k<=i->o.forget i AQ=o)(hM:az H=M)(hq:l.getD i 0=q)(jg:ur X (l.take i)=KS)(hc:c<KS.length)(aq:KS.getD c ⟨0,0⟩=X q)
 (f1:M<=az H') (f2:ax H' k=AP (.dz Ag [.u8,.i64] (KS.map ss) (b8 ((AL 0 KS.length).map fun j=> .bi (P j) 9 Ax (ey X (KS.getD j ⟨0,0⟩) (l.take i)).length AQ) c (.bi (P c) 9 Ax ((ey X (KS.getD c ⟨0,0⟩) (l.take i)).length+1) AQ))))
 (f4: ∀x o,x<M->x≠k->x≠P c->ax H x=AP o->o.forget (P c) AQ=o->ax H' x=AP o)
 (f5: ∃e:Nat->List DV,ax H' (P c)=AP (.arr 9 ((ey X (KS.getD c ⟨0,0⟩) (l.take i)).length+1) e)/\(∀pe,ax H (P c)=AP (.arr 9 (ey X (KS.getD c ⟨0,0⟩) (l.take i)).length pe)-> ∀j,j<(ey X (KS.getD c ⟨0,0⟩) (l.take i)).length->e j=pe j)/\e (ey X (KS.getD c ⟨0,0⟩) (l.take i)).length=WJ F g q):
 G1.ok k l X F g C ⟨i+1,H',P c::mv,P⟩:=by
 obtain⟨_,hlen,hC,GC,⟨ce,Pf,Pg⟩,hP,Vx,Wl⟩:=hR;simp only[G1.ks,G1.pt,jg] at hlen hC GC Pf Pg hP Vx Wl;have ht:l.take (i+1)=l.take i++[q]:=by rw[Ua hi,hq]
 have gm:X q∈KS:=by rw[<-aq];exact IZ hc
 have sj:ur X (l.take (i+1))=KS:=by rw[ht,K6,jg,if_pos gm]
 have im:KS.Nodup:=by rw[<-jg];exact Sf _ _
 have ck: ∀j,j<KS.length->j≠c->X q≠KS.getD j ⟨0,0⟩:=fun j hj PO e=>by
  rw[<-aq,AA,AA,AB hc,AB hj] at e;simp only[Option.getD_some] at e;have hp:=AN.1 im;rcases AX c j with h|h|h
  ·exact hp c j hc hj h e
  ·exact PO h.symm
  ·exact hp j c hj hc h e.symm
 have P7: ∀j,j<KS.length->j≠c->ey X (KS.getD j ⟨0,0⟩) (l.take (i+1))=ey X (KS.getD j ⟨0,0⟩) (l.take i):=fun j hj PO=>by rw[ht,NG,if_neg (ck j hj PO)]
 have hpc:ey X (KS.getD c ⟨0,0⟩) (l.take (i+1))=ey X (KS.getD c ⟨0,0⟩) (l.take i)++[q]:=by rw[ht,NG,if_pos aq.symm]
 have M6: ∀j,j<KS.length->P j<M:=fun j hj=>by obtain⟨_,pe,h,_⟩:=hP j hj;rw[<-hM];exact Ju h
 have hkM:k+2<=M:=by rw[<-hM];exact hlen
 have I9:=(hP c hc).1;obtain⟨e5,g4,g6,g5⟩:=f5;refine⟨hi,by show k+2<=az H';omega,fun x hx=> ?_,?_,⟨ce,?_,?_⟩,fun j hj=> ?_,?_,fun x hx=> ?_⟩
 ·obtain⟨o,ho⟩:=Th (l:=C) (i:=x) (by omega);have:=hC x hx;rw[ho] at this;rw[f4 x o (by omega) (by omega) (by omega) this (hCf x o _ hx ho (by omega)),ho]
 ·simp only[G1.ks,G1.pt,sj];rw[f2];congr 2;rw[fg];refine List.ext_getElem? fun j=> ?_;rw[List.getElem?_set];by_cases ej:c=j
  ·subst ej;have hr:(AL 0 KS.length)[c]? =AP c:=by rw[List.getElem?_range' hc];simp
   rw[if_pos rfl,Aw,List.length_range',if_pos hc,AW,hr];simp only[AY];rw[hpc,AE,AD]
  ·rw[if_neg ej,AW,AW];cases hr:(AL 0 KS.length)[j]? with
   |none=>rfl
   |some t=>
    have ht2:=List.mem_of_getElem? hr;rw[Ar] at ht2;have Jh:=(Ah.1 hr).1;have htj:t=j:=by rw[AB Jh] at hr;simpa using hr.symm
    simp only[AY];rw[P7 t (by omega) (by omega)]
 ·simp only[G1.ks,sj];exact f4 _ _ (by omega) (by omega) (by omega) Pf rfl
 ·simp only[G1.ks,sj];exact Pg
 ·simp only[G1.ks,G1.pt,sj] at hj⊢;by_cases ej:j=c
  ·subst ej;obtain⟨h1,pe,h2,h3⟩:=hP j hj;rw[hpc,AE,AD];refine⟨h1,e5,g4,fun i' fw=> ?_⟩;by_cases ei:i'=(ey X (KS.getD j ⟨0,0⟩) (l.take i)).length
   ·subst ei;rw[g5,k0a]
   ·rw[g6 pe h2 i' (by omega),h3 i' (by omega),k0b (by omega)]
  ·rw[P7 j hj ej];obtain⟨h1,pe,h2,h3⟩:=hP j hj;exact⟨h1,pe,f4 _ _ (M6 j hj) (by omega) (fun e=>ej (Vx j c hj hc e)) h2 rfl,h3⟩
 ·simp only[G1.ks,sj];exact Vx
 ·rcases AG.1 hx with rfl|hx
  ·omega
  ·exact Wl x hx
end
open Go Go.Vf Go.Proofs Go.Shelf
def k3u:Ren where
 f:=fun
  |6=>173|15=>191|14=>204|28=>225|29=>226|20=>243|21=>244|22=>245|23=>246|24=>247|25=>248|26=>249|27=>250|46=>267|47=>257|48=>258|49=>268|50=>269|57=>272
  |n=>n
 t:=fun
  |22=>24|24=>77|25=>203|3=>3|39=>227|0=>0|53=>254|55=>257|4=>4|46=>268|45=>267|50=>119|5=>5|9=>9|66=>294|70=>298|76=>307|77=>308
  |n=>n
 g:=fun n=>n
theorem yo {P:Program}{f:FuncId}{B fn:Func}(h:P.funcs[f]? =AP fn)(hn:(fn.name== "runtime.NumGoroutine")=AQ)(e:AP {B with name:=fn.name}=AP fn):Bears P f B:=⟨fn.name,hn,h.trans e.symm⟩
theorem k3s:SlLaysF0.n6 Tryz.prog k3u:=by
 constructor
 all_goals first|kernel_rfl|(intro w;kernel_rfl)|exact yo Tryz.func173 (by kernel_rfl) (by kernel_rfl)|exact yo Tryz.func204 (by kernel_rfl) (by kernel_rfl)|exact yo Tryz.func243 (by kernel_rfl) (by kernel_rfl)|exact yo Tryz.func244 (by kernel_rfl) (by kernel_rfl)|exact yo Tryz.func245 (by kernel_rfl) (by kernel_rfl)|exact yo Tryz.func246 (by kernel_rfl) (by kernel_rfl)|exact yo Tryz.func247 (by kernel_rfl) (by kernel_rfl)|exact yo Tryz.func248 (by kernel_rfl) (by kernel_rfl)|exact yo Tryz.func249 (by kernel_rfl) (by kernel_rfl)|exact yo Tryz.func250 (by kernel_rfl) (by kernel_rfl)|exact yo Tryz.func267 (by kernel_rfl) (by kernel_rfl)|exact yo Tryz.func268 (by kernel_rfl) (by kernel_rfl)|exact yo Tryz.func269 (by kernel_rfl) (by kernel_rfl)|exact yo Tryz.func272 (by kernel_rfl) (by kernel_rfl)
open Go Go.Vf Go.Proofs Go.Shelf Go.RowKit Go.Lib Go.Sort
theorem k2e {w w':World}(h:H5 w w'): ∃q os',w'=grow (w.drewN q) os':=by
 obtain⟨h1,⟨h2,h3⟩,h4,h5,h6⟩:=h;obtain⟨hp,tp,dr,os,ou⟩:=w;obtain⟨Ij,tp',dr',os',ou'⟩:=w';simp only at h1 h2 h3 h4 h5 h6;subst h1 h2 h4;refine⟨dr'-dr,Ij.extract hp.size Ij.size,?_⟩;simp only[grow,World.drewN];congr 1
 ·refine Array.ext_getElem? fun i=> ?_;rw[An];split
  ·rename_i h;exact h6 i h
  ·rename_i h;rw[Array.getElem?_extract];by_cases hi:i<Ij.size
   ·rw[if_pos (by omega)];congr 1;omega
   ·rw[if_neg (by omega),Array.getElem?_eq_none (by omega)]
 ·omega
abbrev X9:={v:AF//gb v/\0<=v.fault}
instance:Inhabited X9:=⟨⟨⟨0,0⟩,by simp[gb]⟩⟩
def vd (x:X9):List Value:=[.int .u8 x.1.fault,.int .i64 x.1.n]
def MF (x y:X9):Int:=if x.1=y.1 then 0 else if As x.1 y.1 then-1 else 1
theorem R0 (x y:X9):ltOf MF x y=decide (As x.1 y.1):=by
 unfold ltOf MF;by_cases h:x.1=y.1
 ·rw[if_pos h,h];simp[NY]
 ·rw[if_neg h];by_cases h2:As x.1 y.1<;>simp[h2]
theorem k4k:SWO (ltOf MF) where
 irrefl x:=by rw[R0];simp[NY]
 trans x y z h1 h2:=by rw[R0] at*;simp at*;exact Uf h1 h2
 ntrans x y z h1 h2:=by
  rw[R0] at*
  simp at*
  intro h;by_cases e:x.1=y.1
  ·rw[e] at h;exact h2 h
  ·exact h2 (Uf (k1m h1 e) h)
theorem k2p (V2 off size:Nat)(w:World):CmpLays Tryz.prog 149 #[] vd 2 MF V2 off size w:=fun m os dk hs x y=>by
 have h:=c9s x.1 y.1 x.2.2 y.2.2 x.2.1 y.2.1 (MF x y) rfl;generalize sortWorldK vd 2 w V2 off m dk os=W;refine (h.2 W (fun _=>False) _ (fun _ h=>h.elim) ⟨rfl,fun i z u hz hu=> ?_⟩).mono fun e w' hR=> ?_
 ·have kr: ∀c:X9,VR W (fun _=>False) my c.1.av (.agg (vd c).toArray):=fun c=>by
   refine .agg _ _ rfl fun j z u hz hu=> ?_
   match j,hz,hu with
   |0,hz,hu=>simp[vd] at hz hu;subst hz;subst hu;exact .d (.int _ _)
   |1,hz,hu=>simp[vd] at hz hu;subst hz;subst hu;exact .d (.int _ _)
  match i,hz,hu with
  |0,hz,hu=>simp at hz hu;subst hz;subst hu;exact kr x
  |1,hz,hu=>simp at hz hu;subst hz;subst hu;exact kr y
 ·obtain⟨v,S',h1,h2,_,h3⟩:=hR;cases h2 with
  |d h2=>cases h2;exact⟨h1,k2e h3⟩
noncomputable def R1 (v:AF):X9:=by classical exact if h:gb v/\0<=v.fault then⟨v,h⟩ else default
theorem k1w {v:AF}(h:gb v/\0<=v.fault):(R1 v).1=v:=by unfold R1;rw[dif_pos h]
noncomputable def GY (n:Nat)(f:Nat->AF):Array X9:=((AI n).map fun i=>R1 (f i)).toArray
theorem JP (n:Nat)(f:Nat->AF):(GY n f).size=n:=by simp[GY]
theorem k2u {n i:Nat}(f:Nat->AF)(h:i<n):(GY n f)[i]! =R1 (f i):=by rw[getElem!_pos _ i (by rw[JP];exact h)];simp[GY]
theorem k2f {w:World}{S:Nat->Prop}{ρ:lw}{b C n:Nat}{e:Nat->List DV}(hs:v4 w S ρ [.arr 2 n e])(hρ:ρ 0=AP (AP b,C))(d':Array X9)(hd:d'.size=n)(m:Nat)(os:Array Obj):
 ∃S',v4 (sortWorldK vd 2 w b 0 m d' os) S' ρ [.arr 2 n fun i=>(d'[i]!).1.row]/\Ext w S ρ (sortWorldK vd 2 w b 0 m d' os) S' ρ:=by
 obtain⟨o,ho,hh⟩:=hs.obj 0 _ C hρ;simp at ho;subst ho;obtain⟨cs,ty,h1,h2,h3,h4⟩:=hh;have hblk:b<w.heap.size:=(Ad.1 h1).1;have Qu:(putRowK vd 2 (AT w m) b 0 d').heap[b]? =AP (.cells (putCells id 0 (flatK vd 2 d') cs) ty (0,0)):=by show (w.heap.modify b _)[b]? =_;rw[Am,if_pos rfl,h1];rfl
 have hB:fv (putRowK vd 2 (AT w m) b 0 d') S ρ b C (.arr 2 n fun i=>(d'[i]!).1.row):=by
  refine⟨_,ty,Qu,by simp[putCells,h2],h3,fun i hi=>⟨rfl,fun j x v hx hv=> ?_⟩⟩;have hj:j<2:=(Ah.1 hx).1;have hlt:i*2+j<d'.size*2:=by rw[hd];omega
  have kj:i*2+j<cs.size:=by rw[h2];omega
  rw[putCells,Array.getElem?_mapIdx,Af kj] at hv;simp only[AY,Ap,true_and,Ao,size_flatK,hlt,if_true,Nat.sub_zero,id,Option.some.injEq] at hv;rw[get_flatK _ _ _ _ hlt] at hv;rw[show (i*2+j)/2=i by omega,show (i*2+j) % 2=j by omega] at hv;subst hv
  match j,hx,hj with
  |0,hx,_=>simp[g8.row] at hx;subst hx;exact .int _ _
  |1,hx,_=>simp[g8.row] at hx;subst hx;exact .int _ _
 have c1:=n8.set (w':=putRowK vd 2 (AT w m) b 0 d') (o':= .arr 2 n fun i=>(d'[i]!).1.row) hs hρ (o:= .arr 2 n e) rfl rfl rfl ⟨rfl,Nat.le_add_right _ _⟩ rfl (by show (w.heap.modify b _).size=_;simp)
  (fun k hk=>by show (w.heap.modify b _)[k]? =_;rw[Am,if_neg (Ne.symm hk)]) hB
 have hk:H5 (putRowK vd 2 (AT w m) b 0 d') (sortWorldK vd 2 w b 0 m d' os):=⟨rfl,⟨rfl,AO _⟩,rfl,by simp[sortWorldK,grow],fun k hk=>by
  show ((putRowK vd 2 (AT w m) b 0 d').heap++os)[k]? =_;rw[An,if_pos hk]⟩
 have c2:=TN (S1:=fun _=>False) c1.co (fun _ h=>h.elim) hk;exact⟨_,c2.co,c1.ext.trans c2.ext⟩
def k4l (n:Nat)(f:Nat->AF)(pg:List Nat)(v:AV)(h':List ae):Prop:=
 pg=[]/\v= .tuple []/\ ∃g:Nat->AF,h'=[.arr 2 n fun i=>(g i).row]/\((AI n).map g).Perm ((AI n).map f)/\ ∀i j,i<j->j<n-> ¬As (g j) (g i)
theorem k3y {n:Nat}(h0:0<n)(hn:n<=1000000)(f:Nat->AF)(hf: ∀i,i<n->gb (f i)/\0<=(f i).fault)(e:Nat->List DV)(he: ∀i,i<n->e i=(f i).row):
 ay Tryz.prog 173 [.bi 0 2 Ax n AQ,.fn 149 [] []] [.arr 2 n e] (k4l n f):=by
 obtain⟨fn,c,SH,hb,iw,_⟩:=e9x;refine⟨⟨fn,SH,iw,by rw[hb];simp⟩,fun w S ρ vs hs hv=> ?_⟩;obtain⟨hl,hg⟩:=hv;obtain⟨v0,v1,rfl⟩: ∃a b,vs= #[a,b]:=by
  match vs,hl with
  |⟨[a,b]⟩,_=>exact⟨a,b,rfl⟩
 have g0:=hg 0 _ v0 rfl rfl;have g1:=hg 1 _ v1 rfl rfl;cases g1 with
 |fn _ _ _ us cs nw _ qt _=>
  obtain rfl:us= #[]:=Al.1 nw.symm;obtain rfl:cs= #[]:=Al.1 qt.symm;cases g0 with
  |bi _ _ _ _ _ ob C cap a hρ hc b9 ha=>
   simp only[Option.getD] at hc b9 ha;obtain⟨o,ho,hh⟩:=hs.obj 0 _ C hρ;simp at ho;subst ho;cases ob with
   |none=>have:=hh.1;omega
   |some b=>
    have yw:cap=C:=by rw[b9,if_neg (by decide)];omega
    rw[ha (by omega)];obtain⟨cs,ty,h1,h2,h3,h4⟩:=hh;have hblk:b<w.heap.size:=(Ad.1 h1).1;have hH:HoldsK vd 2 w b 0 (GY n f):=fun t ht=>by
     rw[size_flatK,JP] at ht;have hi:t/2<n:=by omega
     have hj:t % 2<2:=by omega
     have kj:t<cs.size:=by rw[h2];omega
     rw[get_flatK _ _ _ _ (by rw[JP];exact ht),k2u f hi];simp only[World.cell?,World.frozen?,h1,Ao];refine⟨?_,by simp⟩;have ht2:t/2*2+t % 2=t:=by omega
     have:=(h4 (t/2) hi).2 (t % 2);rw[he _ hi] at this;simp only[vd,k1w (hf _ hi),id];rw[ht2] at this;rw[Af kj] at this⊢;simp only[Option.isSome_none,Bool.false_eq_true,if_false];generalize cs[t]=u at this⊢;rcases Nat.lt_or_ge (t % 2) 1 with h|h
     ·have e0:t % 2=0:=by omega
      rw[e0] at this⊢;have h5:=this (.int .u8 (.v (f (t/2)).fault)) _ rfl rfl;cases h5;simp[e0];rfl
     ·have e0:t % 2=1:=by omega
      rw[e0] at this⊢;have h5:=this (.int .i64 (.v (f (t/2)).n)) _ rfl rfl;cases h5;simp[e0];rfl
    have Py:=AnyQ.slices_SortFunc k3s 2 (fun w=>by kernel_rfl) (fun w=>by kernel_rfl) vd (fun _=>rfl) (fun x v hv=>by simp[vd] at hv;rcases hv with rfl|rfl<;>rfl) MF k4k 149 #[] b 0 cap (GY n f) w
     (enters_of Tryz.func149 (by kernel_rfl) rfl) (k2p b 0 _ w) hH hblk (by rw[JP];omega)
    rw[JP] at Py;refine Calls.mono Py fun en w' hR=> ?_;obtain⟨rfl,d',m,os,hp,hso,rfl⟩:=hR;have hd:d'.size=n:=by rw[hp.1,JP]
    obtain⟨S',Ja,hE'⟩:=k2f hs hρ d' hd m os;refine⟨_,.tuple [],[],[.arr 2 n fun i=>(d'[i]!).1.row],S',ρ,rfl,⟨rfl,rfl,fun i=>(d'[i]!).1,rfl,?_,?_⟩,.tuple _ _ rfl (fun i x v h=>by simp at h),Ja,hE',by simp,fun _ _ _=>rfl⟩
    ·have h6:=hp.2.2;have ea:(GY n f).extract 0 n=GY n f:=by
      have:=Aq (xs:=GY n f)
      rwa [JP] at this
     have ed:d'.extract 0 n=d':=by
      have:=Aq (xs:=d')
      rwa [hd] at this
     rw[ea,ed] at h6;have h7:=h6.map (fun x:X9=>x.1);have e1:(AI n).map (fun i=>(d'[i]!).1)=d'.toList.map fun x=>x.1:=by
      refine Ab (by simp[hd]) fun i h1 h2=> ?_;have:i<d'.size:=by simpa using h2
      simp[getElem!_pos d' i this]
     have e2:(AI n).map f=(GY n f).toList.map fun x=>x.1:=by
      refine Ab (by simp[JP]) fun i h1 h2=> ?_;have:i<n:=by simpa using h1
      simp[GY,k1w (hf i this)]
     rw[e1,e2];exact h7
    ·intro i j h1 h2;have h6:=hso i j (Ap _) h1 h2;rw[R0] at h6;simpa using h6
theorem k3c {KS SS:List AF}(h0:KS≠[])(hn:KS.length<=1000000)(hf: ∀v,v∈KS->gb v/\0<=v.fault)(hd:KS.Nodup)(hs:SS.Pairwise As)(hm: ∀v,v∈SS↔v∈KS)(e:Nat->List DV)(he: ∀i,i<KS.length->e i=(KS.getD i ⟨0,0⟩).row):
 ay Tryz.prog 173 [.bi 0 2 Ax KS.length AQ,.fn 149 [] []] [.arr 2 KS.length e] fun pg v h'=>pg=[]/\v= .tuple []/\ ∃e':Nat->List DV,h'=[.arr 2 KS.length e']/\SS.length=KS.length/\ ∀i,i<KS.length->e' i=(SS.getD i ⟨0,0⟩).row:=by
 refine (k3y (AS.2 h0) hn (fun i=>KS.getD i ⟨0,0⟩) (fun i hi=>hf _ (IZ hi)) e he).mono fun pg v h' hr=> ?_;obtain⟨rfl,rfl,g,rfl,hp,ha⟩:=hr;have e1:(AI KS.length).map (fun i=>KS.getD i ⟨0,0⟩)=KS:=Ab (by simp) fun i h1 h2=>by simp[AB h2]
 rw[e1] at hp;have im:((AI KS.length).map g).Nodup:=hp.nodup_iff.2 hd;have Jm:((AI KS.length).map g).Pairwise As:=AN.2 fun i j hi hj yx=>by have h1:=AN.1 im i j hi hj yx;simp only[Aw,List.length_range] at hi hj;simp only[List.getElem_map,List.getElem_range] at h1⊢;exact k1m (ha i j yx hj) (fun e=>h1 e.symm)
 have hss:SS=(AI KS.length).map g:=UK hs Jm fun v=>(hm v).trans hp.mem_iff.symm;have hl:SS.length=KS.length:=by rw[hss];simp
 refine⟨rfl,rfl,_,rfl,hl,fun i hi=> ?_⟩;rw[hss];simp[hi]
end Go.Proofs.Tryz.Run
