/- Where a cell belongs among ascending ones. Conditions: none. -/
import Derived.Test.YtbglklaocjifhaaGreatFJh
import Derived.Shelf.SlSortCmp.WholeK
open List renaming getD_eq_getElem?_getD->AA,getElem?_eq_getElem->AB,exists_mem_of_ne_nil->AC,length_singleton->AD,length_append->AE,mem_cons->AG,mem_cons_of_mem->AH,map_cons->AI,range->AJ,pairwise_cons->AK,range'->AN,pairwise_iff_getElem->AP,length_pos_iff->AT,sum_cons->AU,mem_singleton->AX,getElem?_map->AY,range'_succ->Ab,length_cons->Ac,ext_getElem->Ad,map_append->Af,getElem?_append_right->Ah,getElem?_eq_some_iff->Ak,getElem?_append_left->Al,take_add_one->At,mem_range'_1->Au,mem_append->Ax,length_map->Ay,map_nil->A3
open Go.Proofs.Tryz.Run renaming VaR->AF,vlt->Av,PlR->A6
open Nat renaming le_refl->AM,not_lt_zero->AS,lt_trichotomy->AZ,lt_irrefl->Am,zero_add->Aq,zero_le->Ar,lt_succ_self->Aw,le_trans->A4,mul_add->A5
open Bool renaming and_eq_true_iff->AO,false->AR,true->Aj
open Option renaming some->AQ,map_some->Aa,none->Az
open Go.Sort renaming ahead->AW
open Classical renaming byContradiction->Ae
open Array renaming getElem?_eq_some_iff->Ag,getElem?_eq_getElem->Ai,size_eq_zero_iff->An,getElem?_modify->Ao,getElem?_append->Ap,extract_size->As
set_option linter.unusedSimpArgs false
set_option linter.unusedVariables false
set_option maxRecDepth 100000
namespace Go.Proofs.Tryz.Run
open Go Go.Vf Go.Proofs
instance vltDec (a b:AF):Decidable (Av a b):=inferInstanceAs (Decidable (a.fault<b.fault\/a.fault=b.fault/\a.n<b.n))
theorem j9m (a:AF): ¬Av a a:=by unfold Av;omega
theorem j9w {a b c:AF}:Av a b->Av b c->Av a c:=by unfold Av;omega
theorem k1m {a b:AF}(h: ¬Av a b)(h2:a≠b):Av b a:=by
 unfold Av at*
 have: ¬(a.fault=b.fault/\a.n=b.n):=fun⟨x,y⟩=>h2 (by cases a;cases b;simp_all);omega
def k1d (v:AF):List AF->List AF
 |[]=>[v]
 |c::cs=>if Av c v then c::k1d v cs else if c=v then c::cs else v::c::cs
theorem k0d {v w:AF}: ∀{cs:List AF},w∈k1d v cs↔w=v\/w∈cs
 |[]=>by simp[k1d]
 |c::cs=>by
  unfold k1d;split
  ·simp only[AG,k0d (cs:=cs)];constructor
   ·rintro (h|h|h)<;>simp[h]
   ·rintro (h|h|h)<;>simp[h]
  ·split
   ·rename_i h;subst h;simp
   ·simp
theorem k1s {v:AF}: ∀{cs:List AF},cs.Pairwise Av->(k1d v cs).Pairwise Av
 |[],_=>by simp[k1d]
 |c::cs,h=>by
  obtain⟨h1,h2⟩:=AK.1 h;unfold k1d;split
  ·rename_i hc;refine AK.2 ⟨fun w hw=> ?_,k1s h2⟩;rcases k0d.1 hw with rfl|hw
   ·exact hc
   ·exact h1 w hw
  ·split
   ·exact h
   ·rename_i hc he;have:=k1m hc he;refine AK.2 ⟨fun w hw=> ?_,h⟩;rcases AG.1 hw with rfl|hw
    ·exact this
    ·exact j9w this (h1 w hw)
def cellsOf (X:Nat->AF)(l:List Nat):List AF:=l.foldl (fun cs p=>k1d (X p) cs) []
def j7u (X:Nat->AF)(v:AF)(l:List Nat):List Nat:=l.filter fun p=>decide (X p=v)
theorem j8d (X:Nat->AF)(l:List Nat)(p:Nat):cellsOf X (l++[p])=k1d (X p) (cellsOf X l):=by simp[cellsOf]
theorem j8i (X:Nat->AF)(v:AF)(l:List Nat)(p:Nat):j7u X v (l++[p])=if X p=v then j7u X v l++[p] else j7u X v l:=by unfold j7u;rw[List.filter_append];by_cases h:X p=v<;>simp[h]
theorem j9p {P:List Nat->Prop}(h0:P [])(h1: ∀l p,P l->P (l++[p]))(l:List Nat):P l:=by
 have: ∀m:List Nat,P m.reverse:=fun m=>by
  induction m with
  |nil=>exact h0
  |cons x m ih=>rw[List.reverse_cons];exact h1 _ _ ih
 simpa using this l.reverse
theorem j7x {X:Nat->AF}{v:AF}{l:List Nat}:v∈cellsOf X l↔ ∃p,p∈l/\X p=v:=by
 induction l using j9p with
 |h0=>simp[cellsOf]
 |h1 l p ih=>
  rw[j8d,k0d,ih];constructor
  ·rintro (h|⟨q,hq,h⟩)
   ·exact⟨p,by simp,h.symm⟩
   ·exact⟨q,by simp[hq],h⟩
  ·rintro⟨q,hq,h⟩;rcases Ax.1 hq with hq|hq
   ·exact .inr ⟨q,hq,h⟩
   ·rw[AX] at hq;subst hq;exact .inl h.symm
theorem j8b (X:Nat->AF)(l:List Nat):(cellsOf X l).Pairwise Av:=by
 induction l using j9p with
 |h0=>simp[cellsOf]
 |h1 l p ih=>rw[j8d];exact k1s ih
theorem j9u {l:List AF}(h:l.Pairwise Av):l.Nodup:=h.imp fun {a b} hab=>by intro e;subst e;exact j9m _ hab
theorem k1h: ∀{a b:List AF},a.Pairwise Av->b.Pairwise Av->(∀v,v∈a↔v∈b)->a=b
 |[],[],_,_,_=>rfl
 |[],y::b,_,_,h=>by have:=(h y).2 (by simp);simp at this
 |x::a,[],_,_,h=>by have:=(h x).1 (by simp);simp at this
 |x::a,y::b,ha,hb,h=>by
  obtain⟨a1,a2⟩:=AK.1 ha;obtain⟨b1,b2⟩:=AK.1 hb;have exy:x=y:=by
   rcases AG.1 ((h x).1 (by simp)) with e|e
   ·exact e
   rcases AG.1 ((h y).2 (by simp)) with e'|e'
   ·exact e'.symm
   exact absurd (j9w (b1 x e) (a1 y e')) (j9m y)
  subst exy;refine congrArg _ (k1h a2 b2 fun v=>⟨fun hv=> ?_,fun hv=> ?_⟩)
  ·rcases AG.1 ((h v).1 (AH _ hv)) with e|e
   ·subst e;exact absurd (a1 v hv) (j9m v)
   ·exact e
  ·rcases AG.1 ((h v).2 (AH _ hv)) with e|e
   ·subst e;exact absurd (b1 v hv) (j9m v)
   ·exact e
theorem j8c {X:Nat->AF}{v:AF}{l:List Nat}{p:Nat}:p∈j7u X v l↔p∈l/\X p=v:=by simp[j7u]
theorem j9e {X:Nat->AF}{v:AF}{l:List Nat}(h:v∈cellsOf X l):j7u X v l≠[]:=fun e=>by obtain⟨p,hp,hx⟩:=j7x.1 h;have:p∈j7u X v l:=j8c.2 ⟨hp,hx⟩;rw[e] at this;simp at this
theorem j9y {X:Nat->AF}{l:List Nat}(h:l≠[]):cellsOf X l≠[]:=fun e=>by obtain⟨p,hp⟩:=AC l h;have:=(j7x (X:=X)).2 ⟨p,hp,rfl⟩;rw[e] at this;simp at this
def k0m (X:Nat->AF)(l:List Nat):Prop:= ∀p,p∈l-> ∀q,q∈l->X p=X q
theorem k0m.part {X:Nat->AF}{l:List Nat}(h:k0m X l){v:AF}(hv:v∈cellsOf X l):j7u X v l=l:=by obtain⟨p,hp,hx⟩:=j7x.1 hv;exact List.filter_eq_self.2 fun q hq=>decide_eq_true ((h q hq p hp).trans hx)
theorem k0m.sub {X:Nat->AF}{l m:List Nat}(h:k0m X l)(hs: ∀p,p∈m->p∈l):k0m X m:=fun p hp q hq=>h p (hs p hp) q (hs q hq)
theorem k0v {X:Nat->AF}{v:AF}{l:List Nat}:k0m X (j7u X v l):=fun p hp q hq=>((j8c.1 hp).2).trans (j8c.1 hq).2.symm
structure PbR where
 nl:Nat
 A:Nat->Bool
 X:Nat->Nat->AF
 G:Nat->Bool
def k1e (G:Nat->Bool)(l:List Nat):Prop:= ∀p,p∈l-> ∀q,q∈l->G p=G q
def PbR.can (K:PbR):Nat->List Nat->Prop
 |0,l=>k1e K.G l
 |n+1,l=>k1e K.G l\/ ∃i,i<K.nl/\K.A i=Aj/\ ∀v,v∈cellsOf (K.X i) l->PbR.can K n (j7u (K.X i) v l)
theorem PbR.can_dec {K:PbR}{l:List Nat}(h:k1e K.G l): ∀n,K.can n l
 |0=>h
 |_+1=> .inl h
theorem PbR.can_succ {K:PbR}: ∀{n:Nat} {l:List Nat},K.can n l->K.can (n+1) l
 |0,_,h=> .inl h
 |_+1,_,.inl h=> .inl h
 |_+1,_,.inr ⟨i,h1,h2,h3⟩=> .inr ⟨i,h1,h2,fun v hv=>PbR.can_succ (h3 v hv)⟩
theorem PbR.can_le {K:PbR}{n m:Nat}{l:List Nat}(h:K.can n l)(hm:n<=m):K.can m l:=by
 obtain⟨d,rfl⟩: ∃d,m=n+d:=⟨m-n,by omega⟩;clear hm
 induction d with
 |zero=>exact h
 |succ d ih=>exact PbR.can_succ ih
noncomputable def j9f (P:Nat->Prop):Nat->Nat
 |0=>0
 |n+1=>by classical exact if j9f P n<n then j9f P n else if P n then n else n+1
theorem j9c (P:Nat->Prop): ∀n,j9f P n<=n/\(j9f P n<n->P (j9f P n))/\ ∀j,j<j9f P n-> ¬P j
 |0=>⟨AM _,fun h=>absurd h (Am _),fun j hj=>absurd hj (AS _)⟩
 |n+1=>by
  obtain⟨h1,h2,h3⟩:=j9c P n;unfold j9f;split
  ·rename_i h;exact⟨by omega,fun _=>h2 h,h3⟩
  ·rename_i h;have e:j9f P n=n:=by omega
   rw[e] at h3;split
   ·rename_i h4;exact⟨by omega,fun _=>h4,h3⟩
   ·rename_i h4;refine⟨AM _,fun h=>absurd h (Am _),fun j hj=> ?_⟩;by_cases ej:j=n
    ·subst ej;exact h4
    ·exact h3 j (by omega)
theorem k1g {P:Nat->Prop}{n i:Nat}(hi:i<n)(h:P i)(hj: ∀j,j<i-> ¬P j):j9f P n=i:=by
 obtain⟨h1,h2,h3⟩:=j9c P n;rcases AZ (j9f P n) i with h'|h'|h'
 ·exact absurd (h2 (by omega)) (hj _ h')
 ·exact h'
 ·exact absurd h (h3 i h')
theorem k0r {P Q:Nat->Prop}{n:Nat}(h: ∀i,i<n->(P i↔Q i)):j9f P n=j9f Q n:=by
 obtain⟨h1,h2,h3⟩:=j9c Q n;by_cases hq:j9f Q n<n
 ·exact k1g hq ((h _ hq).2 (h2 hq)) fun j hj h'=>h3 j hj ((h j (by omega)).1 h')
 ·obtain⟨g1,g2,g3⟩:=j9c P n;by_cases hp:j9f P n<n
  ·exact absurd ((h _ hp).1 (g2 hp)) (h3 _ (by omega))
  ·omega
def k0p:A6:= .mk (-1) 0 (fun _=>⟨0,0⟩) 0 fun _=> .none
def j8y (i:Nat)(cs:List AF)(f:Nat->A6):A6:= .mk i cs.length (fun j=>cs.getD j ⟨0,0⟩) cs.length fun j=>if j<cs.length then f j else .none
theorem k1a {i:Nat}{cs:List AF}{f:Nat->A6}{j:Nat}(h:j<cs.length):(j8y i cs f).nx j=f j:=if_pos h
theorem k1i {i:Nat}{cs:List AF}{f g:Nat->A6}(h: ∀j,j<cs.length->f j=g j):j8y i cs f=j8y i cs g:=by
 unfold j8y;congr 1;funext j;split
 ·rename_i hj;exact h j hj
 ·rfl
theorem k0w {f g:Nat->Nat}: ∀{n:Nat},(∀i,i<n->f i=g i)->b9p f n=b9p g n
 |0,_=>rfl
 |n+1,h=>by rw[b9p,b9p,k0w fun i hi=>h i (by omega),h n (by omega)]
theorem k3h {lv i:Nat}{cs:List AF}{f:Nat->A6}:PlR.cnt (lv+1) (j8y i cs f)=cs.length+cs.length+b9p (fun j=>PlR.cnt lv (f j)) cs.length:=by show cs.length+cs.length+b9p (fun j=>PlR.cnt lv ((j8y i cs f).nx j)) cs.length=_;rw[k0w fun j hj=>by rw[k1a hj]]
def PbR.sp (K:PbR)(n:Nat)(l:List Nat)(i:Nat):Prop:=K.A i=Aj/\ ∀v,v∈cellsOf (K.X i) l->K.can n (j7u (K.X i) v l)
def PbR.pt (K:PbR)(i:Nat)(l:List Nat)(j:Nat):List Nat:=j7u (K.X i) ((cellsOf (K.X i) l).getD j ⟨0,0⟩) l
noncomputable def PbR.bt (K:PbR):Nat->List Nat->A6
 |0,_=>k0p
 |n+1,l=>by classical exact if K.can n l then PbR.bt K n l else j8y (j9f (K.sp n l) K.nl) (cellsOf (K.X (j9f (K.sp n l) K.nl)) l) fun j=>PbR.bt K n (K.pt (j9f (K.sp n l) K.nl) l j)
theorem PbR.bt_le {K:PbR}{n m:Nat}{l:List Nat}(h:K.can n l)(hm:n<=m):K.bt m l=K.bt n l:=by
 obtain⟨d,rfl⟩: ∃d,m=n+d:=⟨m-n,by omega⟩;clear hm
 induction d with
 |zero=>rfl
 |succ d ih=>rw[<-ih];show PbR.bt K (n+d+1) l=_;rw[PbR.bt,if_pos (PbR.can_le h (by omega))]
theorem j8e {cs:List AF}{j:Nat}(h:j<cs.length):cs.getD j ⟨0,0⟩∈cs:=by rw[AA,AB h];exact List.getElem_mem h
def PbR.mind (K:PbR)(n:Nat)(l:List Nat):Prop:=K.can n l/\ ∀m,m<n-> ¬K.can m l
theorem PbR.mind_ex {K:PbR}{l:List Nat}: ∀{n:Nat},K.can n l-> ∃m,m<=n/\K.mind m l:=by
 intro n
 induction n using Nat.strongRecOn with
 |ind n ih=>
  intro h;by_cases g: ∃m,m<n/\K.can m l
  ·obtain⟨m,h1,h2⟩:=g;obtain⟨k,h3,h4⟩:=ih m h1 h2;exact⟨k,by omega,h4⟩
  ·exact⟨n,AM _,h,fun m hm hc=>g ⟨m,hm,hc⟩⟩
theorem PbR.mind.uniq {K:PbR}{l:List Nat}{n m:Nat}(h:K.mind n l)(h':K.mind m l):n=m:=by
 rcases AZ n m with e|e|e
 ·exact absurd h.1 (h'.2 n e)
 ·exact e
 ·exact absurd h'.1 (h.2 m e)
theorem PbR.mind.dec {K:PbR}{l:List Nat}{n:Nat}(h:K.mind (n+1) l): ¬k1e K.G l:=fun hd=>h.2 0 (by omega) hd
theorem PbR.mind.fst {K:PbR}{l:List Nat}{n:Nat}(h:K.mind (n+1) l):j9f (K.sp n l) K.nl<K.nl/\K.sp n l (j9f (K.sp n l) K.nl)/\K.bt (n+1) l=j8y (j9f (K.sp n l) K.nl) (cellsOf (K.X (j9f (K.sp n l) K.nl)) l) fun j=>K.bt n (K.pt (j9f (K.sp n l) K.nl) l j):=by
 have h1: ∃i,i<K.nl/\K.sp n l i:=by
  rcases h.1 with hd|⟨i,h1,h2,h3⟩
  ·exact absurd hd h.dec
  ·exact⟨i,h1,h2,h3⟩
 obtain⟨i,hi,hs⟩:=h1;obtain⟨g1,g2,g3⟩:=j9c (K.sp n l) K.nl;have hlt:j9f (K.sp n l) K.nl<K.nl:=Ae fun hn=>g3 i (by omega) hs;exact⟨hlt,g2 hlt,by rw[PbR.bt,if_neg (h.2 n (by omega))]⟩
theorem PbR.pt_can {K:PbR}{l:List Nat}{n i:Nat}(h:K.sp n l i){j:Nat}(hj:j<(cellsOf (K.X i) l).length):K.can n (K.pt i l j):=h.2 _ (j8e hj)
theorem k2o {α:Type}(f:α->Nat)(d:α): ∀(cs:List α),b9p (fun j=>f (cs.getD j d)) cs.length=(cs.map f).sum:=by
 intro cs;have h: ∀m,m<=cs.length->b9p (fun j=>f (cs.getD j d)) m=((cs.take m).map f).sum:=by
  intro m
  induction m with
  |zero=>intro _;simp[b9p]
  |succ m ih=>
   intro hm;have hg:cs.getD m d=cs[m]:=by rw[AA,AB (show m<cs.length by omega)];rfl
   rw[b9p,ih (by omega),At,AB (by omega),hg];simp only[Af,List.sum_append,Option.toList,AI,A3,AU,List.sum_nil,Nat.add_zero]
 have:=h cs.length (AM _)
 rwa [List.take_length] at this
theorem k2w {f g:Nat->Nat}: ∀{n:Nat},(∀i,i<n->f i<=g i)->b9p f n<=b9p g n
 |0,_=>AM _
 |n+1,h=>by have:=k2w (n:=n) fun i hi=>h i (by omega);have:=h n (by omega);simp only[b9p];omega
theorem k1p (c:Nat)(f:Nat->Nat): ∀n,b9p (fun i=>c*f i) n=c*b9p f n
 |0=>rfl
 |n+1=>by simp only[b9p,k1p c f n,A5]
theorem k0n (X:Nat->AF)(cs:List AF)(hn:cs.Nodup): ∀l:List Nat,(∀p,p∈l->X p∈cs)->(cs.map fun v=>(j7u X v l).length).sum=l.length
 |[],_=>by
  have: ∀cs:List AF,(cs.map fun v=>(j7u X v []).length).sum=0:=fun cs=>by
   induction cs with
   |nil=>rfl
   |cons c cs ih=>simp only[AI,AU,ih];rfl
  exact this cs
 |p::l,h=>by
  have ih:=k0n X cs hn l fun q hq=>h q (AH _ hq);have hp:=h p (by simp);have: ∀cs:List AF,cs.Nodup->(cs.map fun v=>(j7u X v (p::l)).length).sum=(cs.map fun v=>(j7u X v l).length).sum+if X p∈cs then 1 else 0:=by
   intro cs
   induction cs with
   |nil=>intro _;simp
   |cons c cs ih=>
    intro hn;obtain⟨h1,h2⟩:=List.nodup_cons.1 hn;simp only[AI,AU,ih h2];by_cases e:X p=c
    ·subst e;have e1:(j7u X (X p) (p::l)).length=(j7u X (X p) l).length+1:=by simp[j7u]
     rw[e1,if_neg h1,if_pos (by simp)];omega
    ·have e1:(j7u X c (p::l)).length=(j7u X c l).length:=by simp[j7u,e]
     have e2:(X p∈c::cs)↔X p∈cs:=by simp[e]
     rw[e1];simp only[e2];omega
  rw[this cs hn,ih,if_pos hp];simp
theorem j9v (X:Nat->AF)(l:List Nat):(cellsOf X l).length<=l.length:=by
 have h:=k0n X (cellsOf X l) (j9u (j8b X l)) l fun p hp=>j7x.2 ⟨p,hp,rfl⟩;rw[<-h];have: ∀cs:List AF,(∀v,v∈cs->1<=(j7u X v l).length)->cs.length<=(cs.map fun v=>(j7u X v l).length).sum:=by
  intro cs
  induction cs with
  |nil=>intro _;simp
  |cons c cs ih=>intro h;have:=ih fun v hv=>h v (AH _ hv);have:=h c (by simp);simp only[Ac,AI,AU];omega
 exact this _ fun v hv=>AT.2 (j9e hv)
theorem PbR.cnt_bt (K:PbR): ∀(n lv:Nat) (l:List Nat),K.can n l->PlR.cnt lv (K.bt n l)<=2*n*l.length:=by
 intro n
 induction n with
 |zero=>intro lv l _;cases lv<;>simp[PbR.bt,k0p,PlR.cnt,PlR.nc,PlR.nn,b9p]
 |succ n ih=>
  intro lv l h;by_cases hc:K.can n l
  ·have:=ih lv l hc;rw[PbR.bt_le hc (by omega)];refine A4 this (Nat.mul_le_mul_right _ (by omega))
  have hm:K.mind (n+1) l:=⟨h,fun m hm hc'=>hc (PbR.can_le hc' (by omega))⟩;obtain⟨f1,f2,f3⟩:=hm.fst;rw[f3];generalize j9f (K.sp n l) K.nl=i at f1 f2 f3⊢;have hl:=j9v (K.X i) l;have hs:=k0n (K.X i) (cellsOf (K.X i) l) (j9u (j8b _ l)) l fun p hp=>j7x.2 ⟨p,hp,rfl⟩;rw[<-k2o (fun v=>(j7u (K.X i) v l).length) ⟨0,0⟩] at hs;have e:2*(n+1)*l.length=2*l.length+2*n*l.length:=by rw[A5,Nat.add_mul];omega
  cases lv with
  |zero=>simp only[j8y,PlR.cnt,PlR.nc,PlR.nn];omega
  |succ lv=>
   have hk:b9p (fun j=>PlR.cnt lv (K.bt n (K.pt i l j))) (cellsOf (K.X i) l).length<=2*n*l.length:=by refine A4 (k2w (g:=fun j=>2*n*(K.pt i l j).length) fun j hj=>ih lv _ (PbR.pt_can f2 hj)) ?_;rw[k1p];exact Nat.mul_le_mul_left _ (Nat.le_of_eq hs)
   rw[k3h];omega
theorem PbR.can_left (K:PbR): ∀(us:List Nat) (l:List Nat) (n:Nat),(∀i,i<K.nl->K.A i=Aj->i∉us->k0m (K.X i) l)->K.can n l->K.can us.length l:=by
 intro us
 induction hu:us.length generalizing us with
 |zero=>
  intro l n h hc;have:us=[]:=List.length_eq_zero_iff.1 hu;subst this;have hz: ∀n,K.can n l->k1e K.G l:=fun n=>by
   induction n with
   |zero=>exact fun h=>h
   |succ n ih=>
    rintro (hd|⟨i,h1,h2,h3⟩)
    ·exact hd
    ·by_cases hl:l=[]
     ·subst hl;exact fun p hp=>absurd hp (by simp)
     obtain⟨p,hp⟩:=AC l hl;have hv:K.X i p∈cellsOf (K.X i) l:=j7x.2 ⟨p,hp,rfl⟩;have:=h3 _ hv;rw[(h i h1 h2 (by simp)).part hv] at this;exact ih this
  exact hz n hc
 |succ k ih=>
  intro l n h hc;obtain⟨m,_,hm⟩:=PbR.mind_ex hc;cases m with
  |zero=>exact PbR.can_dec hm.1 _
  |succ m=>
   rcases hm.1 with hd|⟨i,h1,h2,h3⟩
   ·exact absurd hd hm.dec
   by_cases hi:i∈us
   ·refine .inr ⟨i,h1,h2,fun v hv=> ?_⟩;refine ih (us.erase i) (by rw[List.length_erase_of_mem hi];omega) _ m (fun i' g1 g2 g3=> ?_) (h3 v hv);by_cases e:i'=i
    ·subst e;exact k0v
    ·exact (h i' g1 g2 fun hmem=>g3 ((List.mem_erase_of_ne e).2 hmem)).sub fun p hp=>(j8c.1 hp).1
   ·exfalso;by_cases hl:l=[]
    ·subst hl;exact hm.dec fun p hp=>absurd hp (by simp)
    obtain⟨p,hp⟩:=AC l hl;have hv:K.X i p∈cellsOf (K.X i) l:=j7x.2 ⟨p,hp,rfl⟩;have:=h3 _ hv;rw[(h i h1 h2 hi).part hv] at this;exact hm.2 m (by omega) this
open Go.Proofs.YtbglklaocjifhaaGreat
def j8r (X:Nat->AF)(l:List Nat):List AF:=l.foldl (fun ks p=>if X p∈ks then ks else ks++[X p]) []
theorem j8m (X:Nat->AF)(l:List Nat)(p:Nat):j8r X (l++[p])=if X p∈j8r X l then j8r X l else j8r X l++[X p]:=by unfold j8r;rw[List.foldl_append];rfl
theorem j9g {X:Nat->AF}{v:AF}{l:List Nat}:v∈j8r X l↔v∈cellsOf X l:=by
 induction l using j9p with
 |h0=>simp[j8r,cellsOf]
 |h1 l p ih=>
  rw[j8m,j8d,k0d,<-ih];split
  ·rename_i h;exact⟨.inr,fun h'=>h'.elim (fun e=>e▸h) id⟩
  ·simp only[Ax,AX];exact Or.comm
theorem j8w (X:Nat->AF)(l:List Nat):(j8r X l).Nodup:=by
 induction l using j9p with
 |h0=>simp[j8r]
 |h1 l p ih=>
  rw[j8m];split
  ·exact ih
  ·rename_i h;refine List.nodup_append.2 ⟨ih,by simp,fun a ha b hb e=>h ?_⟩;rw[AX] at hb;rw[<-hb,<-e];exact ha
theorem k2i (X:Nat->AF)(l:List Nat):(j8r X l).length<=l.length:=by
 induction l using j9p with
 |h0=>simp[j8r]
 |h1 l p ih=>rw[j8m];split<;>simp<;>omega
def k0l (v:AF):List KC:=[.i v.fault,.i v.n]
theorem k1u {v u:AF}(h:k0l v=k0l u):v=u:=by simp only[k0l,List.cons.injEq,KC.i.injEq,and_true] at h;cases v;cases u;simp_all
theorem k0j {ks:List AF}{V:Nat->AV}{v:AF}:(v∉ks-> ∀n,b1j (k0l v) (ks.map k0l) ((AN n ks.length).map V)=Az/\c9t (k0l v) (ks.map k0l) n=Az)/\
 (∀j,j<ks.length->ks.getD j ⟨0,0⟩=v->(∀i,i<j->ks.getD i ⟨0,0⟩≠v)-> ∀n,b1j (k0l v) (ks.map k0l) ((AN n ks.length).map V)=AQ (V (n+j))/\c9t (k0l v) (ks.map k0l) n=AQ (n+j)):=by
 induction ks with
 |nil=>exact⟨fun _ n=>⟨rfl,rfl⟩,fun j hj=>absurd hj (AS j)⟩
 |cons k ks ih=>
  obtain⟨ih1,ih2⟩:=ih;refine⟨fun h n=> ?_,fun j hj he hn n=> ?_⟩
  ·have h1:k0l k≠k0l v:=fun e=>h (by rw[k1u e];simp);obtain⟨g1,g2⟩:=ih1 (fun h'=>h (AH _ h')) (n+1);simp only[AI,Ac,Ab,b1j,c9t,if_neg h1];exact⟨g1,g2⟩
  ·cases j with
   |zero=>
    have:k=v:=by simpa using he
    subst this;simp[Ab,b1j,c9t]
   |succ j=>have h1:k0l k≠k0l v:=fun e=>hn 0 (by omega) (by simpa using k1u e);obtain⟨g1,g2⟩:=ih2 j (by simpa using hj) (by simpa using he) (fun i hi=>by simpa using hn (i+1) (by omega)) (n+1);simp only[AI,Ac,Ab,b1j,c9t,if_neg h1];rw[show n+(j+1)=n+1+j by omega];exact⟨g1,g2⟩
def spR (F:Nat->Nat->AF)(g:Nat->Bool)(q:Nat):List DV:=h7v (F q) (g q)
structure G1 where
 i:Nat
 H:List a0f
 mv:List Nat
 P:Nat->Nat
def G1.ks (X:Nat->AF)(l:List Nat)(s:G1):List AF:=j8r X (l.take s.i)
def G1.pt (X:Nat->AF)(l:List Nat)(s:G1)(j:Nat):List Nat:=j7u X ((s.ks X l).getD j ⟨0,0⟩) (l.take s.i)
structure G1.ok (k:Nat)(l:List Nat)(X:Nat->AF)(F:Nat->Nat->AF)(g:Nat->Bool)(C:List a0f)(s:G1):Prop where
 hi:s.i<=l.length
 hlen:k+2<=a3q s.H
 hC:k3e k s.H C
 hM:a1a s.H k=AQ (.mapv Aj [.u8,.i64] ((s.ks X l).map k0l) ((AN 0 (s.ks X l).length).map fun j=> .msl (s.P j) 9 Az (s.pt X l j).length AR))
 hE: ∃ce:Nat->List DV,a1a s.H (k+1)=AQ (.arr 2 (s.ks X l).length ce)/\ ∀j,j<(s.ks X l).length->ce j=((s.ks X l).getD j ⟨0,0⟩).row
 hP: ∀j,j<(s.ks X l).length->k+2<=s.P j/\ ∃pe:Nat->List DV,a1a s.H (s.P j)=AQ (.arr 9 (s.pt X l j).length pe)/\ ∀i,i<(s.pt X l j).length->pe i=spR F g ((s.pt X l j).getD i 0)
 hinj: ∀j j',j<(s.ks X l).length->j'<(s.ks X l).length->s.P j=s.P j'->j=j'
 hmv: ∀x,x∈s.mv->k<=x
theorem j8k {l:List Nat}{i:Nat}(h:i<l.length):l.take (i+1)=l.take i++[l.getD i 0]:=by rw[At,AB h,AA,AB h];rfl
theorem k0f {ks:List AF}{x:AF}{j:Nat}(h:j<ks.length):(ks++[x]).getD j ⟨0,0⟩=ks.getD j ⟨0,0⟩:=by rw[AA,AA,Al h]
theorem k0h {ks:List AF}{x:AF}:(ks++[x]).getD ks.length ⟨0,0⟩=x:=by rw[AA,Ah (AM _)];simp
theorem k0b {ks:List Nat}{x j:Nat}(h:j<ks.length):(ks++[x]).getD j 0=ks.getD j 0:=by rw[AA,AA,Al h]
theorem k0a {ks:List Nat}{x:Nat}:(ks++[x]).getD ks.length 0=x:=by rw[AA,Ah (AM _)];simp
section
variable {k:Nat} {l:List Nat} {X:Nat->AF} {F:Nat->Nat->AF} {g:Nat->Bool} {C:List a0f} {i M:Nat} {H H':List a0f} {mv:List Nat} {P:Nat->Nat} {q:Nat} {KS:List AF}
theorem G1.ok_new (hR:G1.ok k l X F g C ⟨i,H,mv,P⟩)(hi:i<l.length)(hCl:a3q C=k)(hCf: ∀x o i,x<k->a1a C x=AQ o->k<=i->o.forget i AR=o)(hM:a3q H=M)(hq:l.getD i 0=q)(hKS:j8r X (l.take i)=KS)(hin:X q∉KS)
 (f1:M+3<=a3q H') (f2:a1a H' k=AQ (.mapv Aj [.u8,.i64] (a2u (KS.map k0l) [k0l (X q)]) (a2u ((AN 0 KS.length).map fun j=> .msl (P j) 9 Az (j7u X (KS.getD j ⟨0,0⟩) (l.take i)).length AR) [.msl (M+2) 9 Az 1 AR])))
 (f3: ∃e:Nat->List DV,a1a H' (k+1)=AQ (.arr 2 (KS.length+1) e)/\(∀ce,a1a H (k+1)=AQ (.arr 2 KS.length ce)-> ∀j,j<KS.length->e j=ce j)/\e KS.length=(X q).row)
 (f4: ∀x o,x<M->x≠k->x≠k+1->a1a H x=AQ o->o.forget (k+1) AR=o->a1a H' x=AQ o)
 (f5: ∃e:Nat->List DV,a1a H' (M+2)=AQ (.arr 9 1 e)/\e 0=spR F g q):
 G1.ok k l X F g C ⟨i+1,H',(k+1)::mv,fun j=>if j=KS.length then M+2 else P j⟩:=by
 obtain⟨_,hlen,hC,hM0,⟨ce,hE1,hE2⟩,hP,hinj,hmv⟩:=hR;simp only[G1.ks,G1.pt,hKS] at hlen hC hM0 hE1 hE2 hP hinj hmv;have ht:l.take (i+1)=l.take i++[q]:=by rw[j8k hi,hq]
 have hkn:j8r X (l.take (i+1))=KS++[X q]:=by rw[ht,j8m,hKS,if_neg hin]
 have hpo: ∀j,j<KS.length->j7u X ((KS++[X q]).getD j ⟨0,0⟩) (l.take (i+1))=j7u X (KS.getD j ⟨0,0⟩) (l.take i):=fun j hj=>by rw[k0f hj,ht,j8i,if_neg fun e=>hin (by rw[e];exact j8e hj)]
 have hpn:j7u X ((KS++[X q]).getD KS.length ⟨0,0⟩) (l.take (i+1))=[q]:=by
  have e2:j7u X (X q) (l.take i)=[]:=Ae fun h=>by obtain⟨p,hp⟩:=AC _ h;obtain⟨p1,p2⟩:=j8c.1 hp;exact hin (by rw[<-hKS];exact j9g.2 (j7x.2 ⟨p,p1,p2⟩))
  rw[k0h,ht,j8i,if_pos rfl,e2];rfl
 have hPM: ∀j,j<KS.length->P j<M:=fun j hj=>by obtain⟨_,pe,h,_⟩:=hP j hj;rw[<-hM];exact j8l h
 have hkM:k+2<=M:=by rw[<-hM];exact hlen
 obtain⟨e3,g1,g2,g3⟩:=f3;obtain⟨e5,g4,g5⟩:=f5;refine⟨hi,by show k+2<=a3q H';omega,fun x hx=> ?_,?_,⟨e3,?_,fun j hj=> ?_⟩,fun j hj=> ?_,fun j j' hj hj' he=> ?_,fun x hx=> ?_⟩
 ·obtain⟨o,ho⟩:=j9o (l:=C) (i:=x) (by omega);have:=hC x hx;rw[ho] at this;rw[f4 x o (by omega) (by omega) (by omega) this (hCf x o _ hx ho (by omega)),ho]
 ·simp only[G1.ks,G1.pt,hkn];rw[f2];congr 2
  ·rw[a0r,Af];rfl
  ·rw[a0r,AE,AD,List.range'_concat,Af];congr 1
   ·refine List.map_congr_left fun j hj=> ?_;rw[Au] at hj;rw[if_neg (by omega),hpo j (by omega)]
   ·simp only[AI,A3,Aq,Nat.one_mul,if_true,hpn];rfl
 ·simp only[G1.ks,hkn,AE,AD];exact g1
 ·simp only[G1.ks,hkn,AE,AD] at hj⊢;by_cases ej:j=KS.length
  ·subst ej;rw[g3,k0h]
  ·rw[k0f (by omega),g2 ce hE1 j (by omega)];exact hE2 j (by omega)
 ·simp only[G1.ks,G1.pt,hkn,AE,AD] at hj⊢;by_cases ej:j=KS.length
  ·subst ej;rw[if_pos rfl,hpn];refine⟨by omega,e5,g4,fun i' hi'=> ?_⟩;obtain rfl:i'=0:=by simpa using hi'
   exact g5
  ·rw[if_neg ej,hpo j (by omega)];obtain⟨h1,pe,h2,h3⟩:=hP j (by omega);exact⟨h1,pe,f4 _ _ (hPM j (by omega)) (by omega) (by omega) h2 rfl,h3⟩
 ·simp only[G1.ks,hkn,AE,AD] at hj hj';simp only at he;by_cases ej:j=KS.length<;>by_cases ej':j'=KS.length
  ·omega
  ·rw[if_pos ej,if_neg ej'] at he;have:=hPM j' (by omega);omega
  ·rw[if_neg ej,if_pos ej'] at he;have:=hPM j (by omega);omega
  ·rw[if_neg ej,if_neg ej'] at he;exact hinj j j' (by omega) (by omega) he
 ·rcases AG.1 hx with rfl|hx
  ·omega
  ·exact hmv x hx
theorem G1.ok_old {c:Nat}(hR:G1.ok k l X F g C ⟨i,H,mv,P⟩)(hi:i<l.length)(hCl:a3q C=k)(hCf: ∀x o i,x<k->a1a C x=AQ o->k<=i->o.forget i AR=o)(hM:a3q H=M)(hq:l.getD i 0=q)(hKS:j8r X (l.take i)=KS)(hc:c<KS.length)(hin:KS.getD c ⟨0,0⟩=X q)
 (f1:M<=a3q H') (f2:a1a H' k=AQ (.mapv Aj [.u8,.i64] (KS.map k0l) (a2x ((AN 0 KS.length).map fun j=> .msl (P j) 9 Az (j7u X (KS.getD j ⟨0,0⟩) (l.take i)).length AR) c (.msl (P c) 9 Az ((j7u X (KS.getD c ⟨0,0⟩) (l.take i)).length+1) AR))))
 (f4: ∀x o,x<M->x≠k->x≠P c->a1a H x=AQ o->o.forget (P c) AR=o->a1a H' x=AQ o)
 (f5: ∃e:Nat->List DV,a1a H' (P c)=AQ (.arr 9 ((j7u X (KS.getD c ⟨0,0⟩) (l.take i)).length+1) e)/\(∀pe,a1a H (P c)=AQ (.arr 9 (j7u X (KS.getD c ⟨0,0⟩) (l.take i)).length pe)-> ∀j,j<(j7u X (KS.getD c ⟨0,0⟩) (l.take i)).length->e j=pe j)/\e (j7u X (KS.getD c ⟨0,0⟩) (l.take i)).length=spR F g q):
 G1.ok k l X F g C ⟨i+1,H',P c::mv,P⟩:=by
 obtain⟨_,hlen,hC,hM0,⟨ce,hE1,hE2⟩,hP,hinj,hmv⟩:=hR;simp only[G1.ks,G1.pt,hKS] at hlen hC hM0 hE1 hE2 hP hinj hmv;have ht:l.take (i+1)=l.take i++[q]:=by rw[j8k hi,hq]
 have hmem:X q∈KS:=by rw[<-hin];exact j8e hc
 have hkn:j8r X (l.take (i+1))=KS:=by rw[ht,j8m,hKS,if_pos hmem]
 have hnd:KS.Nodup:=by rw[<-hKS];exact j8w _ _
 have hne: ∀j,j<KS.length->j≠c->X q≠KS.getD j ⟨0,0⟩:=fun j hj hjc e=>by
  rw[<-hin,AA,AA,AB hc,AB hj] at e;simp only[Option.getD_some] at e;have hp:=AP.1 hnd;rcases AZ c j with h|h|h
  ·exact hp c j hc hj h e
  ·exact hjc h.symm
  ·exact hp j c hj hc h e.symm
 have hpo: ∀j,j<KS.length->j≠c->j7u X (KS.getD j ⟨0,0⟩) (l.take (i+1))=j7u X (KS.getD j ⟨0,0⟩) (l.take i):=fun j hj hjc=>by rw[ht,j8i,if_neg (hne j hj hjc)]
 have hpc:j7u X (KS.getD c ⟨0,0⟩) (l.take (i+1))=j7u X (KS.getD c ⟨0,0⟩) (l.take i)++[q]:=by rw[ht,j8i,if_pos hin.symm]
 have hPM: ∀j,j<KS.length->P j<M:=fun j hj=>by obtain⟨_,pe,h,_⟩:=hP j hj;rw[<-hM];exact j8l h
 have hkM:k+2<=M:=by rw[<-hM];exact hlen
 have hPc:=(hP c hc).1;obtain⟨e5,g4,g6,g5⟩:=f5;refine⟨hi,by show k+2<=a3q H';omega,fun x hx=> ?_,?_,⟨ce,?_,?_⟩,fun j hj=> ?_,?_,fun x hx=> ?_⟩
 ·obtain⟨o,ho⟩:=j9o (l:=C) (i:=x) (by omega);have:=hC x hx;rw[ho] at this;rw[f4 x o (by omega) (by omega) (by omega) this (hCf x o _ hx ho (by omega)),ho]
 ·simp only[G1.ks,G1.pt,hkn];rw[f2];congr 2;rw[a0l];refine List.ext_getElem? fun j=> ?_;rw[List.getElem?_set];by_cases ej:c=j
  ·subst ej;have hr:(AN 0 KS.length)[c]? =AQ c:=by rw[List.getElem?_range' hc];simp
   rw[if_pos rfl,Ay,List.length_range',if_pos hc,AY,hr];simp only[Aa];rw[hpc,AE,AD]
  ·rw[if_neg ej,AY,AY];cases hr:(AN 0 KS.length)[j]? with
   |none=>rfl
   |some t=>
    have ht2:=List.mem_of_getElem? hr;rw[Au] at ht2;have hjl:=(Ak.1 hr).1;have htj:t=j:=by rw[AB hjl] at hr;simpa using hr.symm
    simp only[Aa];rw[hpo t (by omega) (by omega)]
 ·simp only[G1.ks,hkn];exact f4 _ _ (by omega) (by omega) (by omega) hE1 rfl
 ·simp only[G1.ks,hkn];exact hE2
 ·simp only[G1.ks,G1.pt,hkn] at hj⊢;by_cases ej:j=c
  ·subst ej;obtain⟨h1,pe,h2,h3⟩:=hP j hj;rw[hpc,AE,AD];refine⟨h1,e5,g4,fun i' hi'=> ?_⟩;by_cases ei:i'=(j7u X (KS.getD j ⟨0,0⟩) (l.take i)).length
   ·subst ei;rw[g5,k0a]
   ·rw[g6 pe h2 i' (by omega),h3 i' (by omega),k0b (by omega)]
  ·rw[hpo j hj ej];obtain⟨h1,pe,h2,h3⟩:=hP j hj;exact⟨h1,pe,f4 _ _ (hPM j hj) (by omega) (fun e=>ej (hinj j c hj hc e)) h2 rfl,h3⟩
 ·simp only[G1.ks,hkn];exact hinj
 ·rcases AG.1 hx with rfl|hx
  ·omega
  ·exact hmv x hx
end
open Go Go.Vf Go.Proofs Go.Shelf
def k3u:Ren where
 f:=fun
  |6=>173|15=>191|14=>204|28=>225|29=>226|20=>243|21=>244|22=>245|23=>246|24=>247|25=>248|26=>249|27=>250|46=>267|47=>257|48=>258|49=>268|50=>269|57=>272
  |n=>n
 t:=fun
  |22=>24|24=>77|25=>203|3=>3|39=>227|0=>0|53=>254|55=>257|4=>4|46=>268|45=>267|50=>119|5=>5|9=>9|66=>294|70=>298|76=>307|77=>308
  |n=>n
 g:=fun n=>n
theorem j8h {P:Program}{f:FuncId}{B fn:Func}(h:P.funcs[f]? =AQ fn)(hn:(fn.name== "runtime.NumGoroutine")=AR)(e:AQ {B with name:=fn.name}=AQ fn):Bears P f B:=⟨fn.name,hn,h.trans e.symm⟩
theorem k3s:SlLaysF0.n6 Tryz.prog k3u:=by
 constructor
 all_goals first|kernel_rfl|(intro w;kernel_rfl)|exact j8h Tryz.func173 (by kernel_rfl) (by kernel_rfl)|exact j8h Tryz.func204 (by kernel_rfl) (by kernel_rfl)|exact j8h Tryz.func243 (by kernel_rfl) (by kernel_rfl)|exact j8h Tryz.func244 (by kernel_rfl) (by kernel_rfl)|exact j8h Tryz.func245 (by kernel_rfl) (by kernel_rfl)|exact j8h Tryz.func246 (by kernel_rfl) (by kernel_rfl)|exact j8h Tryz.func247 (by kernel_rfl) (by kernel_rfl)|exact j8h Tryz.func248 (by kernel_rfl) (by kernel_rfl)|exact j8h Tryz.func249 (by kernel_rfl) (by kernel_rfl)|exact j8h Tryz.func250 (by kernel_rfl) (by kernel_rfl)|exact j8h Tryz.func267 (by kernel_rfl) (by kernel_rfl)|exact j8h Tryz.func268 (by kernel_rfl) (by kernel_rfl)|exact j8h Tryz.func269 (by kernel_rfl) (by kernel_rfl)|exact j8h Tryz.func272 (by kernel_rfl) (by kernel_rfl)
open Go Go.Vf Go.Proofs Go.Shelf Go.RowKit Go.Lib Go.Sort
theorem k2e {w w':World}(h:d6d w w'): ∃q os',w'=grow (w.drewN q) os':=by
 obtain⟨h1,⟨h2,h3⟩,h4,h5,h6⟩:=h;obtain⟨hp,tp,dr,os,ou⟩:=w;obtain⟨hp',tp',dr',os',ou'⟩:=w';simp only at h1 h2 h3 h4 h5 h6;subst h1 h2 h4;refine⟨dr'-dr,hp'.extract hp.size hp'.size,?_⟩;simp only[grow,World.drewN];congr 1
 ·refine Array.ext_getElem? fun i=> ?_;rw[Ap];split
  ·rename_i h;exact h6 i h
  ·rename_i h;rw[Array.getElem?_extract];by_cases hi:i<hp'.size
   ·rw[if_pos (by omega)];congr 1;omega
   ·rw[if_neg (by omega),Array.getElem?_eq_none (by omega)]
 ·omega
abbrev CeR:={v:AF//a1i v/\0<=v.fault}
instance:Inhabited CeR:=⟨⟨⟨0,0⟩,by simp[a1i]⟩⟩
def j9a (x:CeR):List Value:=[.int .u8 x.1.fault,.int .i64 x.1.n]
def k1y (x y:CeR):Int:=if x.1=y.1 then 0 else if Av x.1 y.1 then-1 else 1
theorem k4j (x y:CeR):ltOf k1y x y=decide (Av x.1 y.1):=by
 unfold ltOf k1y;by_cases h:x.1=y.1
 ·rw[if_pos h,h];simp[j9m]
 ·rw[if_neg h];by_cases h2:Av x.1 y.1<;>simp[h2]
theorem k4k:SWO (ltOf k1y) where
 irrefl x:=by rw[k4j];simp[j9m]
 trans x y z h1 h2:=by rw[k4j] at*;simp at*;exact j9w h1 h2
 ntrans x y z h1 h2:=by
  rw[k4j] at*
  simp at*
  intro h;by_cases e:x.1=y.1
  ·rw[e] at h;exact h2 h
  ·exact h2 (j9w (k1m h1 e) h)
theorem k2p (blk off size:Nat)(w:World):CmpLays Tryz.prog 149 #[] j9a 2 k1y blk off size w:=fun m os dk hs x y=>by
 have h:=c9s x.1 y.1 x.2.2 y.2.2 x.2.1 y.2.1 (k1y x y) rfl;generalize sortWorldK j9a 2 w blk off m dk os=W;refine (h.2 W (fun _=>False) _ (fun _ h=>h.elim) ⟨rfl,fun i z u hz hu=> ?_⟩).mono fun e w' hR=> ?_
 ·have hag: ∀c:CeR,VR W (fun _=>False) a2j c.1.av (.agg (j9a c).toArray):=fun c=>by
   refine .agg _ _ rfl fun j z u hz hu=> ?_
   match j,hz,hu with
   |0,hz,hu=>simp[j9a] at hz hu;subst hz;subst hu;exact .d (.int _ _)
   |1,hz,hu=>simp[j9a] at hz hu;subst hz;subst hu;exact .d (.int _ _)
  match i,hz,hu with
  |0,hz,hu=>simp at hz hu;subst hz;subst hu;exact hag x
  |1,hz,hu=>simp at hz hu;subst hz;subst hu;exact hag y
 ·obtain⟨v,S',h1,h2,_,h3⟩:=hR;cases h2 with
  |d h2=>cases h2;exact⟨h1,k2e h3⟩
noncomputable def k4i (v:AF):CeR:=by classical exact if h:a1i v/\0<=v.fault then⟨v,h⟩ else default
theorem k1w {v:AF}(h:a1i v/\0<=v.fault):(k4i v).1=v:=by unfold k4i;rw[dif_pos h]
noncomputable def k0k (n:Nat)(f:Nat->AF):Array CeR:=((AJ n).map fun i=>k4i (f i)).toArray
theorem j8o (n:Nat)(f:Nat->AF):(k0k n f).size=n:=by simp[k0k]
theorem k2u {n i:Nat}(f:Nat->AF)(h:i<n):(k0k n f)[i]! =k4i (f i):=by rw[getElem!_pos _ i (by rw[j8o];exact h)];simp[k0k]
theorem k2f {w:World}{S:Nat->Prop}{ρ:Rho}{b C n:Nat}{e:Nat->List DV}(hs:Sim w S ρ [.arr 2 n e])(hρ:ρ 0=AQ (AQ b,C))(d':Array CeR)(hd:d'.size=n)(m:Nat)(os:Array Obj):
 ∃S',Sim (sortWorldK j9a 2 w b 0 m d' os) S' ρ [.arr 2 n fun i=>(d'[i]!).1.row]/\Ext w S ρ (sortWorldK j9a 2 w b 0 m d' os) S' ρ:=by
 obtain⟨o,ho,hh⟩:=hs.obj 0 _ C hρ;simp at ho;subst ho;obtain⟨cs,ty,h1,h2,h3,h4⟩:=hh;have hblk:b<w.heap.size:=(Ag.1 h1).1;have hw1:(putRowK j9a 2 (AW w m) b 0 d').heap[b]? =AQ (.cells (putCells id 0 (flatK j9a 2 d') cs) ty (0,0)):=by show (w.heap.modify b _)[b]? =_;rw[Ao,if_pos rfl,h1];rfl
 have hB:a0z (putRowK j9a 2 (AW w m) b 0 d') S ρ b C (.arr 2 n fun i=>(d'[i]!).1.row):=by
  refine⟨_,ty,hw1,by simp[putCells,h2],h3,fun i hi=>⟨rfl,fun j x v hx hv=> ?_⟩⟩;have hj:j<2:=(Ak.1 hx).1;have hlt:i*2+j<d'.size*2:=by rw[hd];omega
  have hcs:i*2+j<cs.size:=by rw[h2];omega
  rw[putCells,Array.getElem?_mapIdx,Ai hcs] at hv;simp only[Aa,Ar,true_and,Aq,size_flatK,hlt,if_true,Nat.sub_zero,id,Option.some.injEq] at hv;rw[get_flatK _ _ _ _ hlt] at hv;rw[show (i*2+j)/2=i by omega,show (i*2+j) % 2=j by omega] at hv;subst hv
  match j,hx,hj with
  |0,hx,_=>simp[VaR.row] at hx;subst hx;exact .int _ _
  |1,hx,_=>simp[VaR.row] at hx;subst hx;exact .int _ _
 have c1:=Chg.set (w':=putRowK j9a 2 (AW w m) b 0 d') (o':= .arr 2 n fun i=>(d'[i]!).1.row) hs hρ (o:= .arr 2 n e) rfl rfl rfl ⟨rfl,Nat.le_add_right _ _⟩ rfl (by show (w.heap.modify b _).size=_;simp)
  (fun k hk=>by show (w.heap.modify b _)[k]? =_;rw[Ao,if_neg (Ne.symm hk)]) hB
 have hk:d6d (putRowK j9a 2 (AW w m) b 0 d') (sortWorldK j9a 2 w b 0 m d' os):=⟨rfl,⟨rfl,AM _⟩,rfl,by simp[sortWorldK,grow],fun k hk=>by
  show ((putRowK j9a 2 (AW w m) b 0 d').heap++os)[k]? =_;rw[Ap,if_pos hk]⟩
 have c2:=b5v (S1:=fun _=>False) c1.sim (fun _ h=>h.elim) hk;exact⟨_,c2.sim,c1.ext.trans c2.ext⟩
def k4l (n:Nat)(f:Nat->AF)(pg:List Nat)(v:AV)(h':List a0f):Prop:=
 pg=[]/\v= .tuple []/\ ∃g:Nat->AF,h'=[.arr 2 n fun i=>(g i).row]/\((AJ n).map g).Perm ((AJ n).map f)/\ ∀i j,i<j->j<n-> ¬Av (g j) (g i)
theorem k3y {n:Nat}(h0:0<n)(hn:n<=1000000)(f:Nat->AF)(hf: ∀i,i<n->a1i (f i)/\0<=(f i).fault)(e:Nat->List DV)(he: ∀i,i<n->e i=(f i).row):
 a1h Tryz.prog 173 [.msl 0 2 Az n AR,.fn 149 [] []] [.arr 2 n e] (k4l n f):=by
 obtain⟨fn,c,hfn,hb,hname,_⟩:=e9x;refine⟨⟨fn,hfn,hname,by rw[hb];simp⟩,fun w S ρ vs hs hv=> ?_⟩;obtain⟨hl,hg⟩:=hv;obtain⟨v0,v1,rfl⟩: ∃a b,vs= #[a,b]:=by
  match vs,hl with
  |⟨[a,b]⟩,_=>exact⟨a,b,rfl⟩
 have g0:=hg 0 _ v0 rfl rfl;have g1:=hg 1 _ v1 rfl rfl;cases g1 with
 |fn _ _ _ us cs hl1 _ hl2 _=>
  obtain rfl:us= #[]:=An.1 hl1.symm;obtain rfl:cs= #[]:=An.1 hl2.symm;cases g0 with
  |msl _ _ _ _ _ ob C cap a hρ hc hcap ha=>
   simp only[Option.getD] at hc hcap ha;obtain⟨o,ho,hh⟩:=hs.obj 0 _ C hρ;simp at ho;subst ho;cases ob with
   |none=>have:=hh.1;omega
   |some b=>
    have hcp:cap=C:=by rw[hcap,if_neg (by decide)];omega
    rw[ha (by omega)];obtain⟨cs,ty,h1,h2,h3,h4⟩:=hh;have hblk:b<w.heap.size:=(Ag.1 h1).1;have hH:HoldsK j9a 2 w b 0 (k0k n f):=fun t ht=>by
     rw[size_flatK,j8o] at ht;have hi:t/2<n:=by omega
     have hj:t % 2<2:=by omega
     have hcs:t<cs.size:=by rw[h2];omega
     rw[get_flatK _ _ _ _ (by rw[j8o];exact ht),k2u f hi];simp only[World.cell?,World.frozen?,h1,Aq];refine⟨?_,by simp⟩;have ht2:t/2*2+t % 2=t:=by omega
     have:=(h4 (t/2) hi).2 (t % 2);rw[he _ hi] at this;simp only[j9a,k1w (hf _ hi),id];rw[ht2] at this;rw[Ai hcs] at this⊢;simp only[Option.isSome_none,Bool.false_eq_true,if_false];generalize cs[t]=u at this⊢;rcases Nat.lt_or_ge (t % 2) 1 with h|h
     ·have e0:t % 2=0:=by omega
      rw[e0] at this⊢;have h5:=this (.int .u8 (.v (f (t/2)).fault)) _ rfl rfl;cases h5;simp[e0];rfl
     ·have e0:t % 2=1:=by omega
      rw[e0] at this⊢;have h5:=this (.int .i64 (.v (f (t/2)).n)) _ rfl rfl;cases h5;simp[e0];rfl
    have hcon:=AnyQ.slices_SortFunc k3s 2 (fun w=>by kernel_rfl) (fun w=>by kernel_rfl) j9a (fun _=>rfl) (fun x v hv=>by simp[j9a] at hv;rcases hv with rfl|rfl<;>rfl) k1y k4k 149 #[] b 0 cap (k0k n f) w
     (enters_of Tryz.func149 (by kernel_rfl) rfl) (k2p b 0 _ w) hH hblk (by rw[j8o];omega)
    rw[j8o] at hcon;refine Calls.mono hcon fun en w' hR=> ?_;obtain⟨rfl,d',m,os,hp,hso,rfl⟩:=hR;have hd:d'.size=n:=by rw[hp.1,j8o]
    obtain⟨S',hS',hE'⟩:=k2f hs hρ d' hd m os;refine⟨_,.tuple [],[],[.arr 2 n fun i=>(d'[i]!).1.row],S',ρ,rfl,⟨rfl,rfl,fun i=>(d'[i]!).1,rfl,?_,?_⟩,.tuple _ _ rfl (fun i x v h=>by simp at h),hS',hE',by simp,fun _ _ _=>rfl⟩
    ·have h6:=hp.2.2;have ea:(k0k n f).extract 0 n=k0k n f:=by
      have:=As (xs:=k0k n f)
      rwa [j8o] at this
     have ed:d'.extract 0 n=d':=by
      have:=As (xs:=d')
      rwa [hd] at this
     rw[ea,ed] at h6;have h7:=h6.map (fun x:CeR=>x.1);have e1:(AJ n).map (fun i=>(d'[i]!).1)=d'.toList.map fun x=>x.1:=by
      refine Ad (by simp[hd]) fun i h1 h2=> ?_;have:i<d'.size:=by simpa using h2
      simp[getElem!_pos d' i this]
     have e2:(AJ n).map f=(k0k n f).toList.map fun x=>x.1:=by
      refine Ad (by simp[j8o]) fun i h1 h2=> ?_;have:i<n:=by simpa using h1
      simp[k0k,k1w (hf i this)]
     rw[e1,e2];exact h7
    ·intro i j h1 h2;have h6:=hso i j (Ar _) h1 h2;rw[k4j] at h6;simpa using h6
theorem k3c {KS SS:List AF}(h0:KS≠[])(hn:KS.length<=1000000)(hf: ∀v,v∈KS->a1i v/\0<=v.fault)(hd:KS.Nodup)(hs:SS.Pairwise Av)(hm: ∀v,v∈SS↔v∈KS)(e:Nat->List DV)(he: ∀i,i<KS.length->e i=(KS.getD i ⟨0,0⟩).row):
 a1h Tryz.prog 173 [.msl 0 2 Az KS.length AR,.fn 149 [] []] [.arr 2 KS.length e] fun pg v h'=>pg=[]/\v= .tuple []/\ ∃e':Nat->List DV,h'=[.arr 2 KS.length e']/\SS.length=KS.length/\ ∀i,i<KS.length->e' i=(SS.getD i ⟨0,0⟩).row:=by
 refine (k3y (AT.2 h0) hn (fun i=>KS.getD i ⟨0,0⟩) (fun i hi=>hf _ (j8e hi)) e he).mono fun pg v h' hr=> ?_;obtain⟨rfl,rfl,g,rfl,hp,ha⟩:=hr;have e1:(AJ KS.length).map (fun i=>KS.getD i ⟨0,0⟩)=KS:=Ad (by simp) fun i h1 h2=>by simp[AB h2]
 rw[e1] at hp;have hnd:((AJ KS.length).map g).Nodup:=hp.nodup_iff.2 hd;have hpw:((AJ KS.length).map g).Pairwise Av:=AP.2 fun i j hi hj hij=>by have h1:=AP.1 hnd i j hi hj hij;simp only[Ay,List.length_range] at hi hj;simp only[List.getElem_map,List.getElem_range] at h1⊢;exact k1m (ha i j hij hj) (fun e=>h1 e.symm)
 have hss:SS=(AJ KS.length).map g:=k1h hs hpw fun v=>(hm v).trans hp.mem_iff.symm;have hl:SS.length=KS.length:=by rw[hss];simp
 refine⟨rfl,rfl,_,rfl,hl,fun i hi=> ?_⟩;rw[hss];simp[hi]
def PbR.wo (K:PbR)(i:Nat):PbR:=⟨K.nl,fun j=>K.A j&&decide (j≠i),K.X,K.G⟩
theorem j8p {X:Nat->AF}{v:AF}{l:List Nat}: ∀p,p∈j7u X v l->p∈l:=fun _ h=>(j8c.1 h).1
theorem PbR.wo_can {K:PbR}{i:Nat}: ∀{n:Nat} {l:List Nat},k0m (K.X i) l->((K.wo i).can n l↔K.can n l)
 |0,_,_=>Iff.rfl
 |n+1,l,hf=>by
  constructor
  ·rintro (h|⟨j,h1,h2,h3⟩)
   ·exact .inl h
   ·exact .inr ⟨j,h1,(AO.1 h2).1,fun v hv=>(PbR.wo_can (hf.sub j8p)).1 (h3 v hv)⟩
  ·rintro (h|⟨j,h1,h2,h3⟩)
   ·exact .inl h
   ·by_cases e:j=i
    ·subst e;by_cases hl:l=[]
     ·subst hl;exact .inl fun p hp=>absurd hp (by simp)
     ·obtain⟨p,hp⟩:=AC l hl;have hv:K.X j p∈cellsOf (K.X j) l:=j7x.2 ⟨p,hp,rfl⟩;have:=h3 _ hv;rw[hf.part hv] at this;exact PbR.can_succ ((PbR.wo_can hf).2 this)
    ·exact .inr ⟨j,h1,AO.2 ⟨h2,decide_eq_true e⟩,fun v hv=>(PbR.wo_can (hf.sub j8p)).2 (h3 v hv)⟩
theorem PbR.wo_mind {K:PbR}{i n:Nat}{l:List Nat}(hf:k0m (K.X i) l):(K.wo i).mind n l↔K.mind n l:=by unfold PbR.mind;rw[PbR.wo_can hf];exact and_congr_right fun _=>forall_congr' fun m=>imp_congr_right fun _=>not_congr (PbR.wo_can hf)
theorem PbR.wo_bt {K:PbR}{i:Nat}: ∀{n:Nat} {l:List Nat},k0m (K.X i) l->(K.wo i).bt n l=K.bt n l
 |0,_,_=>rfl
 |n+1,l,hf=>by
  by_cases hc:K.can n l
  ·rw[PbR.bt,PbR.bt,if_pos hc,if_pos ((PbR.wo_can hf).2 hc)];exact PbR.wo_bt hf
  ·have hsp: ∀j,(K.wo i).sp n l j↔K.sp n l j:=fun j=>by
    constructor
    ·rintro⟨h1,h2⟩;exact⟨(AO.1 h1).1,fun v hv=>(PbR.wo_can (hf.sub j8p)).1 (h2 v hv)⟩
    ·rintro⟨h1,h2⟩;by_cases e:j=i
     ·subst e;exfalso;by_cases hl:l=[]
      ·subst hl;exact hc (PbR.can_dec (fun p hp=>absurd hp (by simp)) n)
      ·obtain⟨p,hp⟩:=AC l hl;have hv:K.X j p∈cellsOf (K.X j) l:=j7x.2 ⟨p,hp,rfl⟩;have:=h2 _ hv;rw[hf.part hv] at this;exact hc this
     ·exact⟨AO.2 ⟨h1,decide_eq_true e⟩,fun v hv=>(PbR.wo_can (hf.sub j8p)).2 (h2 v hv)⟩
   have hfs:j9f ((K.wo i).sp n l) (K.wo i).nl=j9f (K.sp n l) K.nl:=k0r (n:=K.nl) fun j _=>hsp j;rw[PbR.bt,PbR.bt,if_neg hc,if_neg (fun h=>hc ((PbR.wo_can hf).1 h)),hfs];show j8y _ (cellsOf (K.X _) l) (fun j=>(K.wo i).bt n (K.pt _ l j))=_;congr 1;funext j;exact PbR.wo_bt (hf.sub j8p)
theorem j8q {X Y:Nat->AF}{l:List Nat}(h: ∀p,p∈l->X p=Y p):cellsOf X l=cellsOf Y l:=
 k1h (j8b X l) (j8b Y l) fun v=>by
  rw[j7x,j7x];exact exists_congr fun p=>and_congr_right fun hp=>by rw[h p hp]
theorem j9d {X Y:Nat->AF}{v:AF}{l:List Nat}(h: ∀p,p∈l->X p=Y p):j7u X v l=j7u Y v l:=List.filter_congr fun p hp=>by rw[h p hp]
structure PbR.same (K K':PbR)(l:List Nat):Prop where
 nl:K.nl=K'.nl
 A: ∀i,i<K.nl->K.A i=K'.A i
 X: ∀i,i<K.nl-> ∀p,p∈l->K.X i p=K'.X i p
 G: ∀p,p∈l-> ∀q,q∈l->(K.G p=K.G q↔K'.G p=K'.G q)
theorem PbR.same.sub {K K':PbR}{l m:List Nat}(h:K.same K' l)(hs: ∀p,p∈m->p∈l):K.same K' m:=⟨h.nl,h.A,fun i hi p hp=>h.X i hi p (hs p hp),fun p hp q hq=>h.G p (hs p hp) q (hs q hq)⟩
theorem PbR.same.dec {K K':PbR}{l:List Nat}(h:K.same K' l):k1e K.G l↔k1e K'.G l:=
 ⟨fun hd p hp q hq=>(h.G p hp q hq).1 (hd p hp q hq),fun hd p hp q hq=>(h.G p hp q hq).2 (hd p hp q hq)⟩
theorem PbR.same.can {K K':PbR}: ∀{n:Nat} {l:List Nat},K.same K' l->(K.can n l↔K'.can n l)
 |0,_,h=>h.dec
 |n+1,l,h=>or_congr h.dec (exists_congr fun i=>by
  rw[<-h.nl];refine and_congr_right fun hi=> ?_;rw[h.A i hi,j8q (h.X i hi)];refine and_congr_right fun _=>forall_congr' fun v=>imp_congr_right fun _=> ?_;rw[j9d (h.X i hi)];exact PbR.same.can (h.sub j8p))
theorem PbR.same.mind {K K':PbR}{n:Nat}{l:List Nat}(h:K.same K' l):K.mind n l↔K'.mind n l:=by unfold PbR.mind;rw[h.can];exact and_congr_right fun _=>forall_congr' fun m=>imp_congr_right fun _=>not_congr h.can
theorem PbR.same.sp {K K':PbR}{n i:Nat}{l:List Nat}(h:K.same K' l)(hi:i<K.nl):K.sp n l i↔K'.sp n l i:=by unfold PbR.sp;rw[h.A i hi,j8q (h.X i hi)];refine and_congr_right fun _=>forall_congr' fun v=>imp_congr_right fun _=> ?_;rw[j9d (h.X i hi)];exact (h.sub j8p).can
theorem PbR.same.bt {K K':PbR}: ∀{n:Nat} {l:List Nat},K.same K' l->K.can n l->K.bt n l=K'.bt n l
 |0,_,_,_=>rfl
 |n+1,l,h,hc=>by
  by_cases hn:K.can n l
  ·rw[PbR.bt,PbR.bt,if_pos hn,if_pos (h.can.1 hn)];exact PbR.same.bt h hn
  ·have hm:K.mind (n+1) l:=⟨hc,fun m hm hc'=>hn (PbR.can_le hc' (by omega))⟩;obtain⟨f1,f2,f3⟩:=hm.fst;obtain⟨g1,g2,g3⟩:=(h.mind.1 hm).fst;have e:j9f (K.sp n l) K.nl=j9f (K'.sp n l) K'.nl:=by rw[<-h.nl];exact k0r fun i hi=>h.sp hi
   rw[f3,g3,<-e];rw[j8q (h.X _ f1)];refine k1i fun j hj=> ?_;have hp:K.pt (j9f (K.sp n l) K.nl) l j=K'.pt (j9f (K.sp n l) K.nl) l j:=by unfold PbR.pt;rw[j8q (h.X _ f1),j9d (h.X _ f1)]
   rw[<-hp];exact PbR.same.bt (h.sub j8p) (PbR.pt_can f2 (by rw[j8q (h.X _ f1)];exact hj))
def PbR.res (K:PbR)(l:List Nat)(z:Bool)(d:Nat)(r:A6):Prop:=
 (z=Aj->K.mind d l/\r=K.bt d l)/\(z=AR->d=0/\r= .none/\ ∀n,¬K.can n l)
theorem PbR.res_ex (K:PbR)(l:List Nat): ∃z d r,K.res l z d r:=by
 by_cases h: ∃n,K.can n l
 ·obtain⟨n,hn⟩:=h;obtain⟨m,_,hm⟩:=PbR.mind_ex hn;exact⟨Aj,m,K.bt m l,⟨fun _=>⟨hm,rfl⟩,fun h=>(by cases h)⟩⟩
 ·exact⟨AR,0,.none,⟨fun h=>(by cases h),fun _=>⟨rfl,rfl,fun n hn=>h ⟨n,hn⟩⟩⟩⟩
theorem PbR.res_wo {K:PbR}{i:Nat}{l:List Nat}{z:Bool}{d:Nat}{r:A6}(hf:k0m (K.X i) l):(K.wo i).res l z d r↔K.res l z d r:=by unfold PbR.res;rw[PbR.wo_mind hf,PbR.wo_bt hf];exact and_congr_right fun _=>imp_congr_right fun _=>and_congr_right fun _=>and_congr_right fun _=>forall_congr' fun m=>not_congr (PbR.wo_can hf)
theorem PbR.res_uniq {K:PbR}{l:List Nat}{z z':Bool}{d d':Nat}{r r':A6}(h:K.res l z d r)(h':K.res l z' d' r'):z=z'/\d=d'/\r=r':=by
 cases z with
 |true=>
  obtain⟨h1,h2⟩:=h.1 rfl;cases z' with
  |true=>obtain⟨h3,h4⟩:=h'.1 rfl;obtain rfl:=h1.uniq h3;exact⟨rfl,rfl,h2.trans h4.symm⟩
  |false=>exact absurd h1.1 ((h'.2 rfl).2.2 d)
 |false=>
  obtain⟨h1,h2,h3⟩:=h.2 rfl;cases z' with
  |true=>exact absurd (h'.1 rfl).1.1 (h3 d')
  |false=>obtain⟨h4,h5,_⟩:=h'.2 rfl;exact⟨rfl,h1.trans h4.symm,h2.trans h5.symm⟩
theorem PbR.same.res {K K':PbR}{l:List Nat}{z:Bool}{d:Nat}{r:A6}(h:K.same K' l):K.res l z d r↔K'.res l z d r:=by
 unfold PbR.res;refine and_congr (imp_congr_right fun _=> ?_) (imp_congr_right fun _=>and_congr_right fun _=>and_congr_right fun _=>forall_congr' fun n=>not_congr h.can);rw[h.mind];exact and_congr_right fun hm=>by rw[h.bt (h.mind.2 hm).1]
def PbR.upto (K:PbR)(l:List Nat)(i:Nat)(is:Bool)(d j:Nat):Prop:=
 (is=AR-> ∀a,a<i-> ∀n,¬K.sp n l a)/\(is=Aj->j<i/\K.sp d l j/\(∀a,a<i-> ∀m,m<d-> ¬K.sp m l a)/\ ∀a,a<j-> ¬K.sp d l a)
theorem PbR.upto0 (K:PbR)(l:List Nat):K.upto l 0 AR 0 0:=⟨fun _ a ha=>absurd ha (AS a),fun h=>(by cases h)⟩
theorem PbR.upto_no {K:PbR}{l:List Nat}{i d j:Nat}{is:Bool}(h:K.upto l i is d j)(hn: ∀n,¬K.sp n l i):K.upto l (i+1) is d j:=
 ⟨fun e a ha n=>by
   by_cases e2:a=i
   ·subst e2;exact hn n
   ·exact h.1 e a (by omega) n,fun e=>by
   obtain⟨h1,h2,h3,h4⟩:=h.2 e;refine⟨by omega,h2,fun a ha m hm=> ?_,h4⟩;by_cases e2:a=i
   ·subst e2;exact hn m
   ·exact h3 a (by omega) m hm⟩
theorem PbR.upto_new {K:PbR}{l:List Nat}{i d j e:Nat}{is:Bool}(h:K.upto l i is d j)(h1:K.sp e l i)(h2: ∀m,m<e-> ¬K.sp m l i)(hb:is=Aj->e<d):K.upto l (i+1) Aj e i:=
 ⟨fun h=>(by cases h),fun _=>⟨by omega,h1,fun a ha m hm=>by
   by_cases e2:a=i
   ·subst e2;exact h2 m hm
   ·cases is with
    |false=>exact h.1 rfl a (by omega) m
    |true=>exact (h.2 rfl).2.2.1 a (by omega) m (by have:=hb rfl;omega),fun a ha=>by
   cases is with
   |false=>exact h.1 rfl a (by omega) e
   |true=>exact (h.2 rfl).2.2.1 a (by omega) e (hb rfl)⟩⟩
theorem PbR.upto_old {K:PbR}{l:List Nat}{i d j e:Nat}(h:K.upto l i Aj d j)(h2: ∀m,m<e-> ¬K.sp m l i)(hb:d<=e):K.upto l (i+1) Aj d j:=
 ⟨fun h=>(by cases h),fun _=>by
   obtain⟨g1,g2,g3,g4⟩:=h.2 rfl;refine⟨by omega,g2,fun a ha m hm=> ?_,g4⟩;by_cases e2:a=i
   ·subst e2;exact h2 m (by omega)
   ·exact g3 a (by omega) m hm⟩
theorem PbR.upto_end {K:PbR}{l:List Nat}{d j:Nat}{is:Bool}(h:K.upto l K.nl is d j)(hd: ¬k1e K.G l):(is=AR-> ∀n,¬K.can n l)/\(is=Aj->K.mind (d+1) l/\K.bt (d+1) l=j8y j (cellsOf (K.X j) l) fun t=>K.bt d (K.pt j l t)):=by
 constructor
 ·intro e n hn;cases n with
  |zero=>exact hd hn
  |succ n=>
   rcases hn with hn|⟨a,h1,h2,h3⟩
   ·exact hd hn
   ·exact h.1 e a h1 n ⟨h2,h3⟩
 ·intro e;obtain⟨h1,h2,h3,h4⟩:=h.2 e;have hm:K.mind (d+1) l:=⟨.inr ⟨j,h1,h2.1,h2.2⟩,fun m hm hc=>by
   cases m with
   |zero=>exact hd hc
   |succ m=>
    rcases hc with hc|⟨a,g1,g2,g3⟩
    ·exact hd hc
    ·exact h3 a g1 m (by omega) ⟨g2,g3⟩⟩
  obtain⟨f1,f2,f3⟩:=hm.fst;have:j9f (K.sp d l) K.nl=j:=k1g h1 h2 h4;rw[this] at f3;exact⟨hm,f3⟩
def mxP (D:Nat->Nat):Nat->Nat
 |0=>0
 |p+1=>max (mxP D p) (D p)
theorem k2n {D:Nat->Nat}: ∀{p j:Nat},j<p->D j<=mxP D p
 |0,j,h=>absurd h (AS j)
 |p+1,j,h=>by
  simp only[mxP];by_cases e:j=p
  ·subst e;omega
  ·have:=k2n (D:=D) (show j<p by omega);omega
theorem k2j {D:Nat->Nat}: ∀{p:Nat},0<p-> ∃j,j<p/\mxP D p=D j
 |0,h=>absurd h (Am 0)
 |p+1,_=>by
  by_cases h:mxP D p<=D p
  ·exact⟨p,Aw p,by simp only[mxP];omega⟩
  ·rcases Nat.eq_zero_or_pos p with e|e
   ·subst e;simp only[mxP] at h;omega
   ·obtain⟨j,h1,h2⟩:=k2j (D:=D) e;exact⟨j,by omega,by simp only[mxP];omega⟩
theorem k3l {D:Nat->Nat}{B:Nat}: ∀{p:Nat},(∀j,j<p->D j<=B)->mxP D p<=B
 |0,_=>Ar _
 |p+1,h=>by have:=k3l (D:=D) (B:=B) (p:=p) fun j hj=>h j (by omega);have:=h p (Aw p);simp only[mxP];omega
theorem k1f {cs:List AF}{v:AF}(h:v∈cs): ∃j,j<cs.length/\cs.getD j ⟨0,0⟩=v:=by obtain⟨j,hj,e⟩:=List.getElem_of_mem h;exact⟨j,hj,by rw[AA,AB hj,<-e];rfl⟩
theorem PbR.sp_max {K:PbR}{l:List Nat}{i:Nat}(hl:l≠[])(hA:K.A i=Aj){D:Nat->Nat}(hD: ∀j,j<(cellsOf (K.X i) l).length->K.mind (D j) (K.pt i l j)):
 K.sp (mxP D (cellsOf (K.X i) l).length) l i/\ ∀m,m<mxP D (cellsOf (K.X i) l).length-> ¬K.sp m l i:=by
 refine⟨⟨hA,fun v hv=> ?_⟩,fun m hm h=> ?_⟩
 ·obtain⟨j,hj,rfl⟩:=k1f hv;exact PbR.can_le (hD j hj).1 (k2n hj)
 ·obtain⟨j,hj,e⟩:=k2j (D:=D) (AT.2 (j9y (X:=K.X i) hl));exact (hD j hj).2 m (by omega) (PbR.pt_can h hj)
end Go.Proofs.Tryz.Run
