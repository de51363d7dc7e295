/- Plans: which cells places have, whether looks decide them, the best plan. The search for a best plan: a look that shows nothing more; the best of some looks. Where a cell belongs among ascending ones; the parts of places when one more comes. Conditions: none. -/
import Derived.Test.YtbglklaocjifhaaGreatEHb
import Derived.Test.YtbglklaocjifhaaGreatEJh
open List renaming getD_eq_getElem?_getD->AA,exists_mem_of_ne_nil->AB,length_take->AC,getElem?_eq_getElem->AD,pairwise_cons->AG,mem_cons->AH,mem_cons_of_mem->AI,length_cons->AL,getElem?_append_right->AN,sum_cons->AO,map_cons->AP,length_pos_iff->AS
open Go.Proofs.Tryz.Run renaming VaR->AE,vlt->AT,PlR->AY
open Nat renaming not_lt_zero->AF,lt_trichotomy->AK,le_refl->AM,lt_irrefl->AQ,lt_succ_self->AU,zero_le->AW
open Bool renaming and_eq_true_iff->AJ,true->AR,false->AX
set_option linter.unusedSimpArgs false
set_option linter.unusedVariables false
namespace Go.Proofs.Tryz.Run
open Go Go.Vf Go.Proofs
instance vltDec (a b:AE):Decidable (AT a b):=inferInstanceAs (Decidable (a.fault<b.fault\/a.fault=b.fault/\a.n<b.n))
theorem j9m (a:AE): ¬AT a a:=by unfold AT;omega
theorem j9w {a b c:AE}:AT a b->AT b c->AT a c:=by unfold AT;omega
theorem k1m {a b:AE}(h: ¬AT a b)(h2:a≠b):AT b a:=by
 unfold AT at*
 have: ¬(a.fault=b.fault/\a.n=b.n):=fun⟨x,y⟩=>h2 (by cases a;cases b;simp_all);omega
def k1d (v:AE):List AE->List AE
 |[]=>[v]
 |c::cs=>if AT c v then c::k1d v cs else if c=v then c::cs else v::c::cs
theorem k0d {v w:AE}: ∀{cs:List AE},w∈k1d v cs↔w=v\/w∈cs
 |[]=>by simp[k1d]
 |c::cs=>by
  unfold k1d;split
  ·simp only[AH,k0d (cs:=cs)];constructor
   ·rintro (h|h|h)<;>simp[h]
   ·rintro (h|h|h)<;>simp[h]
  ·split
   ·rename_i h;subst h;simp
   ·simp
theorem k1s {v:AE}: ∀{cs:List AE},cs.Pairwise AT->(k1d v cs).Pairwise AT
 |[],_=>by simp[k1d]
 |c::cs,h=>by
  obtain⟨h1,h2⟩:=AG.1 h;unfold k1d;split
  ·rename_i hc;refine AG.2 ⟨fun w hw=> ?_,k1s h2⟩;rcases k0d.1 hw with rfl|hw
   ·exact hc
   ·exact h1 w hw
  ·split
   ·exact h
   ·rename_i hc he;have:=k1m hc he;refine AG.2 ⟨fun w hw=> ?_,h⟩;rcases AH.1 hw with rfl|hw
    ·exact this
    ·exact j9w this (h1 w hw)
def cellsOf (X:Nat->AE)(l:List Nat):List AE:=l.foldl (fun cs p=>k1d (X p) cs) []
def j7u (X:Nat->AE)(v:AE)(l:List Nat):List Nat:=l.filter fun p=>decide (X p=v)
theorem j8d (X:Nat->AE)(l:List Nat)(p:Nat):cellsOf X (l++[p])=k1d (X p) (cellsOf X l):=by simp[cellsOf]
theorem j8i (X:Nat->AE)(v:AE)(l:List Nat)(p:Nat):j7u X v (l++[p])=if X p=v then j7u X v l++[p] else j7u X v l:=by unfold j7u;rw[List.filter_append];by_cases h:X p=v<;>simp[h]
theorem j9p {P:List Nat->Prop}(h0:P [])(h1: ∀l p,P l->P (l++[p]))(l:List Nat):P l:=by
 have: ∀m:List Nat,P m.reverse:=fun m=>by
  induction m with
  |nil=>exact h0
  |cons x m ih=>rw[List.reverse_cons];exact h1 _ _ ih
 simpa using this l.reverse
theorem j7x {X:Nat->AE}{v:AE}{l:List Nat}:v∈cellsOf X l↔ ∃p,p∈l/\X p=v:=by
 induction l using j9p with
 |h0=>simp[cellsOf]
 |h1 l p ih=>
  rw[j8d,k0d,ih];constructor
  ·rintro (h|⟨q,hq,h⟩)
   ·exact⟨p,by simp,h.symm⟩
   ·exact⟨q,by simp[hq],h⟩
  ·rintro⟨q,hq,h⟩;rcases List.mem_append.1 hq with hq|hq
   ·exact .inr ⟨q,hq,h⟩
   ·rw[List.mem_singleton] at hq;subst hq;exact .inl h.symm
theorem j8b (X:Nat->AE)(l:List Nat):(cellsOf X l).Pairwise AT:=by
 induction l using j9p with
 |h0=>simp[cellsOf]
 |h1 l p ih=>rw[j8d];exact k1s ih
theorem j9u {l:List AE}(h:l.Pairwise AT):l.Nodup:=h.imp fun {a b} hab=>by intro e;subst e;exact j9m _ hab
theorem k1h: ∀{a b:List AE},a.Pairwise AT->b.Pairwise AT->(∀v,v∈a↔v∈b)->a=b
 |[],[],_,_,_=>rfl
 |[],y::b,_,_,h=>by have:=(h y).2 (by simp);simp at this
 |x::a,[],_,_,h=>by have:=(h x).1 (by simp);simp at this
 |x::a,y::b,ha,hb,h=>by
  obtain⟨a1,a2⟩:=AG.1 ha;obtain⟨b1,b2⟩:=AG.1 hb;have exy:x=y:=by
   rcases AH.1 ((h x).1 (by simp)) with e|e
   ·exact e
   rcases AH.1 ((h y).2 (by simp)) with e'|e'
   ·exact e'.symm
   exact absurd (j9w (b1 x e) (a1 y e')) (j9m y)
  subst exy;refine congrArg _ (k1h a2 b2 fun v=>⟨fun hv=> ?_,fun hv=> ?_⟩)
  ·rcases AH.1 ((h v).1 (AI _ hv)) with e|e
   ·subst e;exact absurd (a1 v hv) (j9m v)
   ·exact e
  ·rcases AH.1 ((h v).2 (AI _ hv)) with e|e
   ·subst e;exact absurd (b1 v hv) (j9m v)
   ·exact e
theorem j8c {X:Nat->AE}{v:AE}{l:List Nat}{p:Nat}:p∈j7u X v l↔p∈l/\X p=v:=by simp[j7u]
theorem j9e {X:Nat->AE}{v:AE}{l:List Nat}(h:v∈cellsOf X l):j7u X v l≠[]:=fun e=>by obtain⟨p,hp,hx⟩:=j7x.1 h;have:p∈j7u X v l:=j8c.2 ⟨hp,hx⟩;rw[e] at this;simp at this
theorem j9y {X:Nat->AE}{l:List Nat}(h:l≠[]):cellsOf X l≠[]:=fun e=>by obtain⟨p,hp⟩:=AB l h;have:=(j7x (X:=X)).2 ⟨p,hp,rfl⟩;rw[e] at this;simp at this
def k0m (X:Nat->AE)(l:List Nat):Prop:= ∀p,p∈l-> ∀q,q∈l->X p=X q
theorem k0m.part {X:Nat->AE}{l:List Nat}(h:k0m X l){v:AE}(hv:v∈cellsOf X l):j7u X v l=l:=by obtain⟨p,hp,hx⟩:=j7x.1 hv;exact List.filter_eq_self.2 fun q hq=>decide_eq_true ((h q hq p hp).trans hx)
theorem k0m.sub {X:Nat->AE}{l m:List Nat}(h:k0m X l)(hs: ∀p,p∈m->p∈l):k0m X m:=fun p hp q hq=>h p (hs p hp) q (hs q hq)
theorem k0v {X:Nat->AE}{v:AE}{l:List Nat}:k0m X (j7u X v l):=fun p hp q hq=>((j8c.1 hp).2).trans (j8c.1 hq).2.symm
structure PbR where
 nl:Nat
 A:Nat->Bool
 X:Nat->Nat->AE
 G:Nat->Bool
def k1e (G:Nat->Bool)(l:List Nat):Prop:= ∀p,p∈l-> ∀q,q∈l->G p=G q
def PbR.can (K:PbR):Nat->List Nat->Prop
 |0,l=>k1e K.G l
 |n+1,l=>k1e K.G l\/ ∃i,i<K.nl/\K.A i=AR/\ ∀v,v∈cellsOf (K.X i) l->PbR.can K n (j7u (K.X i) v l)
theorem PbR.can_dec {K:PbR}{l:List Nat}(h:k1e K.G l): ∀n,K.can n l
 |0=>h
 |_+1=> .inl h
theorem PbR.can_succ {K:PbR}: ∀{n:Nat} {l:List Nat},K.can n l->K.can (n+1) l
 |0,_,h=> .inl h
 |_+1,_,.inl h=> .inl h
 |_+1,_,.inr ⟨i,h1,h2,h3⟩=> .inr ⟨i,h1,h2,fun v hv=>PbR.can_succ (h3 v hv)⟩
theorem PbR.can_le {K:PbR}{n m:Nat}{l:List Nat}(h:K.can n l)(hm:n<=m):K.can m l:=by
 obtain⟨d,rfl⟩: ∃d,m=n+d:=⟨m-n,by omega⟩;clear hm
 induction d with
 |zero=>exact h
 |succ d ih=>exact PbR.can_succ ih
noncomputable def j9f (P:Nat->Prop):Nat->Nat
 |0=>0
 |n+1=>by classical exact if j9f P n<n then j9f P n else if P n then n else n+1
theorem j9c (P:Nat->Prop): ∀n,j9f P n<=n/\(j9f P n<n->P (j9f P n))/\ ∀j,j<j9f P n-> ¬P j
 |0=>⟨AM _,fun h=>absurd h (AQ _),fun j hj=>absurd hj (AF _)⟩
 |n+1=>by
  obtain⟨h1,h2,h3⟩:=j9c P n;unfold j9f;split
  ·rename_i h;exact⟨by omega,fun _=>h2 h,h3⟩
  ·rename_i h;have e:j9f P n=n:=by omega
   rw[e] at h3;split
   ·rename_i h4;exact⟨by omega,fun _=>h4,h3⟩
   ·rename_i h4;refine⟨AM _,fun h=>absurd h (AQ _),fun j hj=> ?_⟩;by_cases ej:j=n
    ·subst ej;exact h4
    ·exact h3 j (by omega)
theorem k1g {P:Nat->Prop}{n i:Nat}(hi:i<n)(h:P i)(hj: ∀j,j<i-> ¬P j):j9f P n=i:=by
 obtain⟨h1,h2,h3⟩:=j9c P n;rcases AK (j9f P n) i with h'|h'|h'
 ·exact absurd (h2 (by omega)) (hj _ h')
 ·exact h'
 ·exact absurd h (h3 i h')
theorem k0r {P Q:Nat->Prop}{n:Nat}(h: ∀i,i<n->(P i↔Q i)):j9f P n=j9f Q n:=by
 obtain⟨h1,h2,h3⟩:=j9c Q n;by_cases hq:j9f Q n<n
 ·exact k1g hq ((h _ hq).2 (h2 hq)) fun j hj h'=>h3 j hj ((h j (by omega)).1 h')
 ·obtain⟨g1,g2,g3⟩:=j9c P n;by_cases hp:j9f P n<n
  ·exact absurd ((h _ hp).1 (g2 hp)) (h3 _ (by omega))
  ·omega
def k0p:AY:= .mk (-1) 0 (fun _=>⟨0,0⟩) 0 fun _=> .none
def j8y (i:Nat)(cs:List AE)(f:Nat->AY):AY:= .mk i cs.length (fun j=>cs.getD j ⟨0,0⟩) cs.length fun j=>if j<cs.length then f j else .none
theorem k1i {i:Nat}{cs:List AE}{f g:Nat->AY}(h: ∀j,j<cs.length->f j=g j):j8y i cs f=j8y i cs g:=by
 unfold j8y;congr 1;funext j;split
 ·rename_i hj;exact h j hj
 ·rfl
def PbR.sp (K:PbR)(n:Nat)(l:List Nat)(i:Nat):Prop:=K.A i=AR/\ ∀v,v∈cellsOf (K.X i) l->K.can n (j7u (K.X i) v l)
def PbR.pt (K:PbR)(i:Nat)(l:List Nat)(j:Nat):List Nat:=j7u (K.X i) ((cellsOf (K.X i) l).getD j ⟨0,0⟩) l
noncomputable def PbR.bt (K:PbR):Nat->List Nat->AY
 |0,_=>k0p
 |n+1,l=>by classical exact if K.can n l then PbR.bt K n l else j8y (j9f (K.sp n l) K.nl) (cellsOf (K.X (j9f (K.sp n l) K.nl)) l) fun j=>PbR.bt K n (K.pt (j9f (K.sp n l) K.nl) l j)
theorem PbR.bt_le {K:PbR}{n m:Nat}{l:List Nat}(h:K.can n l)(hm:n<=m):K.bt m l=K.bt n l:=by
 obtain⟨d,rfl⟩: ∃d,m=n+d:=⟨m-n,by omega⟩;clear hm
 induction d with
 |zero=>rfl
 |succ d ih=>rw[<-ih];show PbR.bt K (n+d+1) l=_;rw[PbR.bt,if_pos (PbR.can_le h (by omega))]
theorem j8e {cs:List AE}{j:Nat}(h:j<cs.length):cs.getD j ⟨0,0⟩∈cs:=by rw[AA,AD h];exact List.getElem_mem h
def PbR.mind (K:PbR)(n:Nat)(l:List Nat):Prop:=K.can n l/\ ∀m,m<n-> ¬K.can m l
theorem PbR.mind_ex {K:PbR}{l:List Nat}: ∀{n:Nat},K.can n l-> ∃m,m<=n/\K.mind m l:=by
 intro n
 induction n using Nat.strongRecOn with
 |ind n ih=>
  intro h;by_cases g: ∃m,m<n/\K.can m l
  ·obtain⟨m,h1,h2⟩:=g;obtain⟨k,h3,h4⟩:=ih m h1 h2;exact⟨k,by omega,h4⟩
  ·exact⟨n,AM _,h,fun m hm hc=>g ⟨m,hm,hc⟩⟩
theorem PbR.mind.uniq {K:PbR}{l:List Nat}{n m:Nat}(h:K.mind n l)(h':K.mind m l):n=m:=by
 rcases AK n m with e|e|e
 ·exact absurd h.1 (h'.2 n e)
 ·exact e
 ·exact absurd h'.1 (h.2 m e)
theorem PbR.mind.dec {K:PbR}{l:List Nat}{n:Nat}(h:K.mind (n+1) l): ¬k1e K.G l:=fun hd=>h.2 0 (by omega) hd
theorem PbR.mind.fst {K:PbR}{l:List Nat}{n:Nat}(h:K.mind (n+1) l):j9f (K.sp n l) K.nl<K.nl/\K.sp n l (j9f (K.sp n l) K.nl)/\K.bt (n+1) l=j8y (j9f (K.sp n l) K.nl) (cellsOf (K.X (j9f (K.sp n l) K.nl)) l) fun j=>K.bt n (K.pt (j9f (K.sp n l) K.nl) l j):=by
 have h1: ∃i,i<K.nl/\K.sp n l i:=by
  rcases h.1 with hd|⟨i,h1,h2,h3⟩
  ·exact absurd hd h.dec
  ·exact⟨i,h1,h2,h3⟩
 obtain⟨i,hi,hs⟩:=h1;obtain⟨g1,g2,g3⟩:=j9c (K.sp n l) K.nl;have hlt:j9f (K.sp n l) K.nl<K.nl:=Classical.byContradiction fun hn=>g3 i (by omega) hs;exact⟨hlt,g2 hlt,by rw[PbR.bt,if_neg (h.2 n (by omega))]⟩
theorem PbR.pt_can {K:PbR}{l:List Nat}{n i:Nat}(h:K.sp n l i){j:Nat}(hj:j<(cellsOf (K.X i) l).length):K.can n (K.pt i l j):=h.2 _ (j8e hj)
theorem k0n (X:Nat->AE)(cs:List AE)(hn:cs.Nodup): ∀l:List Nat,(∀p,p∈l->X p∈cs)->(cs.map fun v=>(j7u X v l).length).sum=l.length
 |[],_=>by
  have: ∀cs:List AE,(cs.map fun v=>(j7u X v []).length).sum=0:=fun cs=>by
   induction cs with
   |nil=>rfl
   |cons c cs ih=>simp only[AP,AO,ih];rfl
  exact this cs
 |p::l,h=>by
  have ih:=k0n X cs hn l fun q hq=>h q (AI _ hq);have hp:=h p (by simp);have: ∀cs:List AE,cs.Nodup->(cs.map fun v=>(j7u X v (p::l)).length).sum=(cs.map fun v=>(j7u X v l).length).sum+if X p∈cs then 1 else 0:=by
   intro cs
   induction cs with
   |nil=>intro _;simp
   |cons c cs ih=>
    intro hn;obtain⟨h1,h2⟩:=List.nodup_cons.1 hn;simp only[AP,AO,ih h2];by_cases e:X p=c
    ·subst e;have e1:(j7u X (X p) (p::l)).length=(j7u X (X p) l).length+1:=by simp[j7u]
     rw[e1,if_neg h1,if_pos (by simp)];omega
    ·have e1:(j7u X c (p::l)).length=(j7u X c l).length:=by simp[j7u,e]
     have e2:(X p∈c::cs)↔X p∈cs:=by simp[e]
     rw[e1];simp only[e2];omega
  rw[this cs hn,ih,if_pos hp];simp
theorem j9v (X:Nat->AE)(l:List Nat):(cellsOf X l).length<=l.length:=by
 have h:=k0n X (cellsOf X l) (j9u (j8b X l)) l fun p hp=>j7x.2 ⟨p,hp,rfl⟩;rw[<-h];have: ∀cs:List AE,(∀v,v∈cs->1<=(j7u X v l).length)->cs.length<=(cs.map fun v=>(j7u X v l).length).sum:=by
  intro cs
  induction cs with
  |nil=>intro _;simp
  |cons c cs ih=>intro h;have:=ih fun v hv=>h v (AI _ hv);have:=h c (by simp);simp only[AL,AP,AO];omega
 exact this _ fun v hv=>AS.2 (j9e hv)
theorem PbR.can_left (K:PbR): ∀(us:List Nat) (l:List Nat) (n:Nat),(∀i,i<K.nl->K.A i=AR->i∉us->k0m (K.X i) l)->K.can n l->K.can us.length l:=by
 intro us
 induction hu:us.length generalizing us with
 |zero=>
  intro l n h hc;have:us=[]:=List.length_eq_zero_iff.1 hu;subst this;have hz: ∀n,K.can n l->k1e K.G l:=fun n=>by
   induction n with
   |zero=>exact fun h=>h
   |succ n ih=>
    rintro (hd|⟨i,h1,h2,h3⟩)
    ·exact hd
    ·by_cases hl:l=[]
     ·subst hl;exact fun p hp=>absurd hp (by simp)
     obtain⟨p,hp⟩:=AB l hl;have hv:K.X i p∈cellsOf (K.X i) l:=j7x.2 ⟨p,hp,rfl⟩;have:=h3 _ hv;rw[(h i h1 h2 (by simp)).part hv] at this;exact ih this
  exact hz n hc
 |succ k ih=>
  intro l n h hc;obtain⟨m,_,hm⟩:=PbR.mind_ex hc;cases m with
  |zero=>exact PbR.can_dec hm.1 _
  |succ m=>
   rcases hm.1 with hd|⟨i,h1,h2,h3⟩
   ·exact absurd hd hm.dec
   by_cases hi:i∈us
   ·refine .inr ⟨i,h1,h2,fun v hv=> ?_⟩;refine ih (us.erase i) (by rw[List.length_erase_of_mem hi];omega) _ m (fun i' g1 g2 g3=> ?_) (h3 v hv);by_cases e:i'=i
    ·subst e;exact k0v
    ·exact (h i' g1 g2 fun hmem=>g3 ((List.mem_erase_of_ne e).2 hmem)).sub fun p hp=>(j8c.1 hp).1
   ·exfalso;by_cases hl:l=[]
    ·subst hl;exact hm.dec fun p hp=>absurd hp (by simp)
    obtain⟨p,hp⟩:=AB l hl;have hv:K.X i p∈cellsOf (K.X i) l:=j7x.2 ⟨p,hp,rfl⟩;have:=h3 _ hv;rw[(h i h1 h2 hi).part hv] at this;exact hm.2 m (by omega) this
def PbR.wo (K:PbR)(i:Nat):PbR:=⟨K.nl,fun j=>K.A j&&decide (j≠i),K.X,K.G⟩
theorem j8p {X:Nat->AE}{v:AE}{l:List Nat}: ∀p,p∈j7u X v l->p∈l:=fun _ h=>(j8c.1 h).1
theorem PbR.wo_can {K:PbR}{i:Nat}: ∀{n:Nat} {l:List Nat},k0m (K.X i) l->((K.wo i).can n l↔K.can n l)
 |0,_,_=>Iff.rfl
 |n+1,l,hf=>by
  constructor
  ·rintro (h|⟨j,h1,h2,h3⟩)
   ·exact .inl h
   ·exact .inr ⟨j,h1,(AJ.1 h2).1,fun v hv=>(PbR.wo_can (hf.sub j8p)).1 (h3 v hv)⟩
  ·rintro (h|⟨j,h1,h2,h3⟩)
   ·exact .inl h
   ·by_cases e:j=i
    ·subst e;by_cases hl:l=[]
     ·subst hl;exact .inl fun p hp=>absurd hp (by simp)
     ·obtain⟨p,hp⟩:=AB l hl;have hv:K.X j p∈cellsOf (K.X j) l:=j7x.2 ⟨p,hp,rfl⟩;have:=h3 _ hv;rw[hf.part hv] at this;exact PbR.can_succ ((PbR.wo_can hf).2 this)
    ·exact .inr ⟨j,h1,AJ.2 ⟨h2,decide_eq_true e⟩,fun v hv=>(PbR.wo_can (hf.sub j8p)).2 (h3 v hv)⟩
theorem PbR.wo_mind {K:PbR}{i n:Nat}{l:List Nat}(hf:k0m (K.X i) l):(K.wo i).mind n l↔K.mind n l:=by unfold PbR.mind;rw[PbR.wo_can hf];exact and_congr_right fun _=>forall_congr' fun m=>imp_congr_right fun _=>not_congr (PbR.wo_can hf)
theorem PbR.wo_bt {K:PbR}{i:Nat}: ∀{n:Nat} {l:List Nat},k0m (K.X i) l->(K.wo i).bt n l=K.bt n l
 |0,_,_=>rfl
 |n+1,l,hf=>by
  by_cases hc:K.can n l
  ·rw[PbR.bt,PbR.bt,if_pos hc,if_pos ((PbR.wo_can hf).2 hc)];exact PbR.wo_bt hf
  ·have hsp: ∀j,(K.wo i).sp n l j↔K.sp n l j:=fun j=>by
    constructor
    ·rintro⟨h1,h2⟩;exact⟨(AJ.1 h1).1,fun v hv=>(PbR.wo_can (hf.sub j8p)).1 (h2 v hv)⟩
    ·rintro⟨h1,h2⟩;by_cases e:j=i
     ·subst e;exfalso;by_cases hl:l=[]
      ·subst hl;exact hc (PbR.can_dec (fun p hp=>absurd hp (by simp)) n)
      ·obtain⟨p,hp⟩:=AB l hl;have hv:K.X j p∈cellsOf (K.X j) l:=j7x.2 ⟨p,hp,rfl⟩;have:=h2 _ hv;rw[hf.part hv] at this;exact hc this
     ·exact⟨AJ.2 ⟨h1,decide_eq_true e⟩,fun v hv=>(PbR.wo_can (hf.sub j8p)).2 (h2 v hv)⟩
   have hfs:j9f ((K.wo i).sp n l) (K.wo i).nl=j9f (K.sp n l) K.nl:=k0r (n:=K.nl) fun j _=>hsp j;rw[PbR.bt,PbR.bt,if_neg hc,if_neg (fun h=>hc ((PbR.wo_can hf).1 h)),hfs];show j8y _ (cellsOf (K.X _) l) (fun j=>(K.wo i).bt n (K.pt _ l j))=_;congr 1;funext j;exact PbR.wo_bt (hf.sub j8p)
theorem j8q {X Y:Nat->AE}{l:List Nat}(h: ∀p,p∈l->X p=Y p):cellsOf X l=cellsOf Y l:=
 k1h (j8b X l) (j8b Y l) fun v=>by
  rw[j7x,j7x];exact exists_congr fun p=>and_congr_right fun hp=>by rw[h p hp]
theorem j9d {X Y:Nat->AE}{v:AE}{l:List Nat}(h: ∀p,p∈l->X p=Y p):j7u X v l=j7u Y v l:=List.filter_congr fun p hp=>by rw[h p hp]
structure PbR.same (K K':PbR)(l:List Nat):Prop where
 nl:K.nl=K'.nl
 A: ∀i,i<K.nl->K.A i=K'.A i
 X: ∀i,i<K.nl-> ∀p,p∈l->K.X i p=K'.X i p
 G: ∀p,p∈l-> ∀q,q∈l->(K.G p=K.G q↔K'.G p=K'.G q)
theorem PbR.same.sub {K K':PbR}{l m:List Nat}(h:K.same K' l)(hs: ∀p,p∈m->p∈l):K.same K' m:=⟨h.nl,h.A,fun i hi p hp=>h.X i hi p (hs p hp),fun p hp q hq=>h.G p (hs p hp) q (hs q hq)⟩
theorem PbR.same.dec {K K':PbR}{l:List Nat}(h:K.same K' l):k1e K.G l↔k1e K'.G l:=
 ⟨fun hd p hp q hq=>(h.G p hp q hq).1 (hd p hp q hq),fun hd p hp q hq=>(h.G p hp q hq).2 (hd p hp q hq)⟩
theorem PbR.same.can {K K':PbR}: ∀{n:Nat} {l:List Nat},K.same K' l->(K.can n l↔K'.can n l)
 |0,_,h=>h.dec
 |n+1,l,h=>or_congr h.dec (exists_congr fun i=>by
  rw[<-h.nl];refine and_congr_right fun hi=> ?_;rw[h.A i hi,j8q (h.X i hi)];refine and_congr_right fun _=>forall_congr' fun v=>imp_congr_right fun _=> ?_;rw[j9d (h.X i hi)];exact PbR.same.can (h.sub j8p))
theorem PbR.same.mind {K K':PbR}{n:Nat}{l:List Nat}(h:K.same K' l):K.mind n l↔K'.mind n l:=by unfold PbR.mind;rw[h.can];exact and_congr_right fun _=>forall_congr' fun m=>imp_congr_right fun _=>not_congr h.can
theorem PbR.same.sp {K K':PbR}{n i:Nat}{l:List Nat}(h:K.same K' l)(hi:i<K.nl):K.sp n l i↔K'.sp n l i:=by unfold PbR.sp;rw[h.A i hi,j8q (h.X i hi)];refine and_congr_right fun _=>forall_congr' fun v=>imp_congr_right fun _=> ?_;rw[j9d (h.X i hi)];exact (h.sub j8p).can
theorem PbR.same.bt {K K':PbR}: ∀{n:Nat} {l:List Nat},K.same K' l->K.can n l->K.bt n l=K'.bt n l
 |0,_,_,_=>rfl
 |n+1,l,h,hc=>by
  by_cases hn:K.can n l
  ·rw[PbR.bt,PbR.bt,if_pos hn,if_pos (h.can.1 hn)];exact PbR.same.bt h hn
  ·have hm:K.mind (n+1) l:=⟨hc,fun m hm hc'=>hn (PbR.can_le hc' (by omega))⟩;obtain⟨f1,f2,f3⟩:=hm.fst;obtain⟨g1,g2,g3⟩:=(h.mind.1 hm).fst;have e:j9f (K.sp n l) K.nl=j9f (K'.sp n l) K'.nl:=by rw[<-h.nl];exact k0r fun i hi=>h.sp hi
   rw[f3,g3,<-e];rw[j8q (h.X _ f1)];refine k1i fun j hj=> ?_;have hp:K.pt (j9f (K.sp n l) K.nl) l j=K'.pt (j9f (K.sp n l) K.nl) l j:=by unfold PbR.pt;rw[j8q (h.X _ f1),j9d (h.X _ f1)]
   rw[<-hp];exact PbR.same.bt (h.sub j8p) (PbR.pt_can f2 (by rw[j8q (h.X _ f1)];exact hj))
def PbR.res (K:PbR)(l:List Nat)(z:Bool)(d:Nat)(r:AY):Prop:=
 (z=AR->K.mind d l/\r=K.bt d l)/\(z=AX->d=0/\r= .none/\ ∀n,¬K.can n l)
theorem PbR.res_ex (K:PbR)(l:List Nat): ∃z d r,K.res l z d r:=by
 by_cases h: ∃n,K.can n l
 ·obtain⟨n,hn⟩:=h;obtain⟨m,_,hm⟩:=PbR.mind_ex hn;exact⟨AR,m,K.bt m l,⟨fun _=>⟨hm,rfl⟩,fun h=>(by cases h)⟩⟩
 ·exact⟨AX,0,.none,⟨fun h=>(by cases h),fun _=>⟨rfl,rfl,fun n hn=>h ⟨n,hn⟩⟩⟩⟩
theorem PbR.res_wo {K:PbR}{i:Nat}{l:List Nat}{z:Bool}{d:Nat}{r:AY}(hf:k0m (K.X i) l):(K.wo i).res l z d r↔K.res l z d r:=by unfold PbR.res;rw[PbR.wo_mind hf,PbR.wo_bt hf];exact and_congr_right fun _=>imp_congr_right fun _=>and_congr_right fun _=>and_congr_right fun _=>forall_congr' fun m=>not_congr (PbR.wo_can hf)
theorem PbR.res_uniq {K:PbR}{l:List Nat}{z z':Bool}{d d':Nat}{r r':AY}(h:K.res l z d r)(h':K.res l z' d' r'):z=z'/\d=d'/\r=r':=by
 cases z with
 |true=>
  obtain⟨h1,h2⟩:=h.1 rfl;cases z' with
  |true=>obtain⟨h3,h4⟩:=h'.1 rfl;obtain rfl:=h1.uniq h3;exact⟨rfl,rfl,h2.trans h4.symm⟩
  |false=>exact absurd h1.1 ((h'.2 rfl).2.2 d)
 |false=>
  obtain⟨h1,h2,h3⟩:=h.2 rfl;cases z' with
  |true=>exact absurd (h'.1 rfl).1.1 (h3 d')
  |false=>obtain⟨h4,h5,_⟩:=h'.2 rfl;exact⟨rfl,h1.trans h4.symm,h2.trans h5.symm⟩
theorem PbR.same.res {K K':PbR}{l:List Nat}{z:Bool}{d:Nat}{r:AY}(h:K.same K' l):K.res l z d r↔K'.res l z d r:=by
 unfold PbR.res;refine and_congr (imp_congr_right fun _=> ?_) (imp_congr_right fun _=>and_congr_right fun _=>and_congr_right fun _=>forall_congr' fun n=>not_congr h.can);rw[h.mind];exact and_congr_right fun hm=>by rw[h.bt (h.mind.2 hm).1]
def PbR.upto (K:PbR)(l:List Nat)(i:Nat)(is:Bool)(d j:Nat):Prop:=
 (is=AX-> ∀a,a<i-> ∀n,¬K.sp n l a)/\(is=AR->j<i/\K.sp d l j/\(∀a,a<i-> ∀m,m<d-> ¬K.sp m l a)/\ ∀a,a<j-> ¬K.sp d l a)
theorem PbR.upto0 (K:PbR)(l:List Nat):K.upto l 0 AX 0 0:=⟨fun _ a ha=>absurd ha (AF a),fun h=>(by cases h)⟩
theorem PbR.upto_no {K:PbR}{l:List Nat}{i d j:Nat}{is:Bool}(h:K.upto l i is d j)(hn: ∀n,¬K.sp n l i):K.upto l (i+1) is d j:=
 ⟨fun e a ha n=>by
   by_cases e2:a=i
   ·subst e2;exact hn n
   ·exact h.1 e a (by omega) n,fun e=>by
   obtain⟨h1,h2,h3,h4⟩:=h.2 e;refine⟨by omega,h2,fun a ha m hm=> ?_,h4⟩;by_cases e2:a=i
   ·subst e2;exact hn m
   ·exact h3 a (by omega) m hm⟩
theorem PbR.upto_new {K:PbR}{l:List Nat}{i d j e:Nat}{is:Bool}(h:K.upto l i is d j)(h1:K.sp e l i)(h2: ∀m,m<e-> ¬K.sp m l i)(hb:is=AR->e<d):K.upto l (i+1) AR e i:=
 ⟨fun h=>(by cases h),fun _=>⟨by omega,h1,fun a ha m hm=>by
   by_cases e2:a=i
   ·subst e2;exact h2 m hm
   ·cases is with
    |false=>exact h.1 rfl a (by omega) m
    |true=>exact (h.2 rfl).2.2.1 a (by omega) m (by have:=hb rfl;omega),fun a ha=>by
   cases is with
   |false=>exact h.1 rfl a (by omega) e
   |true=>exact (h.2 rfl).2.2.1 a (by omega) e (hb rfl)⟩⟩
theorem PbR.upto_old {K:PbR}{l:List Nat}{i d j e:Nat}(h:K.upto l i AR d j)(h2: ∀m,m<e-> ¬K.sp m l i)(hb:d<=e):K.upto l (i+1) AR d j:=
 ⟨fun h=>(by cases h),fun _=>by
   obtain⟨g1,g2,g3,g4⟩:=h.2 rfl;refine⟨by omega,g2,fun a ha m hm=> ?_,g4⟩;by_cases e2:a=i
   ·subst e2;exact h2 m (by omega)
   ·exact g3 a (by omega) m hm⟩
theorem PbR.upto_end {K:PbR}{l:List Nat}{d j:Nat}{is:Bool}(h:K.upto l K.nl is d j)(hd: ¬k1e K.G l):(is=AX-> ∀n,¬K.can n l)/\(is=AR->K.mind (d+1) l/\K.bt (d+1) l=j8y j (cellsOf (K.X j) l) fun t=>K.bt d (K.pt j l t)):=by
 constructor
 ·intro e n hn;cases n with
  |zero=>exact hd hn
  |succ n=>
   rcases hn with hn|⟨a,h1,h2,h3⟩
   ·exact hd hn
   ·exact h.1 e a h1 n ⟨h2,h3⟩
 ·intro e;obtain⟨h1,h2,h3,h4⟩:=h.2 e;have hm:K.mind (d+1) l:=⟨.inr ⟨j,h1,h2.1,h2.2⟩,fun m hm hc=>by
   cases m with
   |zero=>exact hd hc
   |succ m=>
    rcases hc with hc|⟨a,g1,g2,g3⟩
    ·exact hd hc
    ·exact h3 a g1 m (by omega) ⟨g2,g3⟩⟩
  obtain⟨f1,f2,f3⟩:=hm.fst;have:j9f (K.sp d l) K.nl=j:=k1g h1 h2 h4;rw[this] at f3;exact⟨hm,f3⟩
def mxP (D:Nat->Nat):Nat->Nat
 |0=>0
 |p+1=>max (mxP D p) (D p)
theorem k2n {D:Nat->Nat}: ∀{p j:Nat},j<p->D j<=mxP D p
 |0,j,h=>absurd h (AF j)
 |p+1,j,h=>by
  simp only[mxP];by_cases e:j=p
  ·subst e;omega
  ·have:=k2n (D:=D) (show j<p by omega);omega
theorem k2j {D:Nat->Nat}: ∀{p:Nat},0<p-> ∃j,j<p/\mxP D p=D j
 |0,h=>absurd h (AQ 0)
 |p+1,_=>by
  by_cases h:mxP D p<=D p
  ·exact⟨p,AU p,by simp only[mxP];omega⟩
  ·rcases Nat.eq_zero_or_pos p with e|e
   ·subst e;simp only[mxP] at h;omega
   ·obtain⟨j,h1,h2⟩:=k2j (D:=D) e;exact⟨j,by omega,by simp only[mxP];omega⟩
theorem k3l {D:Nat->Nat}{B:Nat}: ∀{p:Nat},(∀j,j<p->D j<=B)->mxP D p<=B
 |0,_=>AW _
 |p+1,h=>by have:=k3l (D:=D) (B:=B) (p:=p) fun j hj=>h j (by omega);have:=h p (AU p);simp only[mxP];omega
theorem k1f {cs:List AE}{v:AE}(h:v∈cs): ∃j,j<cs.length/\cs.getD j ⟨0,0⟩=v:=by obtain⟨j,hj,e⟩:=List.getElem_of_mem h;exact⟨j,hj,by rw[AA,AD hj,<-e];rfl⟩
theorem PbR.sp_max {K:PbR}{l:List Nat}{i:Nat}(hl:l≠[])(hA:K.A i=AR){D:Nat->Nat}(hD: ∀j,j<(cellsOf (K.X i) l).length->K.mind (D j) (K.pt i l j)):
 K.sp (mxP D (cellsOf (K.X i) l).length) l i/\ ∀m,m<mxP D (cellsOf (K.X i) l).length-> ¬K.sp m l i:=by
 refine⟨⟨hA,fun v hv=> ?_⟩,fun m hm h=> ?_⟩
 ·obtain⟨j,hj,rfl⟩:=k1f hv;exact PbR.can_le (hD j hj).1 (k2n hj)
 ·obtain⟨j,hj,e⟩:=k2j (D:=D) (AS.2 (j9y (X:=K.X i) hl));exact (hD j hj).2 m (by omega) (PbR.pt_can h hj)
def j8z (v:AE):List AE->Nat
 |[]=>0
 |c::cs=>if AT c v then j8z v cs+1 else 0
theorem k0i {v:AE}: ∀{cs:List AE},j8z v cs<=cs.length
 |[]=>AM _
 |c::cs=>by
  unfold j8z;split
  ·have:=k0i (v:=v) (cs:=cs);simp only[AL];omega
  ·exact AW _
theorem k2r {v:AE}: ∀{cs:List AE} {j:Nat},j<j8z v cs->AT (cs.getD j ⟨0,0⟩) v
 |[],j,h=>absurd h (AF j)
 |c::cs,j,h=>by
  unfold j8z at h;split at h
  ·rename_i hc;cases j with
   |zero=>simpa using hc
   |succ j=>simpa using k2r (v:=v) (cs:=cs) (by omega)
  ·exact absurd h (AF j)
theorem k1c {v:AE}: ∀{cs:List AE},j8z v cs<cs.length-> ¬AT (cs.getD (j8z v cs) ⟨0,0⟩) v
 |[],h=>absurd h (AF _)
 |c::cs,h=>by
  unfold j8z at h⊢;split
  ·rename_i hc;rw[if_pos hc] at h;simpa using k1c (v:=v) (cs:=cs) (by simpa using h)
  ·rename_i hc;simpa using hc
theorem k1l {v:AE}{cs:List AE}{k:Nat}(hk:k<=cs.length)(h: ∀j,j<k->AT (cs.getD j ⟨0,0⟩) v)(h2:k<cs.length-> ¬AT (cs.getD k ⟨0,0⟩) v):j8z v cs=k:=by
 rcases AK (j8z v cs) k with e|e|e
 ·exact absurd (h _ e) (k1c (by omega))
 ·exact e
 ·have:=k0i (v:=v) (cs:=cs);exact absurd (k2r e) (h2 (by omega))
theorem k0x {v:AE}: ∀{cs:List AE},k1d v cs=if j8z v cs<cs.length/\cs.getD (j8z v cs) ⟨0,0⟩=v then cs else cs.take (j8z v cs)++v::cs.drop (j8z v cs)
 |[]=>by simp[k1d,j8z]
 |c::cs=>by
  unfold k1d j8z;by_cases hc:AT c v
  ·rw[if_pos hc,if_pos hc,k0x (cs:=cs)];simp only[AL,Nat.add_lt_add_iff_right,List.getD_cons_succ,List.take_succ_cons,List.drop_succ_cons,List.cons_append];split<;>rfl
  ·rw[if_neg hc,if_neg hc];by_cases e:c=v
   ·simp[e]
   ·simp[e]
theorem k1v {v:AE}{cs:List AE}(h:j8z v cs<cs.length)(e:cs.getD (j8z v cs) ⟨0,0⟩=v):k1d v cs=cs:=by rw[k0x,if_pos ⟨h,e⟩]
theorem k1r {v:AE}{cs:List AE}(hs:cs.Pairwise AT):v∈cs↔j8z v cs<cs.length/\cs.getD (j8z v cs) ⟨0,0⟩=v:=by
 constructor
 ·intro h;obtain⟨j,hj,e⟩:=k1f h;have:j8z v cs=j:=k1l (by omega) (fun i hi=>by
   rw[<-e,AA,AA,AD hj,AD (by omega)];exact List.pairwise_iff_getElem.1 hs i j (by omega) hj hi) (fun _=>by rw[e];exact j9m v)
  rw[this];exact⟨hj,e⟩
 ·rintro⟨h,e⟩;rw[<-e];exact j8e h
theorem k0y {v:AE}{cs:List AE}(h: ¬(j8z v cs<cs.length/\cs.getD (j8z v cs) ⟨0,0⟩=v)):(k1d v cs).length=cs.length+1:=by have:=k0i (v:=v) (cs:=cs);rw[k0x,if_neg h,List.length_append,AL,AC,List.length_drop];omega
theorem k3d {v:AE}{cs:List AE}(h: ¬(j8z v cs<cs.length/\cs.getD (j8z v cs) ⟨0,0⟩=v))(j:Nat):
 (k1d v cs).getD j ⟨0,0⟩=if j<j8z v cs then cs.getD j ⟨0,0⟩ else if j=j8z v cs then v else cs.getD (j-1) ⟨0,0⟩:=by
 have hl:=k0i (v:=v) (cs:=cs);rw[k0x,if_neg h];simp only[AA];rcases AK j (j8z v cs) with e|e|e
 ·rw[if_pos e,List.getElem?_append_left (by rw[AC];omega),List.getElem?_take_of_lt e]
 ·rw[if_neg (by omega),if_pos e,AN (by rw[AC];omega),AC,show j-min (j8z v cs) cs.length=0 by omega];rfl
 ·rw[if_neg (by omega),if_neg (by omega),AN (by rw[AC];omega),AC,show j-min (j8z v cs) cs.length=(j-j8z v cs-1)+1 by omega,List.getElem?_cons_succ,List.getElem?_drop,show j8z v cs+(j-j8z v cs-1)=j-1 by omega]
end Go.Proofs.Tryz.Run
