/- Heaps of which single objects are known. Lists of lists of its own, handed back, are data. A round that meets a part of the memory; states of which some objects are kept, under other numbers. Conditions: none. -/
import Derived.Test.YtbglklaocjifhaaGreatEJh
open Bool renaming and_eq_true->AA,false_eq_true->AC,true->AM,false->AO
open List renaming getElem?_eq_some_iff->AB,getElem?_map->AJ,getElem?_eq_getElem->AL,set_append_right->AP,length_map->AR,range'->AW,getElem?_of_mem->AX,getElem?_set->AY,mem_map->Aj
open Go.Vf.AV renaming forget->AD,forgetL->AF,low->AH,lowL->AI,ren->AZ,renL_eq->Ab,renL->Ae
open Array renaming getElem?_eq_some_iff->AE,getElem?_eq_getElem->AG
open Option renaming some->AK,getD->Ac,none->Ag,map_some->Ah
open Nat renaming add_sub_cancel_left->AN,blt_eq->AT,beq->Ad,mul_le_mul_right->Af,eq_zero_or_pos->Ai,sub_self->Ak,le_refl->Al,add_mul->Am
open Option.some renaming injEq->AQ,inj->An
open Go.Vf.a0f renaming low->AS,forget->AU,ren->Aa
set_option linter.unusedSimpArgs false
set_option linter.unusedVariables false
namespace Go.Vf
open Go
theorem j7t {a b:Nat}(h:a≠b):Ad a b=AO:=by
 cases hb:Ad a b
 ·rfl
 ·exact absurd (Nat.eq_of_beq_eq_true hb) h
theorem j7q (a:Nat):Ad a a=AM:=Nat.beq_refl a
theorem j7o (a b:Nat):Nat.beq.match_1 (fun _ _=>Bool) a b (fun _=>AM) (fun _=>AO) (fun _=>AO) (fun n m=>Ad n m)=Ad a b:=by cases a<;>cases b<;>rfl
section
variable {α:Type}
theorem j8f (l:List α)(i:Nat)(x:α):a3q (a2x l i x)=a3q l:=by rw[a0u,a0u,a0l,List.length_set]
theorem j7l (l m:List α):a3q (a2u l m)=a3q l+a3q m:=by rw[a0u,a0u,a0u,a0r,List.length_append]
theorem j7w {l:List α}{i j:Nat}{x:α}(h:i≠j):a1a (a2x l i x) j=a1a l j:=by rw[a0i,a0i,a0l,List.getElem?_set_ne h]
theorem j8l {l:List α}{i:Nat}{x:α}(h:a1a l i=AK x):i<a3q l:=by rw[a0i] at h;rw[a0u];exact (AB.1 h).1
theorem j7z {l:List α}{i:Nat}{x:α}(h:i<a3q l):a1a (a2x l i x) i=AK x:=by rw[a0u] at h;rw[a0i,a0l,AY];simp[h]
theorem j9o {l:List α}{i:Nat}(h:i<a3q l): ∃x,a1a l i=AK x:=by rw[a0u] at h;exact⟨l[i],by rw[a0i,AL h]⟩
theorem j8s {l m:List α}{i:Nat}(h:i<a3q l):a1a (a2u l m) i=a1a l i:=by rw[a0u] at h;rw[a0i,a0i,a0r,List.getElem?_append_left h]
theorem j8n {l m:List α}{i:Nat}(h:a3q l<=i):a1a (a2u l m) i=a1a m (i-a3q l):=by rw[a0u] at h⊢;rw[a0i,a0i,a0r,List.getElem?_append_right h]
theorem j7r {l m:List α}{i:Nat}{x:α}(h:a1a l i=AK x):a1a (a2u l m) i=AK x:=by rw[j8s (j8l h),h]
theorem j9i (l m:List α):a1a (a2u l m) (a3q l)=a1a m 0:=by rw[j8n (Al _),Ak]
theorem j9x (l m:List α):a1a (a2u l m) (a3q l+1)=a1a m 1:=by rw[j8n (by omega),AN]
theorem j8t {l:List α}{n:Nat}(h:a3q l=n)(m:List α):a1a (a2u l m) n=a1a m 0:=by rw[<-h];exact j9i l m
theorem k0s {l:List α}{n:Nat}(h:a3q l=n)(m:List α):a1a (a2u l m) (n+1)=a1a m 1:=by rw[<-h];exact j9x l m
theorem j9k {l:List α}{n:Nat}(h:a3q l=n)(m:List α):a1a (a2u l m) (n+2)=a1a m 2:=by rw[<-h,j8n (by omega),AN]
theorem j8j {l m:List α}{i:Nat}{x:α}(h:i<a3q l):a2x (a2u l m) i x=a2u (a2x l i x) m:=by rw[a0u] at h;rw[a0l,a0l,a0r,a0r,List.set_append_left _ _ h]
theorem j9j (l m:List α)(x:α):a2x (a2u l m) (a3q l) x=a2u l (a2x m 0 x):=by rw[a0l,a0l,a0r,a0r,a0u,AP _ _ (Al _),Ak]
theorem j9z (l m:List α)(x:α):a2x (a2u l m) (a3q l+1) x=a2u l (a2x m 1 x):=by rw[a0l,a0l,a0r,a0r,a0u,AP _ _ (by omega),AN]
theorem j9h {l:List α}{n:Nat}(h:a3q l=n)(m:List α)(x:α):a2x (a2u l m) n x=a2u l (a2x m 0 x):=by rw[<-h];exact j9j l m x
theorem k1z {l:List α}{n:Nat}(h:a3q l=n)(m:List α)(x:α):a2x (a2u l m) (n+1) x=a2u l (a2x m 1 x):=by rw[<-h];exact j9z l m x
theorem j7n (l m k:List α):a2u (a2u l m) k=a2u l (a2u m k):=by simp only[a0r,List.append_assoc]
end
theorem j9b (l:Nat)(a:Bool)(h:List a0f):a3q (a2n l a h)=a3q h:=by rw[a0u,a0u,a4i,AR]
theorem j8a {h:List a0f}{l:Nat}{a:Bool}{i:Nat}{o:a0f}(hg:a1a h i=AK o):a1a (a2n l a h) i=AK (o.forget l a):=by rw[a0i] at hg⊢;rw[a3s,hg];rfl
theorem j7m (l:Nat)(a:Bool)(h m:List a0f):a2n l a (a2u h m)=a2u (a2n l a h) (a2n l a m):=by simp only[a4i,a0r,List.map_append]
theorem a4k.of_get: ∀{h h':List a0f},h'.length<=h.length->(∀(i:Nat) (o o':a0f),h[i]? =AK o->h'[i]? =AK o'->a9v o o')->a4k h h'
 |_,[],_,_=> .nil _
 |[],_::_,hl,_=>by simp at hl
 |o::h,o'::h',hl,hg=> .cons (hg 0 o o' rfl rfl) (a4k.of_get (by simpa using hl) fun i a b ha hb=>hg (i+1) a b (by simpa using ha) (by simpa using hb))
theorem j9l {l n:Nat}{sz:Nat}{P c:Nat->Nat}: ∀{m:Nat},(∀j,n<=j->j<n+m->P j≠l)->AF l AO ((AW n m).map fun j=> .msl (P j) sz Ag (c j) AO)=(AW n m).map fun j=> .msl (P j) sz Ag (c j) AO
 |0,_=>rfl
 |m+1,h=>by have ih:=j9l (l:=l) (n:=n+1) (sz:=sz) (P:=P) (c:=c) (m:=m) fun j h1 h2=>h j (by omega) (by omega);simp only[List.range'_succ,List.map_cons,AF,AD];rw[ih];simp only[AC,if_false,j7t (Ne.symm (h n (by omega) (by omega)))]
theorem j9n (l:Nat)(a:Bool): ∀(vs:List AV) (i:Nat),(AF l a vs)[i]? =(vs[i]?).map (AD l a)
 |[],_=>rfl
 |v::vs,0=>by simp[AF]
 |v::vs,i+1=>by simp only[AF,List.getElem?_cons_succ];exact j9n l a vs i
theorem j8v (l:Nat)(a:Bool): ∀vs:List AV,a3q (AF l a vs)=a3q vs
 |[]=>rfl
 |v::vs=>by simp only[AF,a3q,j8v l a vs]
theorem k1n {l sz c m:Nat}{P cn:Nat->Nat}{x:AV}(h: ∀j,j<m->j≠c->P j≠l):
 a2x (AF l AO ((AW 0 m).map fun j=> .msl (P j) sz Ag (cn j) AO)) c x=a2x ((AW 0 m).map fun j=> .msl (P j) sz Ag (cn j) AO) c x:=by
 rw[a0l,a0l];refine List.ext_getElem? fun j=> ?_;rw[AY,AY,<-a0u,<-a0u,j8v];by_cases e:c=j
 ·rw[if_pos e,if_pos e]
 rw[if_neg e,if_neg e,j9n];cases hr:((AW 0 m).map fun j=>AV.msl (P j) sz Ag (cn j) AO)[j]? with
 |none=>rfl
 |some t=>have hj:=(AB.1 hr).1;rw[AR,List.length_range'] at hj;rw[AJ,List.getElem?_range' hj] at hr;simp only[Ah,Nat.one_mul,Nat.zero_add,AQ] at hr;subst hr;simp only[Ah,AD,AC,if_false,j7t (Ne.symm (h j hj (Ne.symm e)))]
def k3e (k:Nat)(H C:List a0f):Prop:= ∀x,x<k->a1a H x=a1a C x
theorem j7y: ∀l:List Nat,e1s l l=AM:=fun l=>by
 have: ∀m:List Nat,(∀i,i∈m->i∈l)->e1s m l=AM:=fun m=>by
  induction m with
  |nil=>intro _;rfl
  |cons x m ih=>intro h;simp only[e1s,AA];exact⟨a1o.2 (h x (by simp)),ih fun i hi=>h i (List.mem_cons_of_mem _ hi)⟩
 exact this l fun _ h=>h
theorem k3j {w:World}{S S2:Nat->Prop}(hS: ∀b,S b->S2 b){x:DV}{v:Value}(h:DVR w S x v):DVR w S2 x v:=by
 induction h with
 |int k n=>exact .int k n
 |bool b=>exact .bool b
 |str l=>exact .str l
 |nil=>exact .nil
 |raw v h=>exact .raw v h
 |sl0 sz e a cap=>exact .sl0 sz e a cap
 |sl sz n e b off cap f hb hc hl hv hr ih=>exact .sl sz n e b off cap f (fun h=>hS b (hb h)) hc hl hv ih
section
variable {w:World} {S S2:Nat->Prop} {ρ:Rho} {h:List a0f}
theorem k2t {l sz n:Nat}{e:Nat->List DV}{v:Value}(hs:Sim w S ρ h)(hv:VR w S ρ (.msl l sz Ag n AO) v)(hl:a1a h l=AK (.arr sz n e))(hS: ∀b,S b->S2 b)(hN: ∀l b C,ρ l=AK (AK b,C)->S2 b):DVR w S2 (.sl sz n e) v:=by
 rw[a0i] at hl;cases hv with
 |msl _ _ _ _ _ ob C cap a hρ hc hcap ha=>
  obtain⟨o,ho,hh⟩:=hs.obj _ _ _ hρ;rw[hl] at ho;cases ho;simp only[Ac] at hc hcap ha;rcases Ai n with h0|h0
  ·subst h0;exact .sl0 _ _ _ _
  cases ob with
  |none=>have:=hh.1;omega
  |some b=>
   obtain⟨vs,ty,h1,h2,h3,h4⟩:=hh;have hcp:cap=C:=by rw[hcap,if_neg (by decide)];omega
   rw[ha (by omega)];refine .sl sz n e b (0*sz) cap (fun i j=>vs[i*sz+j]?.getD undef) (fun _=>hN _ _ _ hρ) (by omega) (fun i hi=>(h4 i hi).1) (fun i hi j hj=> ?_) fun i hi j x hx=> ?_
   ·have hlt:i*sz+j<vs.size:=by rw[h2];have:(i+1)*sz<=C*sz:=Af _ (by omega);rw[Am] at this;omega
    simp only[World.cell?,h1];simp[AG hlt]
   ·have hj:j<sz:=by rw[<-(h4 i hi).1];exact (AB.1 hx).1
    have hlt:i*sz+j<vs.size:=by rw[h2];have:(i+1)*sz<=C*sz:=Af _ (by omega);rw[Am] at this;omega
    have:=(h4 i hi).2 j x _ hx (AG hlt);simp only[AG hlt,Ac];exact k3j hS this
theorem k2z {l n:Nat}{V:List AV}{d:Nat->DV}{v:Value}(hs:Sim w S ρ h)(hv:VR w S ρ (.msl l 1 Ag n AO) v)(hl:a1a h l=AK (.arrv V))(hn:V.length=n)(hN: ∀l b C,ρ l=AK (AK b,C)->S2 b)
 (hV: ∀j x u,V[j]? =AK x->VR w S ρ x u->DVR w S2 (d j) u):DVR w S2 (.sl 1 n fun j=>[d j]) v:=by
 rw[a0i] at hl;cases hv with
 |msl _ _ _ _ _ ob C cap a hρ hc hcap ha=>
  obtain⟨o,ho,hh⟩:=hs.obj _ _ _ hρ;rw[hl] at ho;cases ho;simp only[Ac] at hc hcap ha;rcases Ai n with h0|h0
  ·subst h0;exact .sl0 _ _ _ _
  cases ob with
  |none=>have:=hh.1;omega
  |some b=>
   obtain⟨vs,ty,h1,h2,h3,h4⟩:=hh;have hcp:cap=C:=by rw[hcap,if_neg (by decide)];omega
   rw[ha (by omega)];refine .sl 1 n _ b (0*1) cap (fun i j=>vs[i*1+j]?.getD undef) (fun _=>hN _ _ _ hρ) (by omega) (fun i hi=>rfl) (fun i hi j hj=> ?_) fun i hi j x hx=> ?_
   ·have hlt:i+j<vs.size:=by omega
    simp only[World.cell?,h1];simp[AG hlt]
   ·cases j with
    |succ j=>simp at hx
    |zero=>
     simp at hx;subst hx;have hlt:i*1+0<vs.size:=by omega
     have hlt':i<vs.size:=by omega
     have hx:V[i]? =AK (V[i]'(by omega)):=AL _;have:=hV i _ vs[i] hx (h4 i _ _ hx (AG hlt'));simpa [AG hlt'] using this
end
def k4n (sz n:Nat)(e:Nat->List DV)(c:Nat->Nat)(ee:Nat->Nat->List DV)(v:AV)(h':List a0f):Prop:=
 (n=0/\v= .tuple [.d .nil,.d .nil])\/ ∃(A B:Nat) (V:List AV) (Q:Nat->Nat) (e':Nat->List DV),v= .tuple [.msl A sz Ag n AO,.msl B 1 Ag n AO]/\a1a h' A=AK (.arr sz n e')/\(∀j,j<n->e' j=e j)/\a1a h' B=AK (.arrv V)/\V.length=n/\
   ∀j,j<n->V[j]? =AK (.msl (Q j) 1 Ag (c j) AO)/\ ∃ee':Nat->List DV,a1a h' (Q j)=AK (.arr 1 (c j) ee')/\ ∀t,t<c j->ee' t=ee j t
theorem a0j.deep {P:Program}{f:FuncId}{args:List AV}{sz n:Nat}{e:Nat->List DV}{c:Nat->Nat}{ee:Nat->Nat->List DV}(hc:a1h P f args [] fun _ v h'=>k4n sz n e c ee v h'):
 a0j P AO f args (.tuple [.d (.sl sz n e),.d (.sl 1 n fun j=>[.sl 1 (c j) (ee j)])]):=by
 refine⟨hc.1,fun w S vs hS hv=> ?_⟩;have hs:Sim w S a2j []:=⟨hS,fun _ _ _ h=>(by cases h),fun _ _ _ _ _ h=>(by cases h),fun _ _ _ _ h=>(by cases h)⟩;refine (hc.2 w S a2j vs hs hv).mono fun e w' hR=> ?_;obtain⟨v,x,pg,h',S',ρ',h1,h2,h3,h4,h5,_⟩:=hR;have hN: ∀l b C,ρ' l=AK (AK b,C)->S b\/(w.heap.size<=b/\b<w'.heap.size):=fun l b C hl=>by
  rcases h5.owned l b C hl with h|⟨l',C',h⟩
  ·obtain⟨o,ho,hh⟩:=h4.obj l _ C hl;refine .inr ⟨h,?_⟩;cases o with
   |var cs=>obtain⟨vs,ty,g,_⟩:=hh;exact (AE.1 g).1
   |arr sz n e=>obtain⟨vs,ty,g,_⟩:=hh;exact (AE.1 g).1
   |frz sz n e=>exact h4.sblk _ hh.1
   |map wide ks n f=>obtain⟨es,cl,g,_⟩:=hh;exact (AE.1 g).1
   |mapv wide ks keys vals=>obtain⟨es,cl,g,_⟩:=hh;exact (AE.1 g).1
   |loop s ts ps code=>obtain⟨r,g,_⟩:=hh;exact (AE.1 g).1
   |gone=>exact h4.sblk _ hh
   |arrv vals=>obtain⟨vs,ty,g,_⟩:=hh;exact (AE.1 g).1
  ·cases h
 have hS2: ∀b,S' b->S b\/(w.heap.size<=b/\b<w'.heap.size):=fun b hb=>by
  rcases h5.news b hb with h|h|⟨l,C,h⟩
  ·exact .inl h
  ·exact .inr ⟨h,h4.sblk b hb⟩
  ·cases h
 refine⟨v,fun b=>S b\/(w.heap.size<=b/\b<w'.heap.size),h1,?_,fun b hb=>hb.elim (fun h=> .inl ⟨rfl,h⟩) .inr,⟨h5.os,h5.tape,h5.output,h5.size,fun b hb=>h5.frame b hb (fun l C h=>by cases h)⟩⟩;rcases h2 with⟨rfl,rfl⟩|⟨A,B,V,Q,e',rfl,hA,he,hB,hVl,hV⟩
 ·cases h3 with
  |tuple _ us hl hg=>
   refine .tuple _ _ hl fun i y u hy hu=> ?_
   match i,hy with
   |0,hy=>
    simp at hy;subst hy;have:=hg 0 _ u rfl hu;cases this with
    |d h=>cases h;exact .d (.sl0 _ _ _ _)
   |1,hy=>
    simp at hy;subst hy;have:=hg 1 _ u rfl hu;cases this with
    |d h=>cases h;exact .d (.sl0 _ _ _ _)
 ·cases h3 with
  |tuple _ us hl hg=>
   refine .tuple _ _ hl fun i y u hy hu=> ?_
   match i,hy with
   |0,hy=>simp at hy;subst hy;exact .d (DL.sl rfl (fun i hi=>by rw[he i hi];exact RL.refl _) _ _ _ (k2t h4 (hg 0 _ u rfl hu) hA hS2 hN))
   |1,hy=>
    simp at hy;subst hy;refine .d (k2z h4 (hg 1 _ u rfl hu) hB hVl hN fun j x u2 hx hr=> ?_);have hj:j<n:=by rw[<-hVl];exact (AB.1 hx).1
    obtain⟨g1,ee',g2,g3⟩:=hV j hj;rw[hx] at g1;cases g1;exact DL.sl rfl (fun i hi=>by rw[g3 i hi];exact RL.refl _) _ _ _ (k2t h4 hr g2 hS2 hN)
theorem b5d.frame {P:Program}{l l':Nat}{args args':List AV}{h:List a0f}{K:List Nat->AV->List a0f->Prop}(hc:b5d P l args h K){H:List a0f}(pos:List Nat)(hnd:pos.Nodup)(hl':l'=b2u pos (a3q H) l)
 (ha:args'=Ae (b2u pos (a3q H)) args) (hH:i4y H pos (i2l (b2u pos (a3q H)) h)):b5d P l' args' H (i3s H pos K):=by
 intro w S ρ vs b0 C0 hs hv hρ;unfold i3s;rw[a0u] at ha hH hl'⊢;generalize hπ:b2u pos H.length=π at ha hH hl'⊢;obtain⟨a1,a2⟩:=h7m hH;rw[h5f,AR] at a1;have hlt: ∀l,l∈pos->l<H.length:=fun l hl=>by obtain⟨i,hi⟩:=AX hl;have hi':=(AB.1 hi).1;have ho:h[i]? =AK (h[i]'(by omega)):=AL _;obtain⟨o',h1,_⟩:=a2 i l _ hi (by rw[h5f,AJ,ho];rfl);exact (AB.1 h1).1
 have πlt: ∀i,i<h.length->pos[i]? =AK (π i):=fun i hi=>by rw[<-hπ];exact h9j (by omega)
 have πge: ∀i,h.length<=i->π i=H.length+(i-h.length):=fun i hi=>by rw[<-hπ,h9d (by omega),a1]
 have πmem: ∀i,i<h.length->π i∈pos:=fun i hi=>List.mem_of_getElem? (πlt i hi);have πinj: ∀i j,π i=π j->i=j:=fun i j e=>by
  by_cases hi:i<h.length
  ·by_cases hj:j<h.length
   ·have h1:=πlt i hi;have h2:=πlt j hj;rw[<-e] at h2;obtain⟨q1,q2⟩:=AB.1 h1;obtain⟨q3,q4⟩:=AB.1 h2;have hp:=List.pairwise_iff_getElem.1 hnd;rcases Nat.lt_trichotomy i j with hij|hij|hij
    ·exact absurd (q2.trans q4.symm) (hp i j q1 q3 hij)
    ·exact hij
    ·exact absurd (q4.trans q2.symm) (hp j i q3 q1 hij)
   ·have:=hlt _ (πmem i hi);have:=πge j (by omega);omega
  ·by_cases hj:j<h.length
   ·have:=hlt _ (πmem j hj);have:=πge i (by omega);omega
   ·have:=πge i (by omega);have:=πge j (by omega);omega
 have hfresh: ∀l,H.length<=l->ρ l=Ag:=fun l hl=>by
  cases hr:ρ l with
  |none=>rfl
  |some p=>obtain⟨o,h1,_⟩:=hs.obj l p.1 p.2 hr;have:=(AB.1 h1).1;omega
 have hs0:Sim w S (fun i=>ρ (π i)) h:=by
  refine⟨hs.sblk,fun i ob C hi=> ?_,fun i j b C C' h1 h2=>πinj _ _ (hs.inj _ _ b C C' h1 h2),fun i b C o hi ho hf=> ?_⟩
  ·by_cases hil:i<h.length
   ·have ho:h[i]? =AK (h[i]'hil):=AL _;obtain⟨o',h1,h2⟩:=a2 i (π i) _ (πlt i hil) (by rw[h5f,AJ,ho];rfl);obtain⟨o2,h3,h4⟩:=hs.obj (π i) ob C hi;rw[h1] at h3;cases h3;refine⟨_,ho,?_⟩;have h5:=h2.holds _ _ _ _ _ h4;cases ob with
    |none=>obtain⟨hC,sz',e',h6⟩:=h5;refine⟨hC,sz',e',?_⟩;cases hoo:h[i]'hil<;>rw[hoo] at h6<;>simp[Aa] at h6⊢ <;>exact h6
    |some b=>exact a0z.unren h5
   ·have:=hfresh (π i) (by have:=πge i (by omega);omega);rw[this] at hi;cases hi
  ·have hil:=(AB.1 ho).1;obtain⟨o',h1,h2⟩:=a2 i (π i) _ (πlt i hil) (by rw[h5f,AJ,ho];rfl);exact hs.own (π i) b C o' hi h1 (h2.frz (by rw[h6j];exact hf))
 have hv0:VRs w S (fun i=>ρ (π i)) args vs:=by subst ha;refine⟨by have:=hv.1;rw[Ab] at this;simpa using this,fun i x v hx hv'=>(hv.2 i (x.ren π) v (by rw[Ab,AJ,hx];rfl) hv').unren rfl⟩
 refine YieldAt.mono' (hc w S _ vs b0 C0 hs0 hv0 (by rw[hl'] at hρ;exact hρ)) fun e w' he=> ?_;obtain⟨v,x,pg,h',S',ρ1,he,hk,hvr,hsim,hext,hlen,hlow⟩:=he;obtain⟨ρ',r1,r2⟩: ∃ρ':Rho,(∀i,ρ' (π i)=ρ1 i)/\(∀l,l<H.length->l∉pos->ρ' l=ρ l):=by
  classical
  refine⟨fun l=>if hl: ∃i,π i=l then ρ1 hl.choose else ρ l,fun i=> ?_,fun l hl hp=> ?_⟩
  ·have hex: ∃j,π j=π i:=⟨i,rfl⟩;simp only[dif_pos hex];rw[πinj _ _ hex.choose_spec]
  ·have: ¬ ∃i,π i=l:=fun⟨i,hi⟩=>by
    by_cases hil:i<h.length
    ·exact hp (hi▸πmem i hil)
    ·have:=πge i (by omega);omega
   simp only[dif_neg this]
 have hcase: ∀l,(l<H.length/\l∉pos)\/ ∃i,π i=l:=fun l=>by
  by_cases hl:l<H.length
  ·by_cases hp:l∈pos
   ·obtain⟨i,hi⟩:=AX hp;have hi':=(AB.1 hi).1;have:=πlt i (by omega);rw[hi] at this;exact .inr ⟨i,(An this).symm⟩
   ·exact .inl ⟨hl,hp⟩
  ·exact .inr ⟨h.length+(l-H.length),by have:=πge (h.length+(l-H.length)) (by omega);omega⟩
 have hkeep: ∀l p,l∉pg.map π->ρ l=AK p->ρ' l=AK p:=fun l p hl hp=>by
  rcases hcase l with⟨h1,h2⟩|⟨i,rfl⟩
  ·rw[r2 l h1 h2];exact hp
  ·rw[r1];by_cases hil:i<h.length
   ·rw[hlow i hil (fun hm=>hl (Aj.2 ⟨i,hm,rfl⟩))];exact hp
   ·have:=hfresh (π i) (by have:=πge i (by omega);omega);rw[this] at hp;cases hp
 have hlow': ∀l,l<H.length->l∉pg.map π->ρ' l=ρ l:=fun l hl hn=>by
  rcases hcase l with⟨h1,h2⟩|⟨i,rfl⟩
  ·exact r2 l h1 h2
  ·have hil:i<h.length:=Nat.lt_of_not_le fun hle=>by have:=πge i hle;omega
   rw[r1,hlow i hil (fun hm=>hn (Aj.2 ⟨i,hm,rfl⟩))]
 have hfl:(h4b (pg.map π) H).length=H.length:=h6c _ _;have hplen:pos.length<=(i2l π h').length:=by rw[h5f,AR];omega
 have hlt': ∀l,l∈pos->l<(h4b (pg.map π) H).length:=fun l hl=>by rw[hfl];exact hlt l hl
 have hget: ∀i o,h'[i]? =AK o->(h4m (h4b (pg.map π) H) pos (i2l π h'))[π i]? =AK (o.ren π):=fun i o hi=>by have hil:=(AB.1 hi).1;have:=h5u (H:=h4b (pg.map π) H) (os:=i2l π h') (i:=i) hnd hlt' hplen (by rw[h5f,AR];exact hil);rw[hfl,hπ] at this;rw[this,h5f,AJ,hi];rfl
 have hout: ∀l b C,l<H.length->l∉pos->ρ l=AK (AK b,C)->w'.heap[b]? =w.heap[b]? /\ ¬ ∃i C',ρ1 i=AK (AK b,C'):=fun l b C hl hp hr=>by
  have hb:=hs.blk hr;have hno: ∀i C',ρ (π i)≠AK (AK b,C'):=fun i C' h1=>by
   have:=hs.inj _ _ b _ _ hr h1;subst this;by_cases hil:i<h.length
   ·exact hp (πmem i hil)
   ·have:=πge i (by omega);omega
  refine⟨hext.frame b hb hno,fun⟨i,C',h1⟩=> ?_⟩;rcases hext.owned i b C' h1 with h2|⟨j,C2,h2⟩
  ·omega
  ·exact hno j C2 h2
 have hsim':Sim w' S' ρ' (h4m (h4b (pg.map π) H) pos (i2l π h')):=by
  refine⟨hsim.sblk,fun l ob C hl=> ?_,fun l l' b C C' h1 h2=> ?_,fun l b C o hl ho hf=> ?_⟩
  ·rcases hcase l with⟨h1,h2⟩|⟨i,rfl⟩
   ·rw[r2 l h1 h2] at hl;obtain⟨o,h3,h4⟩:=hs.obj l ob C hl;refine⟨h4h (pg.map π) o,by rw[h4n (by rw[hfl];exact h1) h2,h5y,h3];rfl,?_⟩;cases ob with
    |none=>
     obtain⟨hC,sz',e',h6⟩:=h4;refine⟨hC,sz',e',?_⟩;have: ∀(pg:List Nat) (o:a0f),(o= .arr sz' 0 e'\/o= .frz sz' 0 e')->h4h pg o=o:=by
      intro pg
      induction pg with
      |nil=>intro o _;rfl
      |cons l pg ih=>intro o h;rw[h4h];rcases h with rfl|rfl<;>exact ih _ (by simp[AU])
     rw[this _ _ h6];exact h6
    |some b=>exact a0z.forgets hext.mono hext.cell (hout l b C h1 h2 hl).1 _ hkeep h4
   ·rw[r1] at hl;obtain⟨o,h3,h4⟩:=hsim.obj i ob C hl;refine⟨_,hget i o h3,?_⟩;cases ob with
    |none=>
     obtain⟨hC,sz',e',h6⟩:=h4;refine⟨hC,sz',e',?_⟩;rcases h6 with rfl|rfl
     ·exact .inl rfl
     ·exact .inr rfl
    |some b=>exact a0z.ren (fun j p hp=>by rw[r1];exact hp) h4
  ·rcases hcase l with⟨g1,g2⟩|⟨i,rfl⟩
   ·rcases hcase l' with⟨g3,g4⟩|⟨j,rfl⟩
    ·rw[r2 l g1 g2] at h1;rw[r2 l' g3 g4] at h2;exact hs.inj _ _ b C C' h1 h2
    ·rw[r2 l g1 g2] at h1;rw[r1] at h2;exact absurd ⟨j,C',h2⟩ (hout l b C g1 g2 h1).2
   ·rcases hcase l' with⟨g3,g4⟩|⟨j,rfl⟩
    ·rw[r1] at h1;rw[r2 l' g3 g4] at h2;exact absurd ⟨i,C,h1⟩ (hout l' b C' g3 g4 h2).2
    ·rw[r1] at h1 h2;rw[hsim.inj i j b C C' h1 h2]
  ·rcases hcase l with⟨g1,g2⟩|⟨i,rfl⟩
   ·rw[r2 l g1 g2] at hl;rw[h4n (by rw[hfl];exact g1) g2,h5y] at ho;obtain⟨o1,h3,_⟩:=hs.obj l _ C hl;rw[h3] at ho;simp at ho;subst ho;rw[h6g] at hf;intro hS;rcases hext.news b hS with h4|h4|⟨j,C',h4⟩
    ·exact hs.own l b C o1 hl h3 hf h4
    ·have:=hs.blk hl;omega
    ·have:=hs.inj _ _ b _ _ hl h4;subst this;by_cases hil:j<h.length
     ·exact g2 (πmem j hil)
     ·have:=πge j (by omega);omega
   ·rw[r1] at hl;obtain⟨o1,h3,_⟩:=hsim.obj i _ C hl;rw[hget i o1 h3] at ho;cases ho;rw[h6j] at hf;exact hsim.own i b C o1 hl h3 hf
 refine⟨v,x.ren π,pg.map π,_,S',ρ',he,⟨pg,x,h',hk,(a5m _ _).symm,rfl,rfl⟩,hvr.ren (fun i p hp=>by rw[r1];exact hp),hsim',?_,?_,hlow'⟩
 ·refine⟨hext.os,hext.tape,hext.output,hext.size,hext.mono,hext.cell,fun b hb=> ?_,fun b hb hn=>hext.frame b hb (fun i C=>hn (π i) C),fun l b C hl=> ?_⟩
  ·rcases hext.news b hb with h1|h1|⟨i,C,h1⟩
   ·exact .inl h1
   ·exact .inr (.inl h1)
   ·exact .inr (.inr ⟨π i,C,h1⟩)
  ·rcases hcase l with⟨g1,g2⟩|⟨i,rfl⟩
   ·rw[r2 l g1 g2] at hl;exact .inr ⟨l,C,hl⟩
   ·rw[r1] at hl;rcases hext.owned i b C hl with h1|⟨j,C',h1⟩
    ·exact .inl h1
    ·exact .inr ⟨π j,C',h1⟩
 ·rw[h5m hplen,hfl];omega
theorem k0c {H:List a0f}: ∀{pos:List Nat} {os:List a0f},pos.length=os.length->(∀(i l:Nat) (o:a0f),pos[i]? =AK l->os[i]? =AK o-> ∃o',a1a H l=AK o'/\a9v o' o)->i4y H pos os
 |[],[],_,_=>trivial
 |[],_::_,h,_=>by simp at h
 |_::_,[],h,_=>by simp at h
 |l::pos,o::os,hl,h=>by obtain⟨o',h1,h2⟩:=h 0 l o rfl rfl;refine⟨by rw[h1];exact h2,k0c (by simpa using hl) fun i l o ha hb=>h (i+1) l o (by simpa using ha) (by simpa using hb)⟩
mutual
theorem AV.ren_low {k:Nat}{π:Nat->Nat}(hπ: ∀i,i<k->π i=i): ∀x:AV,x.low k=AM->x.ren π=x
 | .d _,_=>rfl
 | .any,_=>rfl
 | .und,_=>rfl
 | .agg cs,h=>by simp only[AZ];rw[AV.renL_low hπ cs (by simpa only[AH] using h)]
 | .tuple cs,h=>by simp only[AZ];rw[AV.renL_low hπ cs (by simpa only[AH] using h)]
 | .ptr m _,h=>by simp only[AZ];rw[hπ m (e0x (by simpa only[AH] using h))]
 | .aptr m _ _ _,h=>by simp only[AZ];rw[hπ m (e0x (by simpa only[AH] using h))]
 | .dptr _ _,_=>rfl
 | .dfs _ _ _,_=>rfl
 | .msl m _ _ _ _,h=>by simp only[AZ];rw[hπ m (e0x (by simpa only[AH] using h))]
 | .vsl m _ _,h=>by simp only[AZ];rw[hπ m (e0x (by simpa only[AH] using h))]
 | .map m,h=>by simp only[AZ];rw[hπ m (e0x (by simpa only[AH] using h))]
 | .fn _ us cs,h=>by simp only[AH,AA] at h;simp only[AZ];rw[AV.renL_low hπ us h.1,AV.renL_low hπ cs h.2]
 | .ge _,_=>rfl
 | .yl m,h=>by simp only[AZ];rw[hπ m (e0x (by simpa only[AH] using h))]
theorem AV.renL_low {k:Nat}{π:Nat->Nat}(hπ: ∀i,i<k->π i=i): ∀xs:List AV,AI k xs=AM->Ae π xs=xs
 |[],_=>rfl
 |x::xs,h=>by simp only[AI,AA] at h;simp only[Ae];rw[AV.ren_low hπ x h.1,AV.renL_low hπ xs h.2]
end
mutual
theorem AV.forget_low {k i:Nat}(hi:k<=i): ∀x:AV,x.low k=AM->x.forget i AO=x
 | .d _,_=>rfl
 | .any,_=>rfl
 | .und,_=>rfl
 | .agg cs,h=>by simp only[AD];rw[AV.forgetL_low hi cs (by simpa only[AH] using h)]
 | .tuple cs,h=>by simp only[AD];rw[AV.forgetL_low hi cs (by simpa only[AH] using h)]
 | .ptr m _,h=>by have:=e0x (by simpa only[AH] using h);simp only[AD,AC,if_false,j7t (show i≠m by omega)]
 | .aptr m _ _ _,h=>by have:=e0x (by simpa only[AH] using h);simp only[AD,AC,if_false,j7t (show i≠m by omega)]
 | .dptr _ _,_=>rfl
 | .dfs _ _ _,_=>rfl
 | .msl m _ _ _ _,h=>by have:=e0x (by simpa only[AH] using h);simp only[AD,AC,if_false,j7t (show i≠m by omega)]
 | .vsl m _ _,h=>by have:=e0x (by simpa only[AH] using h);simp only[AD,AC,if_false,j7t (show i≠m by omega)]
 | .map m,h=>by have:=e0x (by simpa only[AH] using h);simp only[AD,AC,if_false,j7t (show i≠m by omega)]
 | .fn _ us cs,h=>by simp only[AH,AA] at h;simp only[AD];rw[AV.forgetL_low hi us h.1,AV.forgetL_low hi cs h.2]
 | .ge _,_=>rfl
 | .yl m,h=>by have:=e0x (by simpa only[AH] using h);simp only[AD,AC,if_false,j7t (show i≠m by omega)]
theorem AV.forgetL_low {k i:Nat}(hi:k<=i): ∀xs:List AV,AI k xs=AM->AF i AO xs=xs
 |[],_=>rfl
 |x::xs,h=>by simp only[AI,AA] at h;simp only[AF];rw[AV.forget_low hi x h.1,AV.forgetL_low hi xs h.2]
end
theorem a0f.forget_low {k i:Nat}(hi:k<=i){o:a0f}(h:o.low k=AM):o.forget i AO=o:=by
 cases o with
 |var cs=>simp only[AU];rw[AV.forgetL_low hi cs (by simpa only[AS] using h)]
 |mapv w ks keys vals=>simp only[AU];rw[AV.forgetL_low hi vals (by simpa only[AS] using h)]
 |loop s ts ps code=>simp only[AU];rw[AV.forgetL_low hi ts (by simpa only[AS] using h)]
 |arrv vals=>simp only[AU];rw[AV.forgetL_low hi vals (by simpa only[AS] using h)]
 |_=>rfl
theorem a0f.ren_low {k:Nat}{π:Nat->Nat}(hπ: ∀i,i<k->π i=i){o:a0f}(h:o.low k=AM):o.ren π=o:=by
 cases o with
 |var cs=>simp only[Aa];rw[AV.renL_low hπ cs (by simpa only[AS] using h)]
 |mapv w ks keys vals=>simp only[Aa];rw[AV.renL_low hπ vals (by simpa only[AS] using h)]
 |loop s ts ps code=>simp only[Aa];rw[AV.renL_low hπ ts (by simpa only[AS] using h)]
 |arrv vals=>simp only[Aa];rw[AV.renL_low hπ vals (by simpa only[AS] using h)]
 |_=>rfl
theorem k1o {k:Nat}{π:Nat->Nat}(hπ: ∀i,i<k->π i=i){h:List a0f}(hl:d5i k h=AM):i2l π h=h:=by rw[h5f];refine (List.map_congr_left fun o ho=> ?_).trans (List.map_id _);obtain⟨i,hi⟩:=AX ho;exact a0f.ren_low hπ (c1k hl hi)
mutual
theorem AV.low_mono {n m:Nat}(h:n<=m): ∀x:AV,x.low n=AM->x.low m=AM
 | .d _,_=>rfl
 | .any,_=>rfl
 | .und,_=>rfl
 | .agg cs,hx=>by simp only[AH] at hx⊢;exact AV.lowL_mono h cs hx
 | .tuple cs,hx=>by simp only[AH] at hx⊢;exact AV.lowL_mono h cs hx
 | .ptr _ _,hx=>by simp only[AH,AT] at hx⊢;omega
 | .aptr _ _ _ _,hx=>by simp only[AH,AT] at hx⊢;omega
 | .dptr _ _,_=>rfl
 | .dfs _ _ _,_=>rfl
 | .msl _ _ _ _ _,hx=>by simp only[AH,AT] at hx⊢;omega
 | .vsl _ _ _,hx=>by simp only[AH,AT] at hx⊢;omega
 | .map _,hx=>by simp only[AH,AT] at hx⊢;omega
 | .fn _ us cs,hx=>by simp only[AH,AA] at hx⊢;exact⟨AV.lowL_mono h us hx.1,AV.lowL_mono h cs hx.2⟩
 | .ge _,_=>rfl
 | .yl _,hx=>by simp only[AH,AT] at hx⊢;omega
theorem AV.lowL_mono {n m:Nat}(h:n<=m): ∀xs:List AV,AI n xs=AM->AI m xs=AM
 |[],_=>rfl
 |x::xs,hx=>by simp only[AI,AA] at hx⊢;exact⟨AV.low_mono h x hx.1,AV.lowL_mono h xs hx.2⟩
end
theorem a0f.low_mono {n m:Nat}(h:n<=m){o:a0f}(hx:o.low n=AM):o.low m=AM:=by
 cases o<;>simp only[AS] at hx⊢ <;>first|exact AV.lowL_mono h _ hx|rfl
theorem j9s {n m:Nat}(h:n<=m): ∀{H:List a0f},d5i n H=AM->d5i m H=AM
 |[],_=>rfl
 |o::H,hx=>by simp only[d5i,AA] at hx⊢;exact⟨a0f.low_mono h hx.1,j9s h hx.2⟩
mutual
theorem AV.low_forget {n i:Nat}: ∀x:AV,x.low n=AM->(x.forget i AO).low n=AM
 | .d _,_=>rfl
 | .any,_=>rfl
 | .und,_=>rfl
 | .agg cs,hx=>by simp only[AD,AH] at hx⊢;exact AV.lowL_forget cs hx
 | .tuple cs,hx=>by simp only[AD,AH] at hx⊢;exact AV.lowL_forget cs hx
 | .ptr _ _,hx=>by
   simp only[AD,AC,if_false];split
   ·rfl
   ·exact hx
 | .aptr _ _ _ _,hx=>by
   simp only[AD,AC,if_false];split
   ·rfl
   ·exact hx
 | .dptr _ _,_=>rfl
 | .dfs _ _ _,_=>rfl
 | .msl _ _ _ _ _,hx=>by
   simp only[AD,AC,if_false];split
   ·rfl
   ·exact hx
 | .vsl _ _ _,hx=>by
   simp only[AD,AC,if_false];split
   ·rfl
   ·exact hx
 | .map _,hx=>by
   simp only[AD,AC,if_false];split
   ·rfl
   ·exact hx
 | .fn _ us cs,hx=>by simp only[AD,AH,AA] at hx⊢;exact⟨AV.lowL_forget us hx.1,AV.lowL_forget cs hx.2⟩
 | .ge _,_=>rfl
 | .yl _,hx=>by
   simp only[AD,AC,if_false];split
   ·rfl
   ·exact hx
theorem AV.lowL_forget {n i:Nat}: ∀xs:List AV,AI n xs=AM->AI n (AF i AO xs)=AM
 |[],_=>rfl
 |x::xs,hx=>by simp only[AF,AI,AA] at hx⊢;exact⟨AV.low_forget x hx.1,AV.lowL_forget xs hx.2⟩
end
theorem a0f.low_forget {n i:Nat}{o:a0f}(hx:o.low n=AM):(o.forget i AO).low n=AM:=by
 cases o<;>simp only[AU,AS] at hx⊢ <;>first|exact AV.lowL_forget _ hx|rfl
theorem k0e {n i:Nat}: ∀{H:List a0f},d5i n H=AM->d5i n (a2n i AO H)=AM
 |[],_=>rfl
 |o::H,hx=>by simp only[a2n,d5i,AA] at hx⊢;exact⟨a0f.low_forget hx.1,k0e hx.2⟩
theorem j9q {n:Nat}: ∀{H G:List a0f},d5i n H=AM->d5i n G=AM->d5i n (a2u H G)=AM
 |[],_,_,h=>h
 |o::H,_,hx,h=>by simp only[a2u,d5i,AA] at hx⊢;exact⟨hx.1,j9q hx.2 h⟩
theorem k0q {n:Nat}{o:a0f}(ho:o.low n=AM): ∀{H:List a0f} {i:Nat},d5i n H=AM->d5i n (a2x H i o)=AM
 |[],i,_=>by cases i<;>rfl
 |p::H,0,hx=>by simp only[a2x,d5i,AA] at hx⊢;exact⟨ho,hx.2⟩
 |p::H,i+1,hx=>by simp only[a2x,d5i,AA] at hx⊢;exact⟨hx.1,k0q ho hx.2⟩
theorem k0o {n:Nat}: ∀{H G:List AV},AI n H=AM->AI n G=AM->AI n (a2u H G)=AM
 |[],_,_,h=>h
 |o::H,_,hx,h=>by simp only[a2u,AI,AA] at hx⊢;exact⟨hx.1,k0o hx.2 h⟩
theorem k1b {n:Nat}{o:AV}(ho:o.low n=AM): ∀{H:List AV} {i:Nat},AI n H=AM->AI n (a2x H i o)=AM
 |[],i,_=>by cases i<;>rfl
 |p::H,0,hx=>by simp only[a2x,AI,AA] at hx⊢;exact⟨ho,hx.2⟩
 |p::H,i+1,hx=>by simp only[a2x,AI,AA] at hx⊢;exact⟨hx.1,k1b ho hx.2⟩
theorem j8g {n:Nat}: ∀{H:List AV} {i k:Nat} {c:List AV},AI n H=AM->b0o H i k=AK c->AI n c=AM
 |_,0,0,c,_,h=>by simp only[b0o,AQ] at h;subst h;rfl
 |[],0,k+1,c,_,h=>by simp only[b0o] at h;cases h
 |x::H,0,k+1,c,hx,h=>by
  simp only[AI,AA] at hx;simp only[b0o] at h;cases hr:b0o H 0 k with
  |none=>rw[hr] at h;cases h
  |some r=>rw[hr] at h;simp only[AQ] at h;subst h;simp only[AI,AA];exact⟨hx.1,j8g hx.2 hr⟩
 |[],i+1,k,c,_,h=>by simp only[b0o] at h;cases h
 |x::H,i+1,k,c,hx,h=>by simp only[AI,AA] at hx;simp only[b0o] at h;exact j8g hx.2 h
theorem k0g {k i:Nat}(hi:k<=i): ∀{H:List a0f},d5i k H=AM->a2n i AO H=H
 |[],_=>rfl
 |o::H,hx=>by simp only[d5i,AA] at hx;simp only[a2n];rw[a0f.forget_low hi hx.1,k0g hi hx.2]
theorem j7p {l:Nat}{a:Bool}: ∀(h m:List AV),AF l a (a2u h m)=a2u (AF l a h) (AF l a m)
 |[],_=>rfl
 |x::h,m=>by simp only[a2u,AF];rw[j7p h m]
theorem k2g {α:Type}(l m:List α)(x:α):a2x (a2u l m) (a3q l+2) x=a2u l (a2x m 2 x):=by rw[a0l,a0l,a0r,a0r,a0u,AP _ _ (by omega),AN]
theorem k1x {α:Type}(l m:List α)(x:α):a2x (a2u l m) (a3q l+3) x=a2u l (a2x m 3 x):=by rw[a0l,a0l,a0r,a0r,a0u,AP _ _ (by omega),AN]
theorem j8u: ∀{c:List AV},(∀j,j<a3q c-> ∃x,a1a c j=AK x/\x.one=AM)->b5z c=AM
 |[],_=>rfl
 |x::c,h=>by obtain⟨y,h1,h2⟩:=h 0 (Nat.succ_pos _);simp only[a1a,AQ] at h1;subst h1;simp only[b5z,h2,if_true];exact j8u fun j hj=>h (j+1) (Nat.succ_lt_succ hj)
theorem j9t {α:Type}{l:List α}{i n:Nat}(h:i+n<=a3q l): ∃c,b0o l i n=AK c/\a3q c=n/\ ∀j,j<n->a1a c j=a1a l (i+j):=by
 have key: ∀(l:List α) (i n:Nat),i+n<=a3q l-> ∃c,b0o l i n=AK c:=by
  intro l
  induction l with
  |nil=>
   intro i n h;simp only[a3q] at h;obtain rfl:i=0:=by omega
   obtain rfl:n=0:=by omega
   exact⟨[],rfl⟩
  |cons x l ih=>
   intro i n h;simp only[a3q] at h;cases i with
   |zero=>
    cases n with
    |zero=>exact⟨[],rfl⟩
    |succ n=>obtain⟨c,hc⟩:=ih 0 n (by omega);exact⟨x::c,by simp only[b0o,hc]⟩
   |succ i=>obtain⟨c,hc⟩:=ih i n (by omega);exact⟨c,by simp only[b0o,hc]⟩
 obtain⟨c,hc⟩:=key l i n h;obtain⟨h1,h2⟩:=c0t l i n c hc;exact⟨c,hc,by rw[a0u];exact h1,fun j hj=>by rw[a0i,a0i];exact h2 j hj⟩
theorem b4w.pack {E:Ent}{ts ts':List AV}{H h':List a0f}{mv:List Nat}(π:Nat->Nat)(hb: ∀i,i<E.base->π i=i)(hl:E.base<=h'.length)(hinj: ∀i j,i<h'.length->j<h'.length->π i=π j->i=j)
 (hts:a3x ts (Ae π ts')) (hh: ∀(i:Nat) (o:a0f),h'[i]? =AK o-> ∃o',a1a H (π i)=AK o'/\a9v o' (o.ren π)) (hlow:AI h'.length ts'=AM) (hlowH:d5i h'.length h'=AM):b4w E ⟨ts,H,mv⟩ ⟨ts',h',mv⟩:=by
 intro a w S ρ r;simp only[a0i] at hh;have hcut: ∀m p,Rho.cut (fun i=>ρ (π i)) h'.length m=AK p->m<h'.length/\ρ (π m)=AK p:=fun m p hp=>by
  unfold Rho.cut at hp;split at hp
  ·rename_i h;exact⟨h,hp⟩
  ·cases hp
 have hv:VRs w S ρ (Ae π ts') a.tmps:=VRs.like hts r.ts;refine⟨Rho.cut (fun i=>ρ (π i)) h'.length,⟨⟨by have:=hv.1;rw[Ab] at this;simpa using this,fun i x v hx hu=> ?_⟩,?_,⟨r.sim.sblk,fun m ob C hl=> ?_,fun m m' b C C' h1 h2=> ?_,fun m b C o hl ho hf=> ?_⟩,?_,fun m hm hmv=> ?_,hl⟩⟩
 ·exact ((hv.2 i (x.ren π) v (by rw[Ab,AJ,hx];rfl) hu).unren rfl).cut (a2f hlow hx)
 ·obtain⟨Ds,d1,d2,d3⟩:=r.ds;exact⟨Ds,d1,fun D hD=>⟨(d2 D hD).obj,(d2 D hD).new,fun m C hl=>(d2 D hD).out (π m) C (hcut _ _ hl).2,(d2 D hD).imm⟩,d3⟩
 ·obtain⟨hm,hl⟩:=hcut _ _ hl;have ho:h'[m]? =AK (h'[m]'hm):=AL _;obtain⟨o',g1,g2⟩:=hh m _ ho;obtain⟨o2,g3,g4⟩:=r.sim.obj (π m) ob C hl;rw[g1] at g3;cases g3;refine⟨_,ho,?_⟩;have h5:=g2.holds _ _ _ _ _ g4;cases ob with
  |none=>obtain⟨hC,sz',e',h6⟩:=h5;refine⟨hC,sz',e',?_⟩;cases hoo:h'[m]'hm<;>rw[hoo] at h6<;>simp[Aa] at h6⊢ <;>exact h6
  |some b=>exact a0z.cut (a0z.unren h5) (c1k hlowH ho)
 ·obtain⟨m1,l1⟩:=hcut _ _ h1;obtain⟨m2,l2⟩:=hcut _ _ h2;exact hinj m m' m1 m2 (r.sim.inj _ _ b C C' l1 l2)
 ·obtain⟨hm,hl⟩:=hcut _ _ hl;obtain⟨o',g1,g2⟩:=hh m _ ho;exact r.sim.own (π m) b C o' hl g1 (g2.frz (by rw[h6j];exact hf))
 ·exact⟨r.ext.os,r.ext.tape,r.ext.output,r.ext.size,r.ext.mono,r.ext.cell,r.ext.news,r.ext.frame,fun m b C hl=>r.ext.owned (π m) b C (hcut _ _ hl).2⟩
 ·have e:Rho.cut (fun i=>ρ (π i)) h'.length m=ρ (π m):=if_pos (by omega);rw[e,hb m hm];exact r.keep m hm hmv
end Go.Vf
