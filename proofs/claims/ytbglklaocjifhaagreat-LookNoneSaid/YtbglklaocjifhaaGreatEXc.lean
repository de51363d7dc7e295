/- The groups of places by a look: the cells in the order in which they come, and which map has them. Conditions: none. -/
import Derived.Test.YtbglklaocjifhaaGreatELw
import Derived.Test.YtbglklaocjifhaaGreatEXk
open List renaming getD_eq_getElem?_getD->AA,length_singleton->AB,length_append->AC,getElem?_eq_getElem->AD,range'->AE,getElem?_map->AG,range'_succ->AH,getElem?_append_right->AI,getElem?_append_left->AJ,map_cons->AK,mem_singleton->AL,mem_range'_1->AN,length_cons->AO,map_append->AP,mem_cons->AQ
open Option renaming some->AF,map_some->AM,none->AR
set_option linter.unusedSimpArgs false
set_option linter.unusedVariables false
namespace Go.Proofs.Tryz.Run
open Go Go.Vf Go.Proofs
open Go.Proofs.YtbglklaocjifhaaGreat
def j8r (X:Nat->VaR)(l:List Nat):List VaR:=l.foldl (fun ks p=>if X p∈ks then ks else ks++[X p]) []
theorem j8m (X:Nat->VaR)(l:List Nat)(p:Nat):j8r X (l++[p])=if X p∈j8r X l then j8r X l else j8r X l++[X p]:=by unfold j8r;rw[List.foldl_append];rfl
theorem j9g {X:Nat->VaR}{v:VaR}{l:List Nat}:v∈j8r X l↔v∈cellsOf X l:=by
 induction l using j9p with
 |h0=>simp[j8r,cellsOf]
 |h1 l p ih=>
  rw[j8m,j8d,k0d,<-ih];split
  ·rename_i h;exact⟨.inr,fun h'=>h'.elim (fun e=>e▸h) id⟩
  ·simp only[List.mem_append,AL];exact Or.comm
theorem j8w (X:Nat->VaR)(l:List Nat):(j8r X l).Nodup:=by
 induction l using j9p with
 |h0=>simp[j8r]
 |h1 l p ih=>
  rw[j8m];split
  ·exact ih
  ·rename_i h;refine List.nodup_append.2 ⟨ih,by simp,fun a ha b hb e=>h ?_⟩;rw[AL] at hb;rw[<-hb,<-e];exact ha
theorem k2i (X:Nat->VaR)(l:List Nat):(j8r X l).length<=l.length:=by
 induction l using j9p with
 |h0=>simp[j8r]
 |h1 l p ih=>rw[j8m];split<;>simp<;>omega
def k0l (v:VaR):List KC:=[.i v.fault,.i v.n]
theorem k1u {v u:VaR}(h:k0l v=k0l u):v=u:=by simp only[k0l,List.cons.injEq,KC.i.injEq,and_true] at h;cases v;cases u;simp_all
theorem k0j {ks:List VaR}{V:Nat->AV}{v:VaR}:(v∉ks-> ∀n,b1j (k0l v) (ks.map k0l) ((AE n ks.length).map V)=AR/\c9t (k0l v) (ks.map k0l) n=AR)/\
 (∀j,j<ks.length->ks.getD j ⟨0,0⟩=v->(∀i,i<j->ks.getD i ⟨0,0⟩≠v)-> ∀n,b1j (k0l v) (ks.map k0l) ((AE n ks.length).map V)=AF (V (n+j))/\c9t (k0l v) (ks.map k0l) n=AF (n+j)):=by
 induction ks with
 |nil=>exact⟨fun _ n=>⟨rfl,rfl⟩,fun j hj=>absurd hj (Nat.not_lt_zero j)⟩
 |cons k ks ih=>
  obtain⟨ih1,ih2⟩:=ih;refine⟨fun h n=> ?_,fun j hj he hn n=> ?_⟩
  ·have h1:k0l k≠k0l v:=fun e=>h (by rw[k1u e];simp);obtain⟨g1,g2⟩:=ih1 (fun h'=>h (List.mem_cons_of_mem _ h')) (n+1);simp only[AK,AO,AH,b1j,c9t,if_neg h1];exact⟨g1,g2⟩
  ·cases j with
   |zero=>
    have:k=v:=by simpa using he
    subst this;simp[AH,b1j,c9t]
   |succ j=>have h1:k0l k≠k0l v:=fun e=>hn 0 (by omega) (by simpa using k1u e);obtain⟨g1,g2⟩:=ih2 j (by simpa using hj) (by simpa using he) (fun i hi=>by simpa using hn (i+1) (by omega)) (n+1);simp only[AK,AO,AH,b1j,c9t,if_neg h1];rw[show n+(j+1)=n+1+j by omega];exact⟨g1,g2⟩
def spR (F:Nat->Nat->VaR)(g:Nat->Bool)(q:Nat):List DV:=h7v (F q) (g q)
structure G1 where
 i:Nat
 H:List a0f
 mv:List Nat
 P:Nat->Nat
def G1.ks (X:Nat->VaR)(l:List Nat)(s:G1):List VaR:=j8r X (l.take s.i)
def G1.pt (X:Nat->VaR)(l:List Nat)(s:G1)(j:Nat):List Nat:=j7u X ((s.ks X l).getD j ⟨0,0⟩) (l.take s.i)
structure G1.ok (k:Nat)(l:List Nat)(X:Nat->VaR)(F:Nat->Nat->VaR)(g:Nat->Bool)(C:List a0f)(s:G1):Prop where
 hi:s.i<=l.length
 hlen:k+2<=a3q s.H
 hC:k3e k s.H C
 hM:a1a s.H k=AF (.mapv true [.u8,.i64] ((s.ks X l).map k0l) ((AE 0 (s.ks X l).length).map fun j=> .msl (s.P j) 9 AR (s.pt X l j).length false))
 hE: ∃ce:Nat->List DV,a1a s.H (k+1)=AF (.arr 2 (s.ks X l).length ce)/\ ∀j,j<(s.ks X l).length->ce j=((s.ks X l).getD j ⟨0,0⟩).row
 hP: ∀j,j<(s.ks X l).length->k+2<=s.P j/\ ∃pe:Nat->List DV,a1a s.H (s.P j)=AF (.arr 9 (s.pt X l j).length pe)/\ ∀i,i<(s.pt X l j).length->pe i=spR F g ((s.pt X l j).getD i 0)
 hinj: ∀j j',j<(s.ks X l).length->j'<(s.ks X l).length->s.P j=s.P j'->j=j'
 hmv: ∀x,x∈s.mv->k<=x
theorem j8k {l:List Nat}{i:Nat}(h:i<l.length):l.take (i+1)=l.take i++[l.getD i 0]:=by rw[List.take_add_one,AD h,AA,AD h];rfl
theorem k0f {ks:List VaR}{x:VaR}{j:Nat}(h:j<ks.length):(ks++[x]).getD j ⟨0,0⟩=ks.getD j ⟨0,0⟩:=by rw[AA,AA,AJ h]
theorem k0h {ks:List VaR}{x:VaR}:(ks++[x]).getD ks.length ⟨0,0⟩=x:=by rw[AA,AI (Nat.le_refl _)];simp
theorem k0b {ks:List Nat}{x j:Nat}(h:j<ks.length):(ks++[x]).getD j 0=ks.getD j 0:=by rw[AA,AA,AJ h]
theorem k0a {ks:List Nat}{x:Nat}:(ks++[x]).getD ks.length 0=x:=by rw[AA,AI (Nat.le_refl _)];simp
section
variable {k:Nat} {l:List Nat} {X:Nat->VaR} {F:Nat->Nat->VaR} {g:Nat->Bool} {C:List a0f} {i M:Nat} {H H':List a0f} {mv:List Nat} {P:Nat->Nat} {q:Nat} {KS:List VaR}
theorem G1.ok_new (hR:G1.ok k l X F g C ⟨i,H,mv,P⟩)(hi:i<l.length)(hCl:a3q C=k)(hCf: ∀x o i,x<k->a1a C x=AF o->k<=i->o.forget i false=o)(hM:a3q H=M)(hq:l.getD i 0=q)(hKS:j8r X (l.take i)=KS)(hin:X q∉KS)
 (f1:M+3<=a3q H') (f2:a1a H' k=AF (.mapv true [.u8,.i64] (a2u (KS.map k0l) [k0l (X q)]) (a2u ((AE 0 KS.length).map fun j=> .msl (P j) 9 AR (j7u X (KS.getD j ⟨0,0⟩) (l.take i)).length false) [.msl (M+2) 9 AR 1 false])))
 (f3: ∃e:Nat->List DV,a1a H' (k+1)=AF (.arr 2 (KS.length+1) e)/\(∀ce,a1a H (k+1)=AF (.arr 2 KS.length ce)-> ∀j,j<KS.length->e j=ce j)/\e KS.length=(X q).row)
 (f4: ∀x o,x<M->x≠k->x≠k+1->a1a H x=AF o->o.forget (k+1) false=o->a1a H' x=AF o)
 (f5: ∃e:Nat->List DV,a1a H' (M+2)=AF (.arr 9 1 e)/\e 0=spR F g q):
 G1.ok k l X F g C ⟨i+1,H',(k+1)::mv,fun j=>if j=KS.length then M+2 else P j⟩:=by
 obtain⟨_,hlen,hC,hM0,⟨ce,hE1,hE2⟩,hP,hinj,hmv⟩:=hR;simp only[G1.ks,G1.pt,hKS] at hlen hC hM0 hE1 hE2 hP hinj hmv;have ht:l.take (i+1)=l.take i++[q]:=by rw[j8k hi,hq]
 have hkn:j8r X (l.take (i+1))=KS++[X q]:=by rw[ht,j8m,hKS,if_neg hin]
 have hpo: ∀j,j<KS.length->j7u X ((KS++[X q]).getD j ⟨0,0⟩) (l.take (i+1))=j7u X (KS.getD j ⟨0,0⟩) (l.take i):=fun j hj=>by rw[k0f hj,ht,j8i,if_neg fun e=>hin (by rw[e];exact j8e hj)]
 have hpn:j7u X ((KS++[X q]).getD KS.length ⟨0,0⟩) (l.take (i+1))=[q]:=by
  have e2:j7u X (X q) (l.take i)=[]:=Classical.byContradiction fun h=>by obtain⟨p,hp⟩:=List.exists_mem_of_ne_nil _ h;obtain⟨p1,p2⟩:=j8c.1 hp;exact hin (by rw[<-hKS];exact j9g.2 (j7x.2 ⟨p,p1,p2⟩))
  rw[k0h,ht,j8i,if_pos rfl,e2];rfl
 have hPM: ∀j,j<KS.length->P j<M:=fun j hj=>by obtain⟨_,pe,h,_⟩:=hP j hj;rw[<-hM];exact j8l h
 have hkM:k+2<=M:=by rw[<-hM];exact hlen
 obtain⟨e3,g1,g2,g3⟩:=f3;obtain⟨e5,g4,g5⟩:=f5;refine⟨hi,by show k+2<=a3q H';omega,fun x hx=> ?_,?_,⟨e3,?_,fun j hj=> ?_⟩,fun j hj=> ?_,fun j j' hj hj' he=> ?_,fun x hx=> ?_⟩
 ·obtain⟨o,ho⟩:=j9o (l:=C) (i:=x) (by omega);have:=hC x hx;rw[ho] at this;rw[f4 x o (by omega) (by omega) (by omega) this (hCf x o _ hx ho (by omega)),ho]
 ·simp only[G1.ks,G1.pt,hkn];rw[f2];congr 2
  ·rw[a0r,AP];rfl
  ·rw[a0r,AC,AB,List.range'_concat,AP];congr 1
   ·refine List.map_congr_left fun j hj=> ?_;rw[AN] at hj;rw[if_neg (by omega),hpo j (by omega)]
   ·simp only[AK,List.map_nil,Nat.zero_add,Nat.one_mul,if_true,hpn];rfl
 ·simp only[G1.ks,hkn,AC,AB];exact g1
 ·simp only[G1.ks,hkn,AC,AB] at hj⊢;by_cases ej:j=KS.length
  ·subst ej;rw[g3,k0h]
  ·rw[k0f (by omega),g2 ce hE1 j (by omega)];exact hE2 j (by omega)
 ·simp only[G1.ks,G1.pt,hkn,AC,AB] at hj⊢;by_cases ej:j=KS.length
  ·subst ej;rw[if_pos rfl,hpn];refine⟨by omega,e5,g4,fun i' hi'=> ?_⟩;obtain rfl:i'=0:=by simpa using hi'
   exact g5
  ·rw[if_neg ej,hpo j (by omega)];obtain⟨h1,pe,h2,h3⟩:=hP j (by omega);exact⟨h1,pe,f4 _ _ (hPM j (by omega)) (by omega) (by omega) h2 rfl,h3⟩
 ·simp only[G1.ks,hkn,AC,AB] at hj hj';simp only at he;by_cases ej:j=KS.length<;>by_cases ej':j'=KS.length
  ·omega
  ·rw[if_pos ej,if_neg ej'] at he;have:=hPM j' (by omega);omega
  ·rw[if_neg ej,if_pos ej'] at he;have:=hPM j (by omega);omega
  ·rw[if_neg ej,if_neg ej'] at he;exact hinj j j' (by omega) (by omega) he
 ·rcases AQ.1 hx with rfl|hx
  ·omega
  ·exact hmv x hx
theorem G1.ok_old {c:Nat}(hR:G1.ok k l X F g C ⟨i,H,mv,P⟩)(hi:i<l.length)(hCl:a3q C=k)(hCf: ∀x o i,x<k->a1a C x=AF o->k<=i->o.forget i false=o)(hM:a3q H=M)(hq:l.getD i 0=q)(hKS:j8r X (l.take i)=KS)(hc:c<KS.length)(hin:KS.getD c ⟨0,0⟩=X q)
 (f1:M<=a3q H') (f2:a1a H' k=AF (.mapv true [.u8,.i64] (KS.map k0l) (a2x ((AE 0 KS.length).map fun j=> .msl (P j) 9 AR (j7u X (KS.getD j ⟨0,0⟩) (l.take i)).length false) c (.msl (P c) 9 AR ((j7u X (KS.getD c ⟨0,0⟩) (l.take i)).length+1) false))))
 (f4: ∀x o,x<M->x≠k->x≠P c->a1a H x=AF o->o.forget (P c) false=o->a1a H' x=AF o)
 (f5: ∃e:Nat->List DV,a1a H' (P c)=AF (.arr 9 ((j7u X (KS.getD c ⟨0,0⟩) (l.take i)).length+1) e)/\(∀pe,a1a H (P c)=AF (.arr 9 (j7u X (KS.getD c ⟨0,0⟩) (l.take i)).length pe)-> ∀j,j<(j7u X (KS.getD c ⟨0,0⟩) (l.take i)).length->e j=pe j)/\e (j7u X (KS.getD c ⟨0,0⟩) (l.take i)).length=spR F g q):
 G1.ok k l X F g C ⟨i+1,H',P c::mv,P⟩:=by
 obtain⟨_,hlen,hC,hM0,⟨ce,hE1,hE2⟩,hP,hinj,hmv⟩:=hR;simp only[G1.ks,G1.pt,hKS] at hlen hC hM0 hE1 hE2 hP hinj hmv;have ht:l.take (i+1)=l.take i++[q]:=by rw[j8k hi,hq]
 have hmem:X q∈KS:=by rw[<-hin];exact j8e hc
 have hkn:j8r X (l.take (i+1))=KS:=by rw[ht,j8m,hKS,if_pos hmem]
 have hnd:KS.Nodup:=by rw[<-hKS];exact j8w _ _
 have hne: ∀j,j<KS.length->j≠c->X q≠KS.getD j ⟨0,0⟩:=fun j hj hjc e=>by
  rw[<-hin,AA,AA,AD hc,AD hj] at e;simp only[Option.getD_some] at e;have hp:=List.pairwise_iff_getElem.1 hnd;rcases Nat.lt_trichotomy c j with h|h|h
  ·exact hp c j hc hj h e
  ·exact hjc h.symm
  ·exact hp j c hj hc h e.symm
 have hpo: ∀j,j<KS.length->j≠c->j7u X (KS.getD j ⟨0,0⟩) (l.take (i+1))=j7u X (KS.getD j ⟨0,0⟩) (l.take i):=fun j hj hjc=>by rw[ht,j8i,if_neg (hne j hj hjc)]
 have hpc:j7u X (KS.getD c ⟨0,0⟩) (l.take (i+1))=j7u X (KS.getD c ⟨0,0⟩) (l.take i)++[q]:=by rw[ht,j8i,if_pos hin.symm]
 have hPM: ∀j,j<KS.length->P j<M:=fun j hj=>by obtain⟨_,pe,h,_⟩:=hP j hj;rw[<-hM];exact j8l h
 have hkM:k+2<=M:=by rw[<-hM];exact hlen
 have hPc:=(hP c hc).1;obtain⟨e5,g4,g6,g5⟩:=f5;refine⟨hi,by show k+2<=a3q H';omega,fun x hx=> ?_,?_,⟨ce,?_,?_⟩,fun j hj=> ?_,?_,fun x hx=> ?_⟩
 ·obtain⟨o,ho⟩:=j9o (l:=C) (i:=x) (by omega);have:=hC x hx;rw[ho] at this;rw[f4 x o (by omega) (by omega) (by omega) this (hCf x o _ hx ho (by omega)),ho]
 ·simp only[G1.ks,G1.pt,hkn];rw[f2];congr 2;rw[a0l];refine List.ext_getElem? fun j=> ?_;rw[List.getElem?_set];by_cases ej:c=j
  ·subst ej;have hr:(AE 0 KS.length)[c]? =AF c:=by rw[List.getElem?_range' hc];simp
   rw[if_pos rfl,List.length_map,List.length_range',if_pos hc,AG,hr];simp only[AM];rw[hpc,AC,AB]
  ·rw[if_neg ej,AG,AG];cases hr:(AE 0 KS.length)[j]? with
   |none=>rfl
   |some t=>
    have ht2:=List.mem_of_getElem? hr;rw[AN] at ht2;have hjl:=(List.getElem?_eq_some_iff.1 hr).1;have htj:t=j:=by rw[AD hjl] at hr;simpa using hr.symm
    simp only[AM];rw[hpo t (by omega) (by omega)]
 ·simp only[G1.ks,hkn];exact f4 _ _ (by omega) (by omega) (by omega) hE1 rfl
 ·simp only[G1.ks,hkn];exact hE2
 ·simp only[G1.ks,G1.pt,hkn] at hj⊢;by_cases ej:j=c
  ·subst ej;obtain⟨h1,pe,h2,h3⟩:=hP j hj;rw[hpc,AC,AB];refine⟨h1,e5,g4,fun i' hi'=> ?_⟩;by_cases ei:i'=(j7u X (KS.getD j ⟨0,0⟩) (l.take i)).length
   ·subst ei;rw[g5,k0a]
   ·rw[g6 pe h2 i' (by omega),h3 i' (by omega),k0b (by omega)]
  ·rw[hpo j hj ej];obtain⟨h1,pe,h2,h3⟩:=hP j hj;exact⟨h1,pe,f4 _ _ (hPM j hj) (by omega) (fun e=>ej (hinj j c hj hc e)) h2 rfl,h3⟩
 ·simp only[G1.ks,hkn];exact hinj
 ·rcases AQ.1 hx with rfl|hx
  ·omega
  ·exact hmv x hx
end
end Go.Proofs.Tryz.Run
