/- The groups of places, the rounds on objects that are all known. A round of the groups in the search of the best plan. Conditions: none. -/
import Derived.Test.YtbglklaocjifhaaGreatEIa
import Derived.Test.YtbglklaocjifhaaGreatEXd
open List renaming getElem?_append_left->AA,getElem?_append_right->AE,length_append->AF,map_append->AG
open Go.Proofs.Tryz renaming prog->AB
open Bool renaming true->AC,false->AD
set_option linter.unusedSimpArgs false
set_option linter.unusedVariables false
set_option maxHeartbeats 0
set_option maxRecDepth 100000
namespace Go.Proofs.Tryz.Run
open Go Go.Vf Go.Proofs
open Go.Proofs.YtbglklaocjifhaaGreat
theorem k3v {k y a b:Nat}(hyk:y<k)(hak:a<k)(hbk:b<k)(C D:Nat->List a0f)(hCk: ∀p,a3q (C p)=k)(hDk: ∀p,a3q (D p)=k)(hCl: ∀p,d5i k (C p)=AC)(hDl: ∀p,d5i k (D p)=AC)
 (l:List Nat) (hl0:l≠[]) (hll:l.length<=1000000) (look:Nat) (hlook:look<4) (F:Nat->Nat->VaR) (g:Nat->Bool)
 (hok: ∀q,q∈l->a1i (F q look)/\0<=(F q look).fault) (ha0:a1a (C 0) a=some (.var [.d (.sl 9 l.length fun j=>spR F g (l.getD j 0))])) (hb0:a1a (C 0) b=some (.var [int look]))
 (X:Nat->VaR) (hX: ∀q,F q look=X q) (SS:Nat->VaR) (hSS: ∀p,(cellsOf X l).getD p ⟨0,0⟩=SS p) (NN:Nat) (hNN:(cellsOf X l).length=NN) (z:Nat->Bool)
 (W:List Nat) (hW: ∀x,x∈W->x<k/\x≠y)
 (hy: ∀(p n:Nat) (pe:Nat->List DV),p<NN->(∀j,j<p->z j=AC)->(j7u X (SS p) l).length=n->(∀i,i<n->pe i=spR F g ((j7u X (SS p) l).getD i 0))->
   b5d AB y [(SS p).av,.msl k 9 none n AD] (a2u (C p) [.arr 9 n pe]) (fun pg v h'=>(∀x,x∈pg->x∈W)/\v= .d (.bool (z p))/\ ∃o,h'=a2u (if z p=AC then C (p+1) else D p) [o])):
 a1h AB 172 [.yl y,.ptr a 0,.ptr b 0] (C 0) (fun pg v h'=>pg=W/\v= .tuple []/\(((∀j,j<NN->z j=AC)/\h'=C NN)\/ ∃p,p<NN/\(∀j,j<p->z j=AC)/\z p=AD/\h'=D p)):=by
 obtain⟨CC,hc0,hcs⟩: ∃CC:Nat->List a0f,CC 0=C 0/\ ∀q,CC (q+1)=if z q=AC then C (q+1) else D q:=⟨fun p=>match p with|0=>C 0|q+1=>if z q=AC then C (q+1) else D q,rfl,fun _=>rfl⟩;have hCCk: ∀p,a3q (CC p)=k:=fun p=>by
  cases p with
  |zero=>rw[hc0];exact hCk 0
  |succ q=>rw[hcs];split;exact hCk _;exact hDk _
 have hCCl: ∀p,d5i k (CC p)=AC:=fun p=>by
  cases p with
  |zero=>rw[hc0];exact hCl 0
  |succ q=>rw[hcs];split;exact hCl _;exact hDl _
 have hCCg: ∀p,(∀j,j<p->z j=AC)->CC p=C p:=fun p hp=>by
  cases p with
  |zero=>exact hc0
  |succ q=>rw[hcs,if_pos (hp q (Nat.lt_succ_self q))]
 have hgl: ∀{x:Nat} {o:a0f} {p:Nat},a1a (CC p) x=some o->o.low k=AC:=fun {x o p} h=>c1k (hCCl p) (by rw[<-a0i];exact h);have h:=k2m hyk hak hbk (C 0) (hCk 0) l hl0 hll look hlook F g hok ha0 hb0 (fun x o i hx ho hi=>a0f.forget_low hi (hgl (p:=0) (by rw[hc0];exact ho))) X hX SS hSS NN hNN z W hW (fun K1 p H=>k3e k H (CC p)) (fun H h1 h2=>by rw[hc0];exact h2) ?_
 ·refine a1h.cut (a1h.mono ?_ h);rintro pg v h' ⟨rfl,rfl,K1,p,g1,g2,g3,g4,g5⟩;have hlen:k<=a3q h':=by obtain⟨o,ho⟩:=j9o (l:=CC p) (i:=k-1) (by rw[hCCk];omega);have h1:=g3 (k-1) (by omega);rw[ho] at h1;have:=j8l h1;omega
  have hL:a4k h' (CC p):=a4k.of_get (by rw[<-a0u,<-a0u,hCCk];exact hlen) fun i o o' ho ho'=>by
   have hi:i<k:=by rw[<-hCCk p];rw[<-a0i] at ho';exact j8l ho'
   have h1:=g3 i hi;rw[a0i,a0i,ho,ho'] at h1;cases h1;exact a9v.refl _
  have hk:(C 0).length=k:=by rw[<-a0u];exact hCk 0
  have hk2:(CC p).length=k:=by rw[<-a0u];exact hCCk p
  refine⟨CC p,.tuple [],hL,a0x.refl _,by omega,.inl ⟨rfl,by rw[hk2];exact hCCl p⟩,rfl,rfl,?_⟩;cases p with
  |zero=>
   have:NN=0:=by
    rcases Nat.eq_zero_or_pos NN with h|h
    ·exact h
    ·obtain⟨j,hj,_⟩:=g5 h;omega
   subst this;exact .inl ⟨fun j hj=>absurd hj (Nat.not_lt_zero j),hc0⟩
  |succ q=>
   cases hz:z q with
   |true=>
    have hq:q+1=NN:=by
     rcases Nat.lt_or_ge (q+1) NN with h|h
     ·obtain⟨j,hj,h2⟩:=g5 h;obtain rfl:q=j:=by omega
      rw[hz] at h2;cases h2
     ·omega
    have hall: ∀j,j<NN->z j=AC:=fun j hj=>by
     by_cases e:j=q
     ·rw[e];exact hz
     ·exact g4 j (by omega)
    exact .inl ⟨hall,by rw[hq];exact hCCg NN hall⟩
   |false=>exact .inr ⟨q,by omega,fun j hj=>g4 j (by omega),hz,by rw[hcs,hz];rfl⟩
 ·intro K1 p H Q n pe o h1 h2 h3 h4 h5 h6 h7 h8 h9 h10;have hC:=hCCg p h4;rw[hC] at h5;have hlen:k<=a3q H:=by omega
  have hQ:Q<a3q H:=j8l h9;obtain⟨pos,hpos⟩: ∃pos,List.range' 0 k++[Q]=pos:=⟨_,rfl⟩;have hpl:pos.length=k+1:=by rw[<-hpos];simp
  have hp1: ∀i,i<k->pos[i]? =some i:=fun i hi=>by rw[<-hpos,AA (by simpa using hi),List.getElem?_range' hi];simp
  have hp2:pos[k]? =some Q:=by rw[<-hpos,AE (by simp)];simp
  have hpm: ∀x,x∈pos↔x<k\/x=Q:=fun x=>by rw[<-hpos];simp
  have hnd:pos.Nodup:=by rw[<-hpos];refine List.nodup_append.2 ⟨List.nodup_range',by simp,fun a ha b hb e=> ?_⟩;simp at ha hb;omega
  have hplt: ∀x,x∈pos->x<(a2u H [o]).length:=fun x hx=>by
   rw[<-a0u,j7l];rcases (hpm x).1 hx with h|h<;>simp only[a3q]<;>omega
  obtain⟨π,hπ⟩: ∃f,b2u pos (a3q (a2u H [o]))=f:=⟨_,rfl⟩;have hπ1: ∀i,i<k->π i=i:=fun i hi=>by have:=h9j (base:=a3q (a2u H [o])) (pos:=pos) (i:=i) (by omega);rw[hp1 i hi,hπ] at this;exact (Option.some.inj this).symm
  have hπ2:π k=Q:=by have:=h9j (base:=a3q (a2u H [o])) (pos:=pos) (i:=k) (by omega);rw[hp2,hπ] at this;exact (Option.some.inj this).symm
  have hlowC:d5i k (C p)=AC:=hCl p;have hf:=(hy p n pe h3 h4 h8 h10).frame (H:=a2u H [o]) (l':=y) (args':=[(SS p).av,.msl Q 9 none n AD]) pos hnd (by rw[hπ,hπ1 y hyk]) (by
   rw[hπ];simp only[AV.renL,VaR.av,AV.ren,u8,int,hπ2]) (by
   rw[hπ,show i2l π (a2u (C p) [.arr 9 n pe])=C p++[.arr 9 n pe] by
    rw[h5f,a0r,AG,<-h5f,k1o hπ1 hlowC];rfl]
   refine k0c (by rw[AF,<-a0u (C p),hCk,hpl];rfl) fun i lx ox hl ho=> ?_;by_cases hi:i<k
   ·rw[hp1 i hi] at hl;cases hl;rw[AA (by rw[<-a0u (C p),hCk];exact hi),<-a0i] at ho;exact⟨ox,j7r ((h5 i hi).trans ho),a9v.refl _⟩
   ·have hik:i=k:=by have:=(List.getElem?_eq_some_iff.1 hl).1;omega
    subst hik;rw[hp2] at hl;cases hl;rw[AE (by rw[<-a0u (C p),hCk];exact Nat.le_refl _),<-a0u (C p),hCk] at ho;simp at ho;subst ho;exact⟨_,j7r h9,a9v.refl _⟩)
  refine b5d.mono ?_ hf;rintro pg v h' ⟨pg0,v0,h0,⟨k1,rfl,o1,rfl⟩,k2,rfl,k3⟩;rw[hπ] at k2 k3;have hpg:pg=pg0:=by rw[k2,a5m];exact (List.map_congr_left fun x hx=>hπ1 x (hW x (k1 x hx)).1).trans (List.map_id _)
  subst hpg;have hCx:(if z p=AC then C (p+1) else D p)=CC (p+1):=(hcs p).symm;rw[hCx,h5f,a0r (CC (p+1)),AG,<-h5f,k1o hπ1 (hCCl _)] at k3;obtain⟨o2,ho2⟩: ∃z,[o1].map (a0f.ren π)=[z]:=⟨_,rfl⟩;rw[ho2] at k3;have hfl:(h4b pg (a2u H [o])).length=(a2u H [o]).length:=h6c _ _;have hHl:(a2u H [o]).length=a3q H+1:=by rw[<-a0u,j7l];rfl
  have hxl:(CC (p+1)++[o2]).length=k+1:=by rw[AF,<-a0u (CC (p+1)),hCCk];rfl
  refine⟨k1,rfl,?_,fun x hx=> ?_,fun x o' g1 g2 g3 g4 g5=> ?_⟩
  ·rw[k3,a0u (h4m _ _ _),h5m (by omega),hfl,hHl];omega
  ·have:=h5u (H:=h4b pg (a2u H [o])) (os:=CC (p+1)++[o2]) (i:=x) hnd (fun x hx=>by rw[hfl];exact hplt x hx) (by omega) (by omega);rw[hfl,<-a0u (a2u H [o]),hπ,hπ1 x hx,<-k3,AA (by rw[<-a0u (CC (p+1)),hCCk];exact hx)] at this;rw[a0i,a0i];exact this
  ·rw[a0i,k3,h4n (by rw[hfl,hHl];omega) (fun hm=>by rcases (hpm x).1 hm with h|h<;>omega),h5y,<-a0i,j7r g4,Option.map_some];congr 1;have: ∀pg:List Nat,(∀q,q∈pg->o'.forget q AD=o')->h4h pg o'=o':=by
    intro pg
    induction pg with
    |nil=>intro _;rfl
    |cons q pg ih=>intro h;rw[h4h,h q (by simp)];exact ih fun q hq=>h q (List.mem_cons_of_mem _ hq)
   exact this pg fun q hq=>g5 q (k1 q hq)
def k4p:a0c×a0c:=match h2n with
 | .seq _ (.scope (.seq _ (.seq _ (.seq _ (.seq (.seq _ (.block _ (.loop (.seq _ (.seq _ (.seq (.block _ (.seq _ (.seq _ (.seq _ (.seq _ (.seq _ (.seq (.seq _ (.block _ (.range _ _ a b))) _))))))) _)))))) _)))))=>(a,b)
 |_=>(.ret,.ret)
def k1j (s:LSt):a0f:= .loop s (b5r [(3,.ptr 0 0),(10,.ptr 5 0),(11,.ptr 6 0),(12,.ptr 7 0)] 86) [44,45] (fun ca cb=>comp AB g2j.A ca=some k4p.1/\comp AB g2j.A cb=some k4p.2)
def k0z (trow:List DV)(a0 a1 a2 a3:Bool)(bj:Int)(bn:Nat)(be bp:Nat->List DV)(b0 b1 b2 b3:Bool)(i mx:Int)(sn:Nat)(se:Nat->List DV)(lp:a0f)(p:Nat)(ce pe:Nat->List DV):List a0f:=
 [.var [.dptr trow 0],.var [bool a0,bool a1,bool a2,bool a3],.var [int bj,.msl 3 2 none bn AD,.msl 4 3 none bn AD],.arr 2 bn be,.arr 3 bn bp,.var [bool b0,bool b1,bool b2,bool b3],.var [int i,.msl 11 2 none p AD,.msl 12 3 none p AD],.var [int mx],.var [.d (.sl 9 sn se)],.var [int i],lp,.arr 2 p ce,.arr 3 p pe]
theorem k3b (trow:List DV)(a0 a1 a2 a3:Bool)(bj:Int)(bn:Nat)(be bp:Nat->List DV)(b0 b1 b2 b3:Bool)(i mx mx':Int)(sn:Nat)(se:Nat->List DV)(p:Nat)(ce pe ce' pe':Nat->List DV)(n:Nat)(e9:Nat->List DV)(vf vn lk d:Int)(nc nn:Nat)(Cc Ee:Nat->List DV)(z:Bool)
 (hp:p<=1000000) (h110:a0j AB AD 110 [.dptr trow 0,.d (.sl 9 n e9),.agg [bool b0,bool b1,bool b2,bool b3]] (.tuple [.agg [int lk,.d (.sl 2 nc Cc),.d (.sl 3 nn Ee)],int d,bool z]))
 (hce: ∀j,j<p->RL (ce j) (ce' j)) (hce2:ce' p=[.int .u8 (.v vf),.int .i64 (.v vn)]) (hpe: ∀j,j<p->RL (pe j) (pe' j)) (hpe2:z=AC->RL [.int .i64 (.v lk),.sl 2 nc Cc,.sl 3 nn Ee] (pe' p)) (hmx:z=AC->mx'=if mx<d then d else mx):
 b5d AB 10 [.agg [u8 vf,int vn],.msl 13 9 none n AD] (a2u (k0z trow a0 a1 a2 a3 bj bn be bp b0 b1 b2 b3 i mx sn se (k1j .ready) p ce pe) [.arr 9 n e9])
  (fun pg v h'=>(∀x,x∈pg->x∈[11,12])/\v= .d (.bool z)/\ ∃o,h'=a2u (if z=AC then k0z trow a0 a1 a2 a3 bj bn be bp b0 b1 b2 b3 i mx' sn se (k1j .ready) (p+1) ce' pe' else k0z trow a0 a1 a2 a3 bj bn be bp b0 b1 b2 b3 i mx sn se (k1j (.done (.exit 1))) p ce pe) [o]):=by
 refine b5d.cut (b9t Tryz.mixed okP (A:=g2j.A) rfl (fun _ _ h=>h) rfl fun ro E Sg hS=> ?_);have e:=b2k hS;cbv;refine⟨fun h=>(nomatch h),_,_,_,rfl,?_⟩;cbv;refine a1g hS (e8l hS (Nat.le_refl _)) ?_;refine a0v hS _ h110 ?_;cases z
 ·cbv;refine⟨fun h=>(nomatch h),_,_,_,rfl,[],fun m _ h=>h,?_⟩;refine⟨a2u (k0z trow a0 a1 a2 a3 bj bn be bp b0 b1 b2 b3 i mx sn se (k1j (.done (.exit 1))) p ce pe) [.frz 9 n e9],.d (.bool AD),?_,a0x.refl _,by simp[k0z,a2u],.inl ⟨rfl,rfl⟩,fun x h=>(nomatch h),rfl,_,rfl⟩;exact .cons (.refl _) (.cons (.refl _) (.cons (.refl _) (.cons (.refl _) (.cons (.refl _) (.cons (.refl _) (.cons (.refl _) (.cons (.refl _) (.cons (.refl _) (.cons (.refl _) (.cons (.refl _) (.cons (.refl _) (.cons (.refl _) (.cons (.refl _) (.nil _))))))))))))))
 ·cbv;refine a1g hS trivial (a1g hS (f1i hS (by omega)) (a1g hS (c3d hS) (a1g hS (c3d hS) (a1g hS trivial (a1g hS (f1i hS (by omega)) ?_)))));refine⟨fun h=>(by rcases h with _|⟨_,h⟩<;>rcases h with _|⟨_,h⟩<;>cases h),_,_,_,rfl,[12,11],fun m _ h=>h,?_⟩;have em:Sg.isel (Sg.ilt mx d) d mx=mx':=by rw[e.isel,e.ilt,hmx rfl];simp only[decide_eq_true_eq]
  refine⟨a2u (k0z trow a0 a1 a2 a3 bj bn be bp b0 b1 b2 b3 i mx' sn se (k1j .ready) (p+1) ce' pe') [.frz 9 n e9],.d (.bool AC),?_,a0x.refl _,by simp[k0z,a2u],.inl ⟨rfl,rfl⟩,fun x h=> ?_,rfl,_,rfl⟩
  ·exact .cons (.refl _) (.cons (.refl _) (.cons (.refl _) (.cons (.refl _) (.cons (.refl _) (.cons (.refl _) (.cons (.var (.cons (a0x.refl _) (.cons (d8n hS) (.cons (d8n hS) .nil)))) (.cons (.var (.cons (b0a em) .nil)) (.cons (.refl _) (.cons (.refl _) (.cons (.refl _)
    (.cons (d7h hS hce (by rw[hce2];exact .refl _)) (.cons (d7h hS hpe (hpe2 rfl)) (.cons (.refl _) (.nil _))))))))))))))
  ·simp only[List.mem_cons,List.not_mem_nil,or_false] at h⊢;omega
end Go.Proofs.Tryz.Run
