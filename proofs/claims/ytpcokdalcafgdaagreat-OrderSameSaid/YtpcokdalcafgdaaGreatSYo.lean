/- The program's Sift of a family; costs of families that are alike. Choosing the greatest again and again ranks; sifting never makes the cost greater. Orders by a number; families with the same cells. OrderSame answers true: the walk. Conditions: none. -/
import Derived.Test.YtpcokdalcafgdaaGreatSLq
import Derived.Test.YtpcokdalcafgdaaGreatSNa
import Derived.Test.YtpcokdalcafgdaaGreatSNc
import Derived.Test.YtpcokdalcafgdaaGreatSLh
import Derived.Test.YtpcokdalcafgdaaGreatSNb
import Derived.Test.YtpcokdalcafgdaaGreatSOh
import Derived.Test.YtpcokdalcafgdaaGreatSPm0
import Derived.Test.YtpcokdalcafgdaaGreatSNe
import Derived.Test.YtpcokdalcafgdaaGreatSQd
import Derived.Test.YtpcokdalcafgdaaGreatSQf
import Derived.Test.YtpcokdalcafgdaaGreatSQh
import Derived.Test.YtpcokdalcafgdaaGreatSQi
import Derived.Test.YtpcokdalcafgdaaGreatSSd
import Derived.Test.YtpcokdalcafgdaaGreatSSv
import Derived.Test.YtpcokdalcafgdaaGreatSSy
import Derived.Test.YtpcokdalcafgdaaGreatSUf
import Derived.Test.YtpcokdalcafgdaaGreatSUi
import Derived.Test.YtpcokdalcafgdaaGreatSXc
import Derived.Test.YtpcokdalcafgdaaGreatSXf
import Derived.Test.YtpcokdalcafgdaaGreatSXk
import Derived.Test.YtpcokdalcafgdaaGreatSXn
import Derived.Test.YtpcokdalcafgdaaGreatSXt
import Derived.Test.YtpcokdalcafgdaaGreatSXy
import Derived.Test.YtpcokdalcafgdaaGreatSYb
import Derived.Test.YtpcokdalcafgdaaGreatSYf
import Derived.Test.YtpcokdalcafgdaaGreatSYi
import Derived.Test.YtpcokdalcafgdaaGreatSYj
set_option linter.unusedSimpArgs false
set_option linter.unusedVariables false
set_option maxHeartbeats 0
set_option maxRecDepth 100000
namespace Go.Proofs.Tryz.Run
open Go Go.Vf Go.Proofs
open Go.Proofs.YtpcokdalcafgdaaGreat
theorem b6x.surj {n:Nat}{u:Nat->Nat}(h:b6x n u){v:Nat}(hv:v<n): ∃p,p<n/\u p=v:=by
 have ho:a1u n n fun i=>(u i:Int):=⟨rfl,fun i hi=>⟨⟨Int.natCast_nonneg _,by have:=h.1 i hi;show (u i:Int)<=_;omega⟩,fun k hk e=>by
  have:=h.2 k i (by omega) hi (Int.ofNat.inj e)
  omega⟩⟩
 obtain⟨p,hp,e⟩:=ho.at (v:=(v:Int)) ⟨by omega,by omega⟩
 exact⟨p,hp,by omega⟩
theorem b5b.uniq {n:Nat}{W:Nat->Int}{u u':Nat->Nat}(h:b5b n W u)(h':b5b n W u'): ∀t,t<n->u t=u' t:=by
 intro t
 induction t using Nat.strongRecOn with
 |ind t ih=>
  intro ht
  obtain⟨s,hs,e⟩:=h'.perm.surj (h.perm.1 t ht)
  obtain⟨s',hs',e'⟩:=h.perm.surj (h'.perm.1 t ht)
  have h1:t<=s:=Nat.le_of_not_lt fun hc=>by
   have:=h.perm.2 s t hs ht (by rw[ih s hc hs,e])
   omega
  have h2:t<=s':=Nat.le_of_not_lt fun hc=>by
   have:=h'.perm.2 s' t hs' ht (by rw[<-ih s' hc hs',e'])
   omega
  rcases Nat.eq_or_lt_of_le h1 with q|q
  ·subst q;exact e.symm
  rcases Nat.eq_or_lt_of_le h2 with q2|q2
  ·subst q2;exact e'
  have a:=h'.ord t s q hs
  have b:=h.ord t s' q2 hs'
  rw[e] at a
  rw[e'] at b
  unfold lef at a b
  omega
noncomputable def rkU (n:Nat)(W:Nat->Int):Nat->Nat:=by
 classical exact if h: ∃u,b5b n W u then h.choose else fun _=>0
theorem f2c {n:Nat}{W:Nat->Int}{u:Nat->Nat}(h:b5b n W u): ∀t,t<n->u t=rkU n W t:=fun t ht=>by
 unfold rkU
 have hx: ∃u,b5b n W u:=⟨u,h⟩
 rw[dif_pos hx]
 exact h.uniq hx.choose_spec t ht
theorem e4l {n:Nat}{W:Nat->Int}: ∀t,t<n->rkU n W t<n:=fun t ht=>by
 unfold rkU
 split
 ·rename_i hx;exact hx.choose_spec.perm.1 t ht
 ·show 0<n;omega
section
variable {n:Nat} {l:Nat->DiR}
noncomputable def f8p (n:Nat)(l:Nat->DiR):Nat->Nat:=rkU (l 0).no (cnt (a7d l n).on)
noncomputable def e8z (n:Nat)(l:Nat->DiR)(t:Nat):Nat->Int:=a6q (cst n l) (l 0).no (f8p n l) (l 0).od t
noncomputable def g1s (n:Nat)(l:Nat->DiR)(t:Nat):Nat:=trl (cst n l) (l 0).no (f8p n l) (l 0).od t
theorem a0x.sOrd (h:a0x n l){t:Nat}(ht:t<=(l 0).no):a1u (l 0).no (l 0).no (e8z n l t):=b9r h.ordO (fun t ht=>e4l t ht) t ht
theorem a0x.sift (h:a0x n l)(hs:prod (l 0).sz (l 0).ns<=1000):
 a0j Tryz.prog false 25 [dsl n l] (.tuple [dsl n (Run.chg l (l 0).no (e8z n l (l 0).no)),isl (l 0).no (fun t=>(g1s n l t:Int)),int 0]):=by
 have h54:=h.openF
 have h56:=h.widOwn (cnt (a7d l n).on) fun j _=>rfl
 have h55:=fun od (ho:a1u (l 0).no (l 0).no od)=>h.costF hs ho
 have h64:=fun od od' (ho:a1u (l 0).no (l 0).no od) (ho':a1u (l 0).no (l 0).no od')=>h.inF hs ho ho'
 obtain⟨m,rfl⟩: ∃m,n=m+1:=⟨n-1,by have:=h.pos;omega⟩
 exact e7q (h.no 0 h.pos.1) h.ons.symm (cnt (a7d l (m+1)).on) (cst (m+1) l) (fun od ho=>f0h h hs ho) h.ordO (fun od i=>(Run.chg l (l 0).no od i).row) (ec:=fun i=>[.sl 2 (b3m l i) (c2g l i)])
  h54 h56 h55 h64 (fun od p q ho hp hq=>h.moveF ho hp hq) (f8p (m+1) l) (fun t ht=>e4l t ht) fun u hu t ht=>f2c hu t ht
end
section
variable {n:Nat} {l:Nat->DiR}
end
theorem e7u {n:Nat}{g:Nat->Int}(h:a1u n n g):a1u (n+1) (n+1) (a0r g n n):=by
 refine⟨rfl,fun i hi=>⟨?_,fun k hk=> ?_⟩⟩
 ·unfold a0r
  split
  ·omega
  ·have:=(h.2 i (by omega)).1;omega
 ·unfold a0r
  rw[if_neg (show¬k=n by omega)]
  have h1:=(h.2 k (by omega)).1
  split
  ·omega
  ·exact (h.2 i (by omega)).2 k hk
theorem d9i {n:Nat}{g:Nat->Int}(h:a1u n n g){i k:Nat}(hi:i<n)(hk:k<n):a1u n n (a0r (a0r g i (g k)) k (g i)):=by
 have he: ∀a,a0r (a0r g i (g k)) k (g i) a=g (if a=k then i else if a=i then k else a):=fun a=>by
  show (if a=k then g i else if a=i then g k else g a)=_
  by_cases h1:a=k
  ·rw[if_pos h1,if_pos h1]
  ·rw[if_neg h1,if_neg h1]
   split<;>rfl
 refine⟨rfl,fun a ha=>⟨?_,fun b hb e=> ?_⟩⟩
 ·rw[he]
  exact (h.2 _ (by (repeat' split)<;>omega)).1
 ·rw[he,he] at e
  have:=h.inj _ _ (by (repeat' split)<;>omega) (by (repeat' split)<;>omega) e
  (repeat' split at this)<;>omega
def e9d (z:Nat):Nat->Nat
 |0=>z
 |i+1=>e9d z i/(i+1)
def f4f (z i:Nat):Nat:=e9d z i % (i+1)
def c7g (z:Nat):Nat->Nat->Int
 |0=>fun _=>0
 |i+1=>a0r (a0r (a0r (c7g z i) i i) i (a0r (c7g z i) i i (f4f z i))) (f4f z i) (a0r (c7g z i) i i i)
theorem d3o (z i:Nat):f4f z i<=i:=by have:=Nat.mod_lt (e9d z i) (show 0<i+1 by omega);unfold f4f;omega
theorem c9u (z:Nat): ∀i,a1u i i (c7g z i)
 |0=>⟨rfl,fun i hi=>by omega⟩
 |i+1=>by
  have:=d3o z i
  exact d9i (e7u (c9u z i)) (by omega) (by omega)
theorem d8c (z:Nat): ∀i,e9d z i<=z
 |0=>Nat.le_refl _
 |i+1=>Nat.le_trans (Nat.div_le_self _ _) (d8c z i)
def u16 (z:Int):AV:= .d (.int .u16 (.v z))
theorem f1s {P:Program}{A:Ann}{ro:Option Nat}{E:Ent}{Sg:Sig}(hS:Sg=std P A ro E){a b:Int}(h:a+b≠0):Sg.nz (Sg.iadd a b):=by subst hS;exact h
theorem e1d {n:Nat}(hn:n<=1000000)(z:Nat)(hz:z<=65535):a0j Tryz.prog false 48 [int n,u16 z] (isl n (c7g z n)):=by
 obtain⟨N,hN'⟩: ∃N:Nat->Nat,∀i,e9d z i=N i:=⟨_,fun _=>rfl⟩
 obtain⟨K,hK⟩: ∃K:Nat->Nat,∀i,f4f z i=K i:=⟨_,fun _=>rfl⟩
 obtain⟨G,hG⟩: ∃G:Nat->Nat->Int,∀i,c7g z i=G i:=⟨_,fun _=>rfl⟩
 have hN0:N 0=z:=(hN' 0).symm
 have hN1: ∀i,N (i+1)=N i/(i+1):=fun i=>by rw[<-hN',<-hN',e9d]
 have hNl: ∀i,N i<=65535:=fun i=>by rw[<-hN'];exact Nat.le_trans (d8c z i) hz
 have hK0: ∀i,K i=N i % (i+1):=fun i=>by rw[<-hK,<-hN'];rfl
 have hKl: ∀i,K i<=i:=fun i=>by rw[<-hK];exact d3o z i
 have hG1: ∀i,G (i+1)=a0r (a0r (a0r (G i) i i) i (a0r (G i) i i (K i))) (K i) (a0r (G i) i i i):=fun i=>by rw[<-hG,<-hG,<-hK,c7g]
 rw[hG n]
 clear hN' hK hG
 refine a0d Tryz.mixed okP g5v _ rfl fun E Sg hb hS=> ?_
 have e:=a5x hS
 have hw:Sg.iwrap .i64 (z:Int)=(N 0:Int):=by rw[e.iwrap,hN0];exact a0h (by omega) (by omega)
 have hr: ∀i:Nat,Sg.irem (Int.ofNat (N i)) (Sg.iadd (Int.ofNat i) (Int.ofNat 1))=((K i:Nat):Int):=fun i=>by
  rw[e.irem,e.iadd,hK0]
  show Int.tmod ((N i:Nat):Int) (((i:Nat):Int)+1)=_
  rw[Int.tmod_eq_emod_of_nonneg (Int.natCast_nonneg _)];rfl
 have hq: ∀i:Nat,Sg.iquo (Int.ofNat (N i)) (Sg.iadd (Int.ofNat i) (Int.ofNat 1))=((N (i+1):Nat):Int):=fun i=>by
  rw[e.iquo,e.iadd,hN1]
  show Int.tdiv ((N i:Nat):Int) (((i:Nat):Int)+1)=_
  rw[Int.tdiv_eq_ediv_of_nonneg (Int.natCast_nonneg _)];rfl
 unfold u16
 cbv
 refine b2v Tryz.mixed okP hS (fun i=>i<=n) (fun i=>n-i)
  (fun i=>⟨a2l [(0,int n),(5,.msl 0 1 none i false),(6,int (N i)),(7,int i)] 43,[arrI i (G i)],[0]⟩) 0 (by omega) ?_ ?_
 ·exact (a6f.gt 5 1 (fun _=>[]) rfl).trans (a6f.le (a0m rfl ⟨a0b.refl _,a0b.refl _,a1f hw,a1m rfl,trivial⟩ (.cons (a0f.arrr rfl fun j hj=>by omega) (.nil _)) (by simp;omega) (.inr rfl) rfl))
 ·intro i hi M hM
  cbv
  split
  ·rename_i h
   have hlt:i<n:=Int.ofNat_lt.1 (b8j hS h)
   have hKi:=hKl i
   have hb1: -9223372036854775808<=((i:Nat):Int)+1/\((i:Nat):Int)+1<=9223372036854775807:=by omega
   have hb2: -9223372036854775808<=((N (i+1):Nat):Int)/\((N (i+1):Nat):Int)<=9223372036854775807:=by have:=hNl (i+1);omega
   have hb3:((i:Nat):Int)+1≠0:=by omega
   have hb4:K i<i+1:=by omega
   cbv
   simp only[hr,hq]
   obtain⟨A,hA⟩: ∃A:Nat->Int,∀j,a0r (G i) i i j=A j:=⟨_,fun _=>rfl⟩
   have hG2: ∀j,G (i+1) j=a0r (a0r A i (A (K i))) (K i) (A i) j:=fun j=>by
    rw[hG1]
    simp only[hA,funext hA]
   have happ: ∀j,j<=i->Sg.app i (fun i_1=>[DV.int IntKind.i64 (IX.v (G i i_1))]) (Vf.rowAt [[DV.int IntKind.i64 (IX.v (i:Int))]]) j=[DV.int IntKind.i64 (IX.v (A j))]:=fun j hj=>by
    rw[e.app,<-hA]
    unfold a0r
    by_cases hji:j<i
    ·rw[if_pos hji,if_neg (by omega)]
    ·obtain rfl:j=i:=by omega
     rw[if_neg hji,if_pos rfl,Nat.sub_self];rfl
   simp only[e.nadd,nat,e.toNat,Int.ofNat_eq_natCast,Int.toNat_natCast,happ (K i) hKi,happ i (Nat.le_refl _)]
   refine a0a hS (d3d hS hb1) (a0a hS (f1s hS hb3) (a0a hS (d3d hS hb1) (a0a hS (f1s hS hb3) (a0a hS (a9w hS hb2) (a0a hS trivial (a0a hS (b0h hS (by omega)) (a0a hS (a1d hS hb4) (a0a hS (a1d hS (Nat.lt_succ_self i)) (a0a hS (c4n hS hb4) ?_)))))))))
   cbv
   simp only[Int.ofNat_eq_natCast,happ i (Nat.le_refl _)]
   refine a0a hS (c4n hS (Nat.lt_succ_self i)) ?_
   cbv
   simp only[nat,e.toNat,Int.ofNat_eq_natCast,Int.toNat_natCast,happ i (Nat.le_refl _)]
   refine a0a hS (a1d hS (Nat.lt_succ_self i)) (a0a hS (c4n hS (Nat.lt_succ_self i)) ?_)
   have hupd:Sg.upd (Sg.app i (fun i_1=>[DV.int IntKind.i64 (IX.v (G i i_1))]) (Vf.rowAt [[DV.int IntKind.i64 (IX.v (i:Int))]])) i [DV.int IntKind.i64 (IX.v (A (K i)))] (K i)=[DV.int IntKind.i64 (IX.v (A (K i)))]:=by
    rw[e.upd]
    split
    ·rfl
    ·exact happ _ hKi
   cbv
   simp only[nat,e.toNat,Int.ofNat_eq_natCast,Int.toNat_natCast,hupd]
   refine a0a hS (a1d hS hb4) (a0a hS (c4n hS hb4) ?_)
   cbv
   refine a0a hS (a4t hS (by omega)) ?_
   refine hM (i+1) _ hlt (by omega) (a6f.le (a0m rfl ⟨a0b.refl _,a0b.refl _,a0b.refl _,a5c hS,trivial⟩ (.cons (b5v hS ?_ ?_) (.nil _)) (by simp;omega) (.inl ⟨rfl,rfl⟩) rfl))
   ·intro j hj hjk
    have hx:Sg.upd (Sg.app i (fun i_1=>[DV.int IntKind.i64 (IX.v (G i i_1))]) (Vf.rowAt [[DV.int IntKind.i64 (IX.v (i:Int))]])) i [DV.int IntKind.i64 (IX.v (A (K i)))] j=[DV.int IntKind.i64 (IX.v (G (i+1) j))]:=by
     rw[e.upd,hG2]
     simp only[a0r]
     rw[if_neg hjk]
     by_cases hji:j=i
     ·rw[if_pos hji,if_pos hji]
     ·rw[if_neg hji,if_neg hji]
      exact happ _ (by omega)
    exact hx▸(.refl _)
   ·intro _
    rw[hG2]
    unfold a0r
    rw[if_pos rfl]
    exact .refl _
  ·rename_i h
   have hin:i=n:=by have:=Int.ofNat_le.1 (b7c hS h);omega
   subst hin
   cbv
   refine a0a hS (b0h hS (Nat.le_refl _)) ?_
   exact a0b.refl _
theorem e5f {n:Nat}(hn:0<n/\n<=1000000)(a b:Nat->DiR)(h21:a0j Tryz.prog true 21 [dsl n b] (int 0))(h23:a0j Tryz.prog true 23 [isl (a 0).ns (a 0).sz,isl (b 0).ns (b 0).sz] (bool true))(T:Nat->Nat)(f:Nat->Nat->VaR)
 (h80a: ∀i,i<n->a0j Tryz.prog false 80 [(a i).av] (vsl (T i) (f i))) (h80b: ∀i,i<n->a0j Tryz.prog false 80 [(b i).av] (vsl (T i) (f i))) (h82: ∀i,i<n->a0j Tryz.prog true 82 [vsl (T i) (f i),vsl (T i) (f i)] (bool true)):
 a0j Tryz.prog true 49 [dsl n a,dsl n b] (bool true):=by
 refine a0s (a0d Tryz.mixed okP g6h _ rfl fun E Sg hb hS=> ?_)
 have e:=a5x hS
 have hn0:nat Sg (IX.l (Int.ofNat 0))=0:=rfl
 cbv
 simp only[e.ieq,e.bnot,BEq.rfl,Bool.not_true]
 cbv
 refine a0e hS _ h21 ?_
 cbv
 simp only[e.ieq,e.bnot,BEq.rfl,Bool.not_true]
 cbv
 refine a0a hS (a1d hS hn.1) (a0a hS (a1d hS hn.1) ?_)
 refine a0e hS _ h23 ?_
 cbv
 refine a0y Tryz.mixed okP hS (fun i=>i<=n) (fun i=>n-i)
  (fun i=>⟨a2l [(0,dsl n a),(1,dsl n b),(5,int i)] 46,[],[]⟩) 0 (by omega) ?_ ?_
 ·exact a0m rfl ⟨a0b.refl _,a0b.refl _,a1m rfl,trivial⟩ (.nil _) (by omega) (.inr rfl) rfl
 ·intro i hi N hN
  cbv
  split
  ·rename_i h
   have hlt:i<n:=c3a hS h
   have q1:=h80a i hlt
   have q2:=h80b i hlt
   have q3:=h82 i hlt
   cbv
   simp only[nat,e.toNat,Int.ofNat_eq_natCast,Int.toNat_natCast]
   refine a0a hS (a1d hS hlt) (a0a hS (a1d hS hlt) ?_)
   refine a0e hS _ q1 ?_
   cbv
   refine a0a hS (a6d hS) ?_
   refine a0e hS _ q2 ?_
   cbv
   refine a0e hS _ q3 ?_
   cbv
   refine a0a hS (a4t hS (by omega)) ?_
   exact hN (i+1) _ hlt (by omega) (a0m rfl ⟨a0b.refl _,a0b.refl _,a5c hS,trivial⟩ (.nil _) (by omega) (.inr rfl) rfl)
  ·cbv
   exact a0b.refl _
section
variable {n:Nat} {l:Nat->DiR}
theorem a0x.alike (h:a0x n l)(hs:prod (l 0).sz (l 0).ns<=1000){no:Nat}{od:Nat->Int}(hfr:a2e (l 0).ns no (l 0).sz od=0):a0j Tryz.prog true 49 [dsl n l,dsl n (Run.chg l no od)] (bool true):=by
 have hA:=h.chg hs hfr
 have hn:=h.pos
 have hT:=fun i (hi:i<n)=>(h.di i hi).T
 have hp:=fun i (hi:i<n)=>b1u (h.fr i hi).1
 refine e5f (by omega) l (Run.chg l no od) (d2k n (by omega) _ hA.fit 0 hA.err) (c4k _ _ _ _ (h.fit 0 hn.1).ns true (by simp;rfl)) (b3m l) (fun i=>(l i).cell) (fun i hi=>e4f (l i) (h.di i hi) (h.fit i hi) (hT i hi)) (fun i hi=> ?_) fun i hi=>e2f (by
  have:=hT i hi
  have:=hp i hi
  unfold b3m
  omega) _
 have h1:=e4f (Run.chg l no od i) (hA.di i hi) (hA.fit i hi) (T:=b3m l i) (by
  show _=prod (l 0).sz (l 0).ns
  rw[hp i hi];exact hT i hi)
 refine a0j.resLike (a0b.sl fun j hj=> ?_) h1
 rw[h.chgCell hfr hi (by rw[hp i hi,<-hT i hi];exact Int.ofNat_lt.2 hj)]
end
theorem h3e (n:Nat)(l:Nat->DiR)(hw: ∀i,i<n->(l i).wf)(z:Int)(hz:0<=z/\z<=65535):a0j Tryz.prog true 14 [dsl n l,u16 z] (bool true):=by
 have haw:=d0x
 by_cases ht:d7d n l/\a6p n l 0
 rotate_left
 ·have h34:=d4k n l hw false (by simp only[ht,Bool.false_eq_true])
  refine a0s (a0d Tryz.mixed okP h3i _ rfl fun E Sg hb hS=> ?_)
  cbv
  refine a0e hS _ h34 ?_
  cbv
  refine a0e hS _ haw ?_
  cbv
  exact a0b.refl _
 have h34:=d4k n l hw true (by simp only[ht,and_self])
 have hn4:=ht.1.1
 have hF:=a0x.mk' (n:=n) (l:=l) (by omega) (fun i hi=>(ht.1.2 i hi).1.fit (hw i hi)) (fun i hi=>(hw i hi).2.2) ht.2
 have hp:=hF.pos.1
 have hs:prod (l 0).sz (l 0).ns<=1000:=by
  have:=(ht.1.2 0 hp).2 (c1q ht.2|>.2 0 hp).1
  omega
 have hno:=hF.ons
 have hno12:=hF.no 0 hp
 obtain⟨zn,rfl⟩: ∃zn:Nat,z=zn:=⟨z.toNat,by omega⟩
 have h48:=e1d (n:=(l 0).ns) (hF.fit 0 hp).ns zn (by omega)
 have ho1:a1u (l 0).no (l 0).no (c7g zn (l 0).ns):=by rw[hno];exact c9u zn _
 have ho2:=hF.sOrd (t:=(l 0).no) (Nat.le_refl _)
 have h40:=(e1k hF hno12 (c7g zn (l 0).ns)).2 (hF.frO ho1)
 have h25:=hF.sift hs
 have h49:=hF.alike hs (hF.frO ho1)
 have h49s:=hF.alike hs (hF.frO ho2)
 have hA:=hF.chg hs (hF.frO ho1)
 have hB:=hF.chg hs (hF.frO ho2)
 have h41:=e5i (show (l 0).no<=1000000 by omega) (l 0).od
 have hfr0:a2e (l 0).ns (l 0).no (l 0).sz (l 0).od=0:=(hF.di 0 hp).fr
 have hA1:a0j Tryz.prog false 40 [dsl n (chg l (l 0).no (c7g zn (l 0).ns)),isl (l 0).no (l 0).od] (.tuple [dsl n l,int 0]):=
  a0j.resLike (a1r.tuple (.cons (hF.back (hF.frO ho1) fun j _=>rfl) (.cons (a0b.refl _) .nil))) ((e1k hA hno12 (l 0).od).2 hfr0)
 have hB1:a0j Tryz.prog false 40 [dsl n (chg l (l 0).no (e8z n l (l 0).no)),isl (l 0).no (l 0).od] (.tuple [dsl n l,int 0]):=
  a0j.resLike (a1r.tuple (.cons (hF.back (hF.frO ho2) fun j _=>rfl) (.cons (a0b.refl _) .nil))) ((e1k hB hno12 (l 0).od).2 hfr0)
 have h27:=hF.same
 have h19:=e2w n (by omega) l hF.fit
 rw[<-hno] at h48
 obtain⟨A,hAe⟩: ∃A,chg l (l 0).no (c7g zn (l 0).ns)=A:=⟨_,rfl⟩
 obtain⟨B,hBe⟩: ∃B,chg l (l 0).no (e8z n l (l 0).no)=B:=⟨_,rfl⟩
 rw[hno] at h48
 rw[hAe] at h40 h49 hA1
 rw[hBe] at h25 h49s hB1
 obtain⟨g,hg⟩: ∃g,c7g zn (l 0).ns=g:=⟨_,rfl⟩
 rw[hg] at h48 h40
 obtain⟨tr,htr⟩: ∃tr:Nat->Int,(fun t=>(g1s n l t:Int))=tr:=⟨_,rfl⟩
 rw[htr] at h25
 obtain⟨ns,hnse⟩: ∃ns,(l 0).ns=ns:=⟨_,rfl⟩
 obtain⟨o1,ho1e⟩: ∃o1,(l 0).od=o1:=⟨_,rfl⟩
 rw[hnse] at hno
 rw[hno] at h40 h25 h41 hA1 hB1
 rw[ho1e] at h41 hA1 hB1
 rw[hnse] at h48
 clear hA hB ho1 ho2 hfr0 hAe hBe hg htr
 refine a0s (a0d Tryz.mixed okP h3i _ rfl fun E Sg hb hS=> ?_)
 have e:=a5x hS
 have hn0:nat Sg (IX.l (Int.ofNat 0))=0:=rfl
 cbv
 refine a0e hS _ h34 ?_
 cbv
 simp only[hn0,hnse,e.ofNat]
 refine a0a hS (a1d hS hp) ?_
 refine a0e hS _ h19 ?_
 cbv
 refine a0a hS (a6d hS) ?_
 refine a0e hS _ h48 ?_
 cbv
 refine a0e hS _ h40 ?_
 cbv
 refine a0e hS _ h19 ?_
 cbv
 refine a0e hS _ h25 ?_
 cbv
 simp only[e.ieq,e.bnot,BEq.rfl,Bool.not_true]
 cbv
 simp only[e.ieq,e.bnot,BEq.rfl,Bool.not_true]
 cbv
 refine a0e hS _ h49 ?_
 cbv
 refine a0e hS _ h49s ?_
 cbv
 refine a0a hS (a1d hS hp) ?_
 simp only[hn0,hno,ho1e]
 refine a0e hS _ h41 ?_
 cbv
 refine a0e hS _ hA1 ?_
 cbv
 refine a0a hS (a1d hS hp) ?_
 simp only[hn0,hno,ho1e]
 refine a0e hS _ h41 ?_
 cbv
 refine a0e hS _ hB1 ?_
 cbv
 simp only[e.ieq,e.bnot,BEq.rfl,Bool.not_true]
 cbv
 simp only[e.ieq,e.bnot,BEq.rfl,Bool.not_true]
 cbv
 refine a0e hS _ h27 ?_
 cbv
 refine a0e hS _ h27 ?_
 cbv
 refine a0e hS _ haw ?_
 cbv
 exact a0b.refl _
end Go.Proofs.Tryz.Run
