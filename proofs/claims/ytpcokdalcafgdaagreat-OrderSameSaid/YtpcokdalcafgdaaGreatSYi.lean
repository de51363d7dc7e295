/- The program's families in whatever order: in, moved, cost, widths. Sorting choices by their widths, the greatest first. Conditions: none. -/
import Derived.Test.YtpcokdalcafgdaaGreatSLq
import Derived.Test.YtpcokdalcafgdaaGreatSNa
import Derived.Test.YtpcokdalcafgdaaGreatSNc
import Derived.Test.YtpcokdalcafgdaaGreatSLh
import Derived.Test.YtpcokdalcafgdaaGreatSNb
import Derived.Test.YtpcokdalcafgdaaGreatSOh
import Derived.Test.YtpcokdalcafgdaaGreatSPm0
import Derived.Test.YtpcokdalcafgdaaGreatSQd
import Derived.Test.YtpcokdalcafgdaaGreatSQf
import Derived.Test.YtpcokdalcafgdaaGreatSQh
import Derived.Test.YtpcokdalcafgdaaGreatSQi
import Derived.Test.YtpcokdalcafgdaaGreatSSd
import Derived.Test.YtpcokdalcafgdaaGreatSSy
import Derived.Test.YtpcokdalcafgdaaGreatSUf
import Derived.Test.YtpcokdalcafgdaaGreatSUi
import Derived.Test.YtpcokdalcafgdaaGreatSXf
import Derived.Test.YtpcokdalcafgdaaGreatSXk
import Derived.Test.YtpcokdalcafgdaaGreatSXn
import Derived.Test.YtpcokdalcafgdaaGreatSXt
import Derived.Test.YtpcokdalcafgdaaGreatSXy
import Derived.Test.YtpcokdalcafgdaaGreatSYb
import Derived.Test.YtpcokdalcafgdaaGreatSYf
set_option linter.unusedSimpArgs false
set_option linter.unusedVariables false
set_option maxHeartbeats 0
set_option maxRecDepth 100000
namespace Go.Proofs.Tryz.Run
open Go Go.Vf Go.Proofs
open Go.Proofs.YtpcokdalcafgdaaGreat
noncomputable def cst (n:Nat)(l:Nat->DiR)(od:Nat->Int):Nat:=(a7d (chg l (l 0).no od) n).on.length
def b3m (l:Nat->DiR)(i:Nat):Nat:=(prod (l i).sz (l i).ns).toNat
def c2g (l:Nat->DiR)(i j:Nat):List DV:=((l i).cell j).row
def e8y (n:Nat)(l:Nat->DiR)(od:Nat->Int):AV:=e1j n l (l 0).no od (b3m l) (c2g l)
section
variable {n:Nat} {l:Nat->DiR}
theorem b8l {T T':Nat->Nat}{e e':Nat->Nat->List DV}(hT: ∀i,i<n->T i=T' i)(he: ∀i,i<n-> ∀j,j<T i->e i j=e' i j):a0b (b9l T e n) (b9l T' e' n):=by
 cases n with
 |zero=>exact a0b.refl _
 |succ n=>exact a0b.slr rfl fun i hi=> .one (.sl (hT i hi) fun j hj=>by rw[he i hi j hj];exact .refl _)
theorem a0x.frO (h:a0x n l){od:Nat->Int}(ho:a1u (l 0).no (l 0).no od):a2e (l 0).ns (l 0).no (l 0).sz od=0:=by
 rw[h.frOf,<-h.ons];exact ho
theorem a0x.ordO (h:a0x n l):a1u (l 0).no (l 0).no (l 0).od:=by
 have:=h.ord
 rw[<-h.ons] at this;exact this
theorem a0x.cellsT (h:a0x n l){od:Nat->Int}{i:Nat}(hi:i<n):b3m l i=b3m (Run.chg l (l 0).no od) i:=by
 unfold b3m
 rw[<-b1u (h.fr i hi).1];rfl
theorem a0x.cellsE (h:a0x n l){od:Nat->Int}(ho:a1u (l 0).no (l 0).no od){i:Nat}(hi:i<n){j:Nat}(hj:j<b3m l i):c2g l i j=c2g (Run.chg l (l 0).no od) i j:=by
 unfold c2g
 rw[h.chgCell (h.frO ho) hi]
 have:=(h.di i hi).T
 rw[b1u (h.fr i hi).1,<-this]
 exact Int.ofNat_lt.2 hj
theorem a0x.famLike (h:a0x n l){od:Nat->Int}(ho:a1u (l 0).no (l 0).no od):a0b (e8y n l od) (c0p n (Run.chg l (l 0).no od) (b3m (Run.chg l (l 0).no od)) (c2g (Run.chg l (l 0).no od)) n):=
 a1r.agg (.cons (a0b.refl _) (.cons (a0b.refl _) (.cons (a0b.refl _) (.cons (b8l (fun i hi=>h.cellsT hi) fun i hi j hj=>h.cellsE ho hi hj) .nil))))
theorem a0x.openF (h:a0x n l):a0j Tryz.prog false 54 [dsl n l] (.tuple [e8y n l (l 0).od,int 0]):=
 a0j.resLike (a1r.tuple (.cons (a1r.agg (.cons (a0b.refl _) (.cons (a0b.refl _) (.cons h.ownLike (.cons (a0b.refl _) .nil))))) (.cons (a0b.refl _) .nil))) h.open54
theorem a0x.inF (h:a0x n l)(hs:prod (l 0).sz (l 0).ns<=1000){od od':Nat->Int}(ho:a1u (l 0).no (l 0).no od)(ho':a1u (l 0).no (l 0).no od'):a0j Tryz.prog false 64 [e8y n l od,isl (l 0).no od'] (e8y n l od'):=by
 have hc:=h.chg hs (h.frO ho)
 refine a0j.like (.cons (h.famLike ho) (.cons (a0b.refl _) .nil)) (a0j.resLike ?_ (hc.in64 (no:=(l 0).no) (od:=od') (h.frO ho')))
 exact a1r.agg (.cons (a0b.refl _) (.cons (a0b.refl _) (.cons (h.chgLike2 (h.frO ho) (h.frO ho')) (.cons (b8l (fun i hi=>(h.cellsT hi).symm) fun i hi j hj=>(h.cellsE ho hi (by rw[h.cellsT (od:=od) hi];exact hj)).symm) .nil))))
theorem a0x.moveF (h:a0x n l){od:Nat->Int}(ho:a1u (l 0).no (l 0).no od){p q:Nat}(hp:p<(l 0).no)(hq:q<(l 0).no):a0j Tryz.prog false 65 [.agg [isl (l 0).ns (l 0).sz,isl (l 0).no od],int (od p),int q] (isl (l 0).no (mvd (l 0).no od p q)):=
 Run.moved65 (by have:=h.no 0 h.pos.1;omega) (l 0).sz od _ hp (fun j hj=>⟨fun e=>ho.inj j p hj hp e,fun e=>by rw[e]⟩) hq _ fun j hj=>rfl
theorem a0x.wid56 (h:a0x n l)(T:Nat->Nat)(e:Nat->Nat->List DV)(r:Nat->Int)(hr: ∀j,j<(l 0).ns->r j=cnt (a7d l n).on j):a0j Tryz.prog false 56 [c0p n l T e n] (isl (l 0).ns r):=by
 obtain⟨m,rfl⟩: ∃m,n=m+1:=⟨n-1,by have:=h.pos;omega⟩
 exact c9t (ns:=(l 0).ns) (no:=(l 0).no) (l 0).sz (l 0).od (m+1) (by have:=h.pos;omega) (by have:=(h.fit 0 h.pos.1).ns;omega) l h.good h.cells (fun i=>[.sl 2 (T i) (e i)]) r hr
theorem a0x.cos55 (h:a0x n l)(T:Nat->Nat)(e:Nat->Nat->List DV):a0j Tryz.prog true 55 [c0p n l T e n] (int ((a7d l n).on.length:Nat)):=by
 have h56:=h.wid56 T e _ fun j _=>rfl
 have hlen:=h.len
 have hns:=(h.fit 0 h.pos.1).ns
 have hcost:=h.cost
 obtain⟨m,rfl⟩: ∃m,n=m+1:=⟨n-1,by have:=h.pos;omega⟩
 exact e3g (by omega) _ _ _ _ (cnt (a7d l (m+1)).on) (fun j hj=>by have:=d7l (a7d l (m+1)).on j;omega) h56 ((a7d l (m+1)).on.length:Nat) hcost.symm
theorem a0x.costF (h:a0x n l)(hs:prod (l 0).sz (l 0).ns<=1000){od:Nat->Int}(ho:a1u (l 0).no (l 0).no od):a0j Tryz.prog true 55 [e8y n l od] (int (cst n l od)):=
 a0j.like (.cons (h.famLike ho) .nil) ((h.chg hs (h.frO ho)).cos55 _ _)
theorem f0h (h:a0x n l)(hs:prod (l 0).sz (l 0).ns<=1000){od:Nat->Int}(ho:a1u (l 0).no (l 0).no od):cst n l od<=48000:=(h.chg hs (h.frO ho)).len
end
def f3e (a b:Int):Int:=if a<b then-1 else if b<a then 1 else 0
theorem c3w (a b:Int)(r:Int)(hr:r=f3e a b):a0j Tryz.prog true 63 [int a,int b] (int r):=by
 have h1:=c5s a
 have h2:=c5s b
 refine a1y (a0d Tryz.mixed okP g2w _ rfl fun E Sg hb hS=> ?_)
 unfold f3e at hr
 cbv
 refine a0e hS _ h1 ?_
 cbv
 refine a0e hS _ h2 ?_
 cbv
 split
 ·rename_i h
  have h:=b8j hS h
  cbv
  exact a1m (by rw[hr,if_pos h];rfl)
 ·rename_i h
  have h:=b7c hS h
  cbv
  split
  ·rename_i k
   have k:=b8j hS k
   cbv
   exact a1m (by rw[hr,if_neg (by omega),if_pos k];rfl)
  ·rename_i k
   have k:=b7c hS k
   cbv
   exact a1m (by rw[hr,if_neg (by omega),if_neg (by omega)];rfl)
theorem g4w (x y r:Int)(hr:r=if x≠0 then x else y):a0j Tryz.prog true 62 [.d (.sl 1 2 (Vf.rowAt [[.int .i64 (.v x)],[.int .i64 (.v y)]]))] (int r):=by
 refine a0j.like (.cons (d2v (x:=x) (y:=y)) .nil) ?_
 obtain⟨g,hg0,hg1,hg⟩: ∃g:Nat->Int,g 0=x/\g 1=y/\two x y=g:=⟨two x y,rfl,rfl,rfl⟩
 rw[hg]
 clear hg
 refine a1y (a0d Tryz.mixed okP g2d _ rfl fun E Sg hb hS=> ?_)
 have e:=a5x hS
 cbv
 refine a0y Tryz.mixed okP hS (fun i=>i<=2/\ ∀j,j<i->g j=0) (fun i=>2-i)
  (fun i=>⟨a2l [(3,int 0),(6,isl 2 g),(7,int 2),(8,int i)] 18,[],[]⟩) 0 (by simp) ?_ ?_
 ·exact a0m rfl ⟨a1m rfl,a0b.refl _,a1f (e.ofNat 2),a1m rfl,trivial⟩ (.nil _) (by omega) (.inr rfl) rfl
 ·rintro i ⟨hi,hz⟩ N hN
  cbv
  split
  ·rename_i h
   have hlt:i<2:=Int.ofNat_lt.1 (b8j hS h)
   cbv
   simp only[nat,e.toNat,Int.ofNat_eq_natCast,Int.toNat_natCast]
   refine a0a hS (a1d hS hlt) ?_
   split
   ·rename_i h
    have h:=f2x hS h
    cbv
    refine a1f ?_
    match i,hlt,hz,h with
    |0,_,_,h=>rw[hr,hg0,if_pos (by rw[<-hg0];exact h)]
    |1,_,hz,h=>rw[hr,hg1,if_neg (by rw[<-hg0,hz 0 (by omega)];simp)]
   ·rename_i h
    have h:=g2s hS h
    cbv
    refine a0a hS (a4t hS (by omega)) ?_
    exact hN (i+1) _ ⟨by omega,fun j hj=>by
     by_cases e:j=i
     ·rw[e];exact h
     ·exact hz j (by omega)⟩ (by omega) (a0m rfl ⟨a0b.refl _,a0b.refl _,a0b.refl _,a5c hS,trivial⟩ (.nil _) (by omega) (.inr rfl) rfl)
  ·rename_i h
   have hlt:2<=i:=Int.ofNat_le.1 (b7c hS h)
   cbv
   exact a1f (by rw[hr,if_neg (by rw[<-hg0,hz 0 (by omega)];simp),<-hg1,hz 1 (by omega)])
def bef (W:Nat->Int)(a b:Nat):Prop:=W b<W a\/W a=W b/\a<b
def lef (W:Nat->Int)(a b:Nat):Prop:=W b<W a\/W a=W b/\a<=b
theorem lef.trans {W:Nat->Int}{a b c:Nat}(h:lef W a b)(k:lef W b c):lef W a c:=by unfold lef at*;omega
theorem d1p {W:Nat->Int}{a b:Nat}(h: ¬bef W a b):lef W b a:=by unfold lef bef at*;omega
theorem bef.le {W:Nat->Int}{a b:Nat}(h:bef W a b):lef W a b:=by unfold lef bef at*;omega
theorem e8j (a b:Nat)(x y:Int): ∃z:Int,(z<0↔y<x\/x=y/\a<b)/\a0j Tryz.prog true 61 [.agg [int a,int x],.agg [int b,int y]] (int z):=by
 obtain⟨p,hp⟩: ∃p,p=f3e y x:=⟨_,rfl⟩
 obtain⟨q,hq⟩: ∃q,q=f3e (a:Int) (b:Int):=⟨_,rfl⟩
 obtain⟨z,hz⟩: ∃z,z=if p≠0 then p else q:=⟨_,rfl⟩
 refine⟨z,?_,?_⟩
 ·unfold f3e at hp hq
  (repeat' split at hp)<;>(repeat' split at hq)<;>split at hz<;>omega
 ·have h1:=c3w y x p hp
  have h2:=c3w a b q hq
  have h3:=g4w p q z hz
  clear hp hq hz
  refine a1y (a0d Tryz.mixed okP g0t _ rfl fun E Sg hb hS=> ?_)
  cbv
  refine a0e hS _ h1 ?_
  cbv
  refine a0a hS (a6d hS) (a0a hS (a6d hS) (a0e hS _ h2 ?_))
  cbv
  refine a0e hS _ h3 ?_
  cbv
  exact fun _ _ _ _ h=>h
def d2e (n:Nat)(W:Nat->Int)(u:Nat->Nat):a0i:= .arr 2 n fun i=>[.int .i64 (.v (u i:Int)),.int .i64 (.v (W (u i)))]
def b6x (n:Nat)(u:Nat->Nat):Prop:=(∀i,i<n->u i<n)/\ ∀i j,i<n->j<n->u i=u j->i=j
theorem b6x.swap {n:Nat}{u:Nat->Nat}(h:b6x n u){j k:Nat}(hj:j<n)(hk:k<n):b6x n fun i=>u (sw j k i):=
 ⟨fun i hi=>h.1 _ (c5g hj hk hi),fun i i' hi hi' e=>by
   have:=h.2 _ _ (c5g hj hk hi) (c5g hj hk hi') e
   have e2:=congrArg (sw j k) this
   rwa [e2v,e2v] at e2⟩
def e8c (n:Nat)(W:Nat->Int)(pg:List Nat)(v:AV)(h':List a0i):Prop:=pg=[]/\ ∃u,b6x n u/\(∀p q,p<q->q<n->lef W (u p) (u q))/\h'=[d2e n W u]
theorem c2j {n:Nat}(hn:n<=1000000)(W:Nat->Int):a0g Tryz.prog 123 [.msl 0 2 none n false,int 0,int n,.fn 61 [] []] [d2e n W fun i=>i] (e8c n W):=by
 have hcmp:=fun a b=>e8j a b (W a) (W b)
 obtain⟨zz,hz⟩: ∃zz:Nat->Nat->Int,∀a b,(zz a b<0↔W b<W a\/W a=W b/\a<b)/\a0j Tryz.prog true 61 [.agg [int a,int (W a)],.agg [int b,int (W b)]] (int (zz a b)):=⟨fun a b=>Classical.choose (hcmp a b),fun a b=>Classical.choose_spec (hcmp a b)⟩
 clear hcmp
 refine a1b Tryz.mixed okP e9x rfl fun E Sg hb hS F hF=> ?_
 simp only[List.length_cons,List.length_nil] at hb
 have e:=a5x hS
 cbv
 refine a0a hS (by subst hS;simp[std,IntKind.wrap,IntKind.bits,IntKind.signed]) ?_
 refine a0y Tryz.mixed okP hS (σ:=Nat×(Nat->Nat)) (fun s=>1<=s.1/\(s.1<=n\/n=0/\s.1=1)/\b6x n s.2/\ ∀p q,p<q->q<s.1->q<n->lef W (s.2 p) (s.2 q)) (fun s=>n-s.1)
  (fun s=>⟨a2l [(0,.msl 0 2 none n false),(1,int 0),(2,int n),(3,.fn 61 [] []),(8,int s.1)] 53,[d2e n W s.2],[]⟩) (1,fun i=>i) ⟨by simp,by simp;omega,⟨fun i hi=>hi,fun i j _ _ e=>e⟩,fun p q h1 h2=>by simp at h2;omega⟩ ?_ ?_
 ·exact a0m rfl ⟨a0b.refl _,a0b.refl _,a0b.refl _,a0b.refl _,a1f (by subst hS;rfl),trivial⟩ (.cons (.refl _) (.nil _)) (by simp;omega) (.inr rfl) rfl
 ·rintro⟨i,u⟩ ⟨hi0,hi1,hi2,hi3⟩ N hN
  simp only at hi0 hi1 hi2 hi3 hN
  cbv
  split
  ·rename_i h
   have hlt:i<n:=Int.ofNat_lt.1 (b8j hS h)
   cbv
   refine a0y Tryz.mixed okP hS (σ:=Nat×(Nat->Nat)) (fun s=>s.1<=i/\b6x n s.2/\(∀p q,p<q->q<=i->p≠s.1->q≠s.1->lef W (s.2 p) (s.2 q))/\ ∀q,s.1<q->q<=i->lef W (s.2 s.1) (s.2 q)) (fun s=>s.1)
    (fun s=>⟨a2l [(0,.msl 0 2 none n false),(1,int 0),(2,int n),(3,.fn 61 [] []),(8,int i),(9,int s.1)] 53,[d2e n W s.2],[]⟩) (i,u) ⟨by simp,hi2,fun p q h1 h2 h3 h4=>hi3 p q h1 (by simp at h4;omega) (by omega),fun q h1 h2=>by simp at h1;omega⟩ ?_ ?_
   ·exact a0m rfl ⟨a0b.refl _,a0b.refl _,a0b.refl _,a0b.refl _,a0b.refl _,a0b.refl _,trivial⟩ (.cons (.refl _) (.nil _)) (by simp;omega) (.inr rfl) rfl
   ·rintro⟨j,u⟩ ⟨hj0,hj1,hj2,hj3⟩ N2 hN2
    simp only at hj0 hj1 hj2 hj3 hN2
    cbv
    split
    ·rename_i h
     have hj:0<j:=Int.ofNat_lt.1 (b8j hS h)
     obtain⟨j,rfl⟩: ∃k,j=k+1:=⟨j-1,by omega⟩
     have ej:Sg.isub (Int.ofNat (j+1)) (Int.ofNat 1)=Int.ofNat j:=by rw[e.isub];simp
     have hq2: -9223372036854775808<=(j:Int)/\(j:Int)<=9223372036854775807:=by omega
     cbv
     simp only[ej]
     refine a0a hS (a1d hS (show j+1<n by omega)) (a0a hS (a9w hS hq2) (a0a hS (a1d hS (show j<n by omega)) (a0a hS (d2b hS (show j+1<n by omega)) (a0a hS (d2b hS (show j<n by omega)) ?_))))
     simp only[nat,e.toNat,Int.ofNat_eq_natCast,Int.toNat_natCast]
     refine a2a hS (a0g.of_pure rfl (hz (u (j+1)) (u j)).2) ?_
     cbv
     split
     ·rename_i h
      have hlt2:=(hz (u (j+1)) (u j)).1.1 (b8j hS h)
      cbv
      simp only[ej]
      have a1:j+1<n:=by omega
      have a2:j<n:=by omega
      refine a0a hS (a9w hS hq2) (a0a hS (a9w hS hq2) (a0a hS (a1d hS a2) (a0a hS (a1d hS a1) (a0a hS (d2b hS a2) (a0a hS (d2b hS a1) (a0a hS (a1d hS a1) (a0a hS (d2b hS a1) (a0a hS (a1d hS a2) (a0a hS (d2b hS a2) ?_)))))))))
      have eu: ∀(f:Nat->List DV) (r:List DV),Sg.upd f j.succ r j=f j:=by intro f r;rw[e.upd,if_neg (by omega)]
      simp only[nat,e.toNat,Int.ofNat_eq_natCast,Int.toNat_natCast,eu]
      cbv
      simp only[ej]
      refine a0a hS (a9w hS hq2) ?_
      refine hN2 (j,fun k=>u (sw (j+1) j k)) _ ⟨by simp;omega,hj1.swap a1 a2,fun p q h1 h2 h3 h4=> ?_,fun q h1 h2=> ?_⟩ (by simp) (a0m rfl ⟨a0b.refl _,a0b.refl _,a0b.refl _,a0b.refl _,a0b.refl _,a0b.refl _,trivial⟩ (.cons (a0f.arrr rfl fun k hk=> ?_) (.nil _)) (by simp;omega) (.inr rfl) rfl)
      ·simp only at h1 h2 h3 h4⊢
       unfold sw
       by_cases e1:p=j+1
       ·rw[if_pos e1,if_neg (by omega),if_neg (by omega)]
        exact hj2 j q (by omega) h2 (by omega) (by omega)
       ·by_cases e2:q=j+1
        ·rw[if_neg e1,if_neg h3,if_pos e2]
         exact hj2 p j (by omega) (by omega) e1 (by omega)
        ·rw[if_neg e1,if_neg h3,if_neg e2,if_neg h4]
         exact hj2 p q h1 h2 e1 e2
      ·simp only at h1 h2⊢
       unfold sw
       rw[if_neg (show¬j=j+1 by omega),if_pos rfl]
       by_cases e2:q=j+1
       ·rw[if_pos e2];exact bef.le hlt2
       ·rw[if_neg e2,if_neg (by omega)]
        exact hj3 q (by omega) h2
      ·simp only[e.upd]
       unfold sw
       by_cases e1:k=j
       ·subst e1;rw[if_pos rfl,if_neg (by omega),if_pos rfl];exact .refl _
       ·by_cases e2:k=j+1
        ·subst e2;rw[if_neg e1,if_pos rfl,if_pos rfl];exact .refl _
        ·rw[if_neg e1,if_neg e2,if_neg e2,if_neg e1];exact .refl _
     ·rename_i h
      have hle:lef W (u j) (u (j+1)):=d1p fun hb=>by
       have h1:=b7c hS h
       have h2:=(hz (u (j+1)) (u j)).1.2 hb
       simp only[Int.ofNat_eq_natCast] at h1
       omega
      cbv
      refine a0a hS (a4t hS (by omega)) ?_
      refine hN (i+1,u) _ ⟨by simp,by simp;omega,hj1,fun p q h1 h2 h3=> ?_⟩ (by simp;omega) (a0m rfl ⟨a0b.refl _,a0b.refl _,a0b.refl _,a0b.refl _,a5c hS,trivial⟩ (.cons (.refl _) (.nil _)) (by simp;omega) (.inr rfl) rfl)
      simp only at h2⊢
      by_cases e1:p=j+1
      ·subst e1;exact hj3 q h1 (by omega)
      ·by_cases e2:q=j+1
       ·subst e2
        by_cases e3:p=j
        ·subst e3;exact hle
        ·exact (hj2 p j (by omega) (by omega) e1 (by omega)).trans hle
       ·exact hj2 p q h1 (by omega) e1 e2
    ·rename_i h
     have hj:j=0:=by have:=b7c hS h;simp only[Int.ofNat_eq_natCast] at this;omega
     subst hj
     cbv
     refine a0a hS (a4t hS (by omega)) ?_
     refine hN (i+1,u) _ ⟨by simp,by simp;omega,hj1,fun p q h1 h2 h3=> ?_⟩ (by simp;omega) (a0m rfl ⟨a0b.refl _,a0b.refl _,a0b.refl _,a0b.refl _,a5c hS,trivial⟩ (.cons (.refl _) (.nil _)) (by simp;omega) (.inr rfl) rfl)
     simp only at h2⊢
     by_cases e1:p=0
     ·subst e1;exact hj3 q h1 (by omega)
     ·exact hj2 p q h1 (by omega) e1 (by omega)
  ·rename_i h
   have hni:n<=i:=Int.ofNat_le.1 (b7c hS h)
   cbv
   exact⟨[],by simp,hF (h1:=[d2e n W u]) (.cons (.refl _) (.nil _)) (a0b.refl _) (by simp) (.inr rfl) ⟨rfl,u,hi2,fun p q h1 h2=>hi3 p q h1 (by omega) h2,rfl⟩⟩
theorem f7v {n:Nat}(hn:n<=12)(W:Nat->Int)(z:Int):a0g Tryz.prog 92 [.msl 0 2 none n false,int 0,int n,int z,.fn 61 [] []] [d2e n W fun i=>i] (e8c n W):=by
 have hin:=c2j (n:=n) (by omega) W
 refine a1b Tryz.mixed okP g0k rfl fun E Sg hb hS F hF=> ?_
 simp only[List.length_cons,List.length_nil] at hb
 have e:=a5x hS
 cbv
 refine e3e Tryz.mixed okP hS 1 ?_
 cbv
 refine a0a hS (b3f hS (by simp only[Int.ofNat_eq_natCast];omega)) ?_
 split
 ·cbv
  refine a1a hS (a0g.frame hin [0] rfl rfl ⟨a0f.refl _,trivial⟩) ?_
  rintro pg v H' ⟨pg0,v0,h0,⟨rfl,u,h1,h2,rfl⟩,rfl,rfl,rfl⟩
  cbv
  exact⟨[],by simp,hF (h1:=[d2e n W u]) (.cons (.refl _) (.nil _)) (a0b.refl _) (by simp) (.inr rfl) ⟨rfl,u,h1,h2,rfl⟩⟩
 ·rename_i h
  have h:=f5e hS h
  have h2:Sg.isub (Int.ofNat n) 0=n:=by rw[e.isub];simp
  have h3: ¬((12:Int)<(n:Int)):=by omega
  exact absurd (by rw[<-h2];exact h) h3
theorem f3p {n:Nat}(hn:n<=12)(W:Nat->Int):a0g Tryz.prog 60 [.msl 0 2 none n false,.fn 61 [] []] [d2e n W fun i=>i] (e8c n W):=by
 obtain⟨z,hz⟩:=f4q n hn
 have hin:=f7v hn W z
 refine a1b Tryz.mixed okP g2e rfl fun E Sg hb hS F hF=> ?_
 simp only[List.length_cons,List.length_nil] at hb
 have e:=a5x hS
 have ew:Sg.iwrap .u64 (Sg.ofNat n)=(n:Int):=by
  rw[e.ofNat,e.iwrap]
  simp[IntKind.wrap,IntKind.bits,IntKind.signed]
  omega
 cbv
 simp only[ew]
 refine a0e hS (int z) hz ?_
 cbv
 refine a1a hS (a0g.frame (args':=[.msl 0 2 none n false,int 0,.d (.int .i64 (.v (Sg.ofNat n))),int z,.fn 61 [] []]) (hin.like (.cons (a0b.refl _) (.cons (a0b.refl _) (.cons (a1f (e.ofNat n)) (.cons (a0b.refl _) (.cons (a0b.refl _) .nil)))))) [0] rfl rfl ⟨a0f.refl _,trivial⟩) ?_
 rintro pg v H' ⟨pg0,v0,h0,⟨rfl,u,h1,h2,rfl⟩,rfl,rfl,rfl⟩
 cbv
 exact⟨[],by simp,hF (h1:=[d2e n W u]) (.cons (.refl _) (.nil _)) (a0b.refl _) (by simp) (.inr rfl) ⟨rfl,u,h1,h2,rfl⟩⟩
end Go.Proofs.Tryz.Run
