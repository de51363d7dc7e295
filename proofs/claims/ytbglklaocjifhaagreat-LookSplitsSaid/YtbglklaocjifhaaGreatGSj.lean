/- The program's maker. Conditions: none. -/
import Derived.Test.YtbglklaocjifhaaGreatGSi
open Go.Vf.ab renaming refl->AA
open List renaming length_append->AB,length_cons->AC,length_nil->AD
set_option linter.unusedSimpArgs false
set_option linter.unusedVariables false
set_option maxHeartbeats 0
set_option maxRecDepth 10000
namespace Go.Proofs.Tryz.Run
open Go Go.Vf Go.Proofs
open Go.Proofs.YtbglklaocjifhaaGreat
def xd (ch:Int)(n:Nat)(u:Nat->Int):List KC:=
 let g:=fun j=>if j<n then u j else 0
 [.i ch,.i (g 0),.i (g 1),.i (g 2),.i (g 3),.i (g 4),.i (g 5),.i (g 6),.i (g 7),.i (g 8),.i (g 9),.i (g 10),.i (g 11)]
def k4x (ch:Int)(n:Nat)(u:Nat->Int):List KC:=
 let g:=fun j=>if j<n then u j else Int.ofNat 0
 [.i ch,.i (g 0),.i (g 1),.i (g 2),.i (g 3),.i (g 4),.i (g 5),.i (g 6),.i (g 7),.i (g 8),.i (g 9),.i (g 10),.i (g 11)]
def h6a (ns no:Nat)(sz od:Nat->Int)(q1 q2:Nat)(f1 f2:List KC->Option Int)(e1 e2:Nat->List DV)(ch:Int)(n:Nat)(u:Nat->Int)(pg:List Nat)(v:AV)(h':List ae):Prop:=
 pg=[4,5]/\ ∃o,((∀i,i<n->u i=u 0)/\v=int (u 0)/\h'=WH ns no sz od q1 q2 f1 f2 e1 e2++[o])\/
  ((¬ ∀i,i<n->u i=u 0)/\((∃z,f2 (xd ch n u)=some z/\v=int z/\h'=WH ns no sz od q1 q2 f1 f2 e1 e2++[o])\/
    (f2 (xd ch n u)=none/\v=int q2/\h'=WH ns no sz od q1 (q2+1) f1 (fun k=>if k=xd ch n u then some (q2:Int) else f2 k) e1 (fun i=>if i<q2 then e2 i else [.int .i64 (.v ch),.sl 1 n fun j=>[.int .i64 (.v (u j))]])++[o])))
theorem k4w {ns no:Nat}(sz od:Nat->Int){q1 q2:Nat}(hq:q2<=1000000)(f1 f2:List KC->Option Int)(e1 e2:Nat->List DV)(ch:Int)(hc:0<=ch/\ch<=1000000){n:Nat}(hn:n=2\/n=3\/n=4\/n=5\/n=6\/n=7\/n=8\/n=9\/n=10\/n=11\/n=12)(u:Nat->Int)
 (hu: ∀j,j<n-> -1000001<=u j/\u j<=1000000) (LH: ¬ ∀i,i<n->u i=u 0):
 ay Tryz.prog 239 [.ptr 0 0,int ch,.bi 5 1 none n false] (WH ns no sz od q1 q2 f1 f2 e1 e2++[g9 n u]) (h6a ns no sz od q1 q2 f1 f2 e1 e2 ch n u):=by
 have cd:=h4f (n:=n) (by omega) (by omega) u false ⟨fun h=>Bool.noConfusion h,fun h=>absurd h LH⟩;refine mh Tryz.mixed ci f1t rfl fun E Sg hb hS F hF=> ?_;simp only[WH,AC,AD,AB] at hb;have e8: ∀z,Sg.toNat z=z.toNat:=by subst hS;exact fun _=>rfl
 have es:Sg.T9 12 0=12:=by subst hS;rfl
 have en1:Sg.fd 1 0=1:=by subst hS;rfl
 have em:Sg.WU 12 n=n:=by subst hS;show min 12 n=n;omega
 obtain⟨L,hL⟩:=xA (k4x ch n u);have LB:xd ch n u=L:=hL;cases hk:f2 (xd ch n u) with
 |some z=>
  have hh:Sg.WG f2 L=true:=by subst hS;show (f2 L).isSome=true;rw[<-LB,hk];rfl
  have hg:Sg.W6 f2 L=z:=by subst hS;show (f2 L).getD 0=z;rw[<-LB,hk];rfl
  have Hb: ∀{v:AV} {h':List ae},py h' (WH ns no sz od q1 q2 f1 f2 e1 e2++[g9 n u])->ab v (int z)->F [4,5] v h':=fun a b=>hF a b (by simp[WH]) (.inl ⟨rfl,rfl⟩) ⟨rfl,g9 n u,.inr ⟨LH,.inl ⟨z,hk,rfl,rfl⟩⟩⟩;clear hF hk LB;rcases hn with rfl|rfl|rfl|rfl|rfl|rfl|rfl|rfl|rfl|rfl|rfl
  all_goals
   try have hu0:=hu 0 (by omega)
   try have hu1:=hu 1 (by omega)
   try have hu2:=hu 2 (by omega)
   try have hu3:=hu 3 (by omega)
   try have hu4:=hu 4 (by omega)
   try have hu5:=hu 5 (by omega)
   try have hu6:=hu 6 (by omega)
   try have hu7:=hu 7 (by omega)
   try have hu8:=hu 8 (by omega)
   try have hu9:=hu 9 (by omega)
   try have hu10:=hu 10 (by omega)
   try have hu11:=hu 11 (by omega)
   cbv at hL;subst hL;cbv;refine lj hS (ay.frame cd [5,6] rfl rfl ⟨bx.refl _,bx.refl _,trivial⟩) ?_;rintro pg v H' ⟨pg0,v0,h0,⟨rfl,rfl,rfl⟩,rfl,rfl,rfl⟩;cbv;simp only[es];cbv;simp only[em,en1];cbv;simp only[hh,hg];cbv
   repeat' (with_reducible apply ad hS)
   all_goals try (clear cd;subst hS;first|(simp[ms];done)|exact e7 (by omega) (by omega)|exact e7 (by decide) (by decide))
   exact⟨[4,5],by simp,Hb (.cons (.refl _) (.cons (.refl _) (.cons (.refl _) (.cons (.refl _) (.cons (.refl _) (.cons (.refl _) (.nil _))))))) (AA _)⟩
 |none=>
  have hh:Sg.WG f2 L=false:=by subst hS;show (f2 L).isSome=false;rw[<-LB,hk];rfl
  have Hb: ∀{v:AV} {h':List ae},py h' (WH ns no sz od q1 (q2+1) f1 (fun k=>if k=L then some (q2:Int) else f2 k) e1 (fun i=>if i<q2 then e2 i else [.int .i64 (.v ch),.sl 1 n fun j=>[.int .i64 (.v (u j))]])++[.t0 1 n fun i=>[.int .i64 (.v (u i))]])->ab v (int q2)->F [4,5] v h':=fun a b=>hF a b (by simp[WH]) (.inl ⟨rfl,rfl⟩) ⟨rfl,.t0 1 n fun i=>[.int .i64 (.v (u i))],.inr ⟨LH,.inr ⟨hk,rfl,by rw[LB]⟩⟩⟩;clear hF;rw[LB] at hk;clear LB;rcases hn with rfl|rfl|rfl|rfl|rfl|rfl|rfl|rfl|rfl|rfl|rfl
  all_goals
   try have hu0:=hu 0 (by omega)
   try have hu1:=hu 1 (by omega)
   try have hu2:=hu 2 (by omega)
   try have hu3:=hu 3 (by omega)
   try have hu4:=hu 4 (by omega)
   try have hu5:=hu 5 (by omega)
   try have hu6:=hu 6 (by omega)
   try have hu7:=hu 7 (by omega)
   try have hu8:=hu 8 (by omega)
   try have hu9:=hu 9 (by omega)
   try have hu10:=hu 10 (by omega)
   try have hu11:=hu 11 (by omega)
   cbv at hL;subst hL;cbv;refine lj hS (ay.frame cd [5,6] rfl rfl ⟨bx.refl _,bx.refl _,trivial⟩) ?_;rintro pg v H' ⟨pg0,v0,h0,⟨rfl,rfl,rfl⟩,rfl,rfl,rfl⟩;cbv;simp only[es];cbv;simp only[em,en1];cbv;simp only[hh];cbv
   repeat' (with_reducible apply ad hS)
   all_goals try (clear cd;subst hS;first|(simp[ms];done)|exact e7 (by omega) (by omega)|exact e7 (by decide) (by decide)|(simp[ms];omega))
   refine⟨[4,5],(by intro l _ h2;simp at h2⊢;omega),Hb
    (.cons (bx.var (.cons (AA _) (.cons (AA _) (.cons (AA _) (.cons (AA _) (.cons (AA _) (.cons (by clear cd;subst hS;exact AA _) (.cons (AA _) (.cons (AA _) (.cons (AA _) .nil))))))))))
      (.cons (.refl _) (.cons (bx.map (by clear cd;subst hS;show (if (f2 _).isSome then q2 else q2+1)=q2+1;erw [hk];rfl) (fun k=>by clear cd;subst hS;rfl)) (.cons (.refl _) (.cons (bx.Yc (by clear cd;subst hS;rfl) (fun i hi=> ?_)) (.cons (.refl _) (.nil _))))))) (by clear cd;subst hS;exact AA _)⟩
   clear cd;subst hS;simp only[ms] at hi⊢;split
   ·rfl
   ·have:i-q2=0:=by omega
    rw[this];rfl
theorem i4p {ns no:Nat}(sz od:Nat->Int){q1 q2:Nat}(hq:q2<=1000000)(f1 f2:List KC->Option Int)(e1 e2:Nat->List DV)(ch:Int)(hc:0<=ch/\ch<=1000000){n:Nat}(hn:1<=n/\n<=12)(u:Nat->Int)
 (hu: ∀j,j<n-> -1000001<=u j/\u j<=1000000):
 ay Tryz.prog 239 [.ptr 0 0,int ch,.bi 5 1 none n false] (WH ns no sz od q1 q2 f1 f2 e1 e2++[g9 n u]) (h6a ns no sz od q1 q2 f1 f2 e1 e2 ch n u):=by
 by_cases hz: ∀i,i<n->u i=u 0
 ·have cd:=h4f hn.1 (by omega) u true ⟨fun _=>hz,fun _=>rfl⟩;refine mh Tryz.mixed ci f1t rfl fun E Sg hb hS F hF=> ?_;simp only[WH,AC,AD,AB] at hb;have e8: ∀z,Sg.toNat z=z.toNat:=by subst hS;exact fun _=>rfl
  cbv;refine lj hS (ay.frame cd [5,6] rfl rfl ⟨bx.refl _,bx.refl _,trivial⟩) ?_;rintro pg v H' ⟨pg0,v0,h0,⟨rfl,rfl,rfl⟩,rfl,rfl,rfl⟩;cbv;refine ad hS (by clear cd;subst hS;simp[ms];omega) ?_;simp only[nat,e8,Int.ofNat_eq_natCast,Int.toNat_natCast];refine ad hS (by clear cd;subst hS;simp[ms];omega) ?_;exact⟨[4,5],by simp,hF (h1:=WH ns no sz od q1 q2 f1 f2 e1 e2++[g9 n u]) (.cons (.refl _) (.cons (.refl _) (.cons (.refl _) (.cons (.refl _) (.cons (.refl _) (.cons (.refl _) (.nil _))))))) (v0:=int (u 0)) (AA _) (by simp[WH]) (.inl ⟨rfl,rfl⟩) ⟨rfl,g9 n u,.inl ⟨hz,rfl,rfl⟩⟩⟩
 ·have h2:n=2\/n=3\/n=4\/n=5\/n=6\/n=7\/n=8\/n=9\/n=10\/n=11\/n=12:=by
   have:n≠1:=fun e=>hz fun i hi=>by
    have:i=0:=by omega
    rw[this]
   omega
  exact k4w sz od hq f1 f2 e1 e2 ch hc h2 u hu hz
end Go.Proofs.Tryz.Run
