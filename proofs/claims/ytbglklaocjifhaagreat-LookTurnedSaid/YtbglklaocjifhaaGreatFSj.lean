/- The program's maker. Conditions: none. -/
import Derived.Test.YtbglklaocjifhaaGreatFSi
open Go.Vf.a0x renaming refl->AA
open Go.Vf.a9v renaming refl->AB
open List renaming length_append->AC,length_cons->AD,length_nil->AE
set_option linter.unusedSimpArgs false
set_option linter.unusedVariables false
set_option maxHeartbeats 0
set_option maxRecDepth 10000
namespace Go.Proofs.Tryz.Run
open Go Go.Vf Go.Proofs
open Go.Proofs.YtbglklaocjifhaaGreat
def h4j (ch:Int)(n:Nat)(u:Nat->Int):List KC:=
 let g:=fun j=>if j<n then u j else 0
 [.i ch,.i (g 0),.i (g 1),.i (g 2),.i (g 3),.i (g 4),.i (g 5),.i (g 6),.i (g 7),.i (g 8),.i (g 9),.i (g 10),.i (g 11)]
def k4x (ch:Int)(n:Nat)(u:Nat->Int):List KC:=
 let g:=fun j=>if j<n then u j else Int.ofNat 0
 [.i ch,.i (g 0),.i (g 1),.i (g 2),.i (g 3),.i (g 4),.i (g 5),.i (g 6),.i (g 7),.i (g 8),.i (g 9),.i (g 10),.i (g 11)]
def h6a (ns no:Nat)(sz od:Nat->Int)(q1 q2:Nat)(f1 f2:List KC->Option Int)(e1 e2:Nat->List DV)(ch:Int)(n:Nat)(u:Nat->Int)(pg:List Nat)(v:AV)(h':List a0f):Prop:=
 pg=[4,5]/\ ∃o,((∀i,i<n->u i=u 0)/\v=int (u 0)/\h'=mkH ns no sz od q1 q2 f1 f2 e1 e2++[o])\/
  ((¬ ∀i,i<n->u i=u 0)/\((∃z,f2 (h4j ch n u)=some z/\v=int z/\h'=mkH ns no sz od q1 q2 f1 f2 e1 e2++[o])\/
    (f2 (h4j ch n u)=none/\v=int q2/\h'=mkH ns no sz od q1 (q2+1) f1 (fun k=>if k=h4j ch n u then some (q2:Int) else f2 k) e1 (fun i=>if i<q2 then e2 i else [.int .i64 (.v ch),.sl 1 n fun j=>[.int .i64 (.v (u j))]])++[o])))
theorem k4w {ns no:Nat}(sz od:Nat->Int){q1 q2:Nat}(hq:q2<=1000000)(f1 f2:List KC->Option Int)(e1 e2:Nat->List DV)(ch:Int)(hc:0<=ch/\ch<=1000000){n:Nat}(hn:n=2\/n=3\/n=4\/n=5\/n=6\/n=7\/n=8\/n=9\/n=10\/n=11\/n=12)(u:Nat->Int)
 (hu: ∀j,j<n-> -1000001<=u j/\u j<=1000000) (hnz: ¬ ∀i,i<n->u i=u 0):
 a1h Tryz.prog 239 [.ptr 0 0,int ch,.msl 5 1 none n false] (mkH ns no sz od q1 q2 f1 f2 e1 e2++[arrI n u]) (h6a ns no sz od q1 q2 f1 f2 e1 e2 ch n u):=by
 have hall:=h4f (n:=n) (by omega) (by omega) u false ⟨fun h=>Bool.noConfusion h,fun h=>absurd h hnz⟩;refine h3w Tryz.mixed okP f1t rfl fun E Sg hb hS F hF=> ?_;simp only[mkH,AD,AE,AC] at hb;have ett: ∀z,Sg.toNat z=z.toNat:=by subst hS;exact fun _=>rfl
 have es:Sg.nsub 12 0=12:=by subst hS;rfl
 have en1:Sg.nadd 1 0=1:=by subst hS;rfl
 have em:Sg.nmin 12 n=n:=by subst hS;show min 12 n=n;omega
 obtain⟨L,hL⟩: ∃L,k4x ch n u=L:=⟨_,rfl⟩;have hkO:h4j ch n u=L:=hL;cases hk:f2 (h4j ch n u) with
 |some z=>
  have hh:Sg.mhas f2 L=true:=by subst hS;show (f2 L).isSome=true;rw[<-hkO,hk];rfl
  have hg:Sg.mget f2 L=z:=by subst hS;show (f2 L).getD 0=z;rw[<-hkO,hk];rfl
  have hF1: ∀{v:AV} {h':List a0f},a4k h' (mkH ns no sz od q1 q2 f1 f2 e1 e2++[arrI n u])->a0x v (int z)->F [4,5] v h':=fun a b=>hF a b (by simp[mkH]) (.inl ⟨rfl,rfl⟩) ⟨rfl,arrI n u,.inr ⟨hnz,.inl ⟨z,hk,rfl,rfl⟩⟩⟩;clear hF hk hkO;rcases hn with rfl|rfl|rfl|rfl|rfl|rfl|rfl|rfl|rfl|rfl|rfl
  all_goals
   try have hu0:=hu 0 (by omega)
   try have hu1:=hu 1 (by omega)
   try have hu2:=hu 2 (by omega)
   try have hu3:=hu 3 (by omega)
   try have hu4:=hu 4 (by omega)
   try have hu5:=hu 5 (by omega)
   try have hu6:=hu 6 (by omega)
   try have hu7:=hu 7 (by omega)
   try have hu8:=hu 8 (by omega)
   try have hu9:=hu 9 (by omega)
   try have hu10:=hu 10 (by omega)
   try have hu11:=hu 11 (by omega)
   cbv at hL;subst hL;cbv;refine h3v hS (a1h.frame hall [5,6] rfl rfl ⟨AB _,AB _,trivial⟩) ?_;rintro pg v H' ⟨pg0,v0,h0,⟨rfl,rfl,rfl⟩,rfl,rfl,rfl⟩;cbv;simp only[es];cbv;simp only[em,en1];cbv;simp only[hh,hg];cbv
   repeat' (with_reducible apply a1g hS)
   all_goals try (clear hall;subst hS;first|(simp[std];done)|exact b6g (by omega) (by omega)|exact b6g (by decide) (by decide))
   exact⟨[4,5],by simp,hF1 (.cons (.refl _) (.cons (.refl _) (.cons (.refl _) (.cons (.refl _) (.cons (.refl _) (.cons (.refl _) (.nil _))))))) (AA _)⟩
 |none=>
  have hh:Sg.mhas f2 L=false:=by subst hS;show (f2 L).isSome=false;rw[<-hkO,hk];rfl
  have hF1: ∀{v:AV} {h':List a0f},a4k h' (mkH ns no sz od q1 (q2+1) f1 (fun k=>if k=L then some (q2:Int) else f2 k) e1 (fun i=>if i<q2 then e2 i else [.int .i64 (.v ch),.sl 1 n fun j=>[.int .i64 (.v (u j))]])++[.frz 1 n fun i=>[.int .i64 (.v (u i))]])->a0x v (int q2)->F [4,5] v h':=fun a b=>hF a b (by simp[mkH]) (.inl ⟨rfl,rfl⟩) ⟨rfl,.frz 1 n fun i=>[.int .i64 (.v (u i))],.inr ⟨hnz,.inr ⟨hk,rfl,by rw[hkO]⟩⟩⟩;clear hF;rw[hkO] at hk;clear hkO;rcases hn with rfl|rfl|rfl|rfl|rfl|rfl|rfl|rfl|rfl|rfl|rfl
  all_goals
   try have hu0:=hu 0 (by omega)
   try have hu1:=hu 1 (by omega)
   try have hu2:=hu 2 (by omega)
   try have hu3:=hu 3 (by omega)
   try have hu4:=hu 4 (by omega)
   try have hu5:=hu 5 (by omega)
   try have hu6:=hu 6 (by omega)
   try have hu7:=hu 7 (by omega)
   try have hu8:=hu 8 (by omega)
   try have hu9:=hu 9 (by omega)
   try have hu10:=hu 10 (by omega)
   try have hu11:=hu 11 (by omega)
   cbv at hL;subst hL;cbv;refine h3v hS (a1h.frame hall [5,6] rfl rfl ⟨AB _,AB _,trivial⟩) ?_;rintro pg v H' ⟨pg0,v0,h0,⟨rfl,rfl,rfl⟩,rfl,rfl,rfl⟩;cbv;simp only[es];cbv;simp only[em,en1];cbv;simp only[hh];cbv
   repeat' (with_reducible apply a1g hS)
   all_goals try (clear hall;subst hS;first|(simp[std];done)|exact b6g (by omega) (by omega)|exact b6g (by decide) (by decide)|(simp[std];omega))
   refine⟨[4,5],(by intro l _ h2;simp at h2⊢;omega),hF1
    (.cons (a9v.var (.cons (AA _) (.cons (AA _) (.cons (AA _) (.cons (AA _) (.cons (AA _) (.cons (by clear hall;subst hS;exact AA _) (.cons (AA _) (.cons (AA _) (.cons (AA _) .nil))))))))))
      (.cons (.refl _) (.cons (a9v.map (by clear hall;subst hS;show (if (f2 _).isSome then q2 else q2+1)=q2+1;erw [hk];rfl) (fun k=>by clear hall;subst hS;rfl)) (.cons (.refl _) (.cons (a9v.arr' (by clear hall;subst hS;rfl) (fun i hi=> ?_)) (.cons (.refl _) (.nil _))))))) (by clear hall;subst hS;exact AA _)⟩
   clear hall;subst hS;simp only[std] at hi⊢;split
   ·rfl
   ·have:i-q2=0:=by omega
    rw[this];rfl
theorem i4p {ns no:Nat}(sz od:Nat->Int){q1 q2:Nat}(hq:q2<=1000000)(f1 f2:List KC->Option Int)(e1 e2:Nat->List DV)(ch:Int)(hc:0<=ch/\ch<=1000000){n:Nat}(hn:1<=n/\n<=12)(u:Nat->Int)
 (hu: ∀j,j<n-> -1000001<=u j/\u j<=1000000):
 a1h Tryz.prog 239 [.ptr 0 0,int ch,.msl 5 1 none n false] (mkH ns no sz od q1 q2 f1 f2 e1 e2++[arrI n u]) (h6a ns no sz od q1 q2 f1 f2 e1 e2 ch n u):=by
 by_cases hz: ∀i,i<n->u i=u 0
 ·have hall:=h4f hn.1 (by omega) u true ⟨fun _=>hz,fun _=>rfl⟩;refine h3w Tryz.mixed okP f1t rfl fun E Sg hb hS F hF=> ?_;simp only[mkH,AD,AE,AC] at hb;have ett: ∀z,Sg.toNat z=z.toNat:=by subst hS;exact fun _=>rfl
  cbv;refine h3v hS (a1h.frame hall [5,6] rfl rfl ⟨AB _,AB _,trivial⟩) ?_;rintro pg v H' ⟨pg0,v0,h0,⟨rfl,rfl,rfl⟩,rfl,rfl,rfl⟩;cbv;refine a1g hS (by clear hall;subst hS;simp[std];omega) ?_;simp only[nat,ett,Int.ofNat_eq_natCast,Int.toNat_natCast];refine a1g hS (by clear hall;subst hS;simp[std];omega) ?_;exact⟨[4,5],by simp,hF (h1:=mkH ns no sz od q1 q2 f1 f2 e1 e2++[arrI n u]) (.cons (.refl _) (.cons (.refl _) (.cons (.refl _) (.cons (.refl _) (.cons (.refl _) (.cons (.refl _) (.nil _))))))) (v0:=int (u 0)) (AA _) (by simp[mkH]) (.inl ⟨rfl,rfl⟩) ⟨rfl,arrI n u,.inl ⟨hz,rfl,rfl⟩⟩⟩
 ·have h2:n=2\/n=3\/n=4\/n=5\/n=6\/n=7\/n=8\/n=9\/n=10\/n=11\/n=12:=by
   have:n≠1:=fun e=>hz fun i hi=>by
    have:i=0:=by omega
    rw[this]
   omega
  exact k4w sz od hq f1 f2 e1 e2 ch hc h2 u hu hz
end Go.Proofs.Tryz.Run
