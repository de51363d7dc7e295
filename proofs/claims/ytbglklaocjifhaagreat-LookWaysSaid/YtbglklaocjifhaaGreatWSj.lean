/- The program's maker: a node. Conditions: none. -/
import Derived.Test.YtbglklaocjifhaaGreatWLr
import Derived.Test.YtbglklaocjifhaaGreatWNb
import Derived.Test.YtbglklaocjifhaaGreatWNe
import Derived.Test.YtbglklaocjifhaaGreatWPm0
import Derived.Test.YtbglklaocjifhaaGreatWQf
import Derived.Test.YtbglklaocjifhaaGreatWSd
import Derived.Test.YtbglklaocjifhaaGreatWSi
set_option linter.unusedSimpArgs false
set_option linter.unusedVariables false
set_option maxHeartbeats 0
namespace Go.Proofs.Tryz.Run
open Go Go.Vf Go.Proofs
open Go.Proofs.YtbglklaocjifhaaGreat
def h4j (ch:Int)(n:Nat)(u:Nat->Int):List KC:=
 let g:=fun j=>if j<n then u j else 0
 [.i ch,.i (g 0),.i (g 1),.i (g 2),.i (g 3),.i (g 4),.i (g 5),.i (g 6),.i (g 7),.i (g 8),.i (g 9),.i (g 10),.i (g 11)]
def h6a (ns no:Nat)(sz od:Nat->Int)(q1 q2:Nat)(f1 f2:List KC->Option Int)(e1 e2:Nat->List DV)(ch:Int)(n:Nat)(u:Nat->Int)(pg:List Nat)(v:AV)(h':List a0f):Prop:=
 pg=[4,5]/\ ∃o,((∀i,i<n->u i=u 0)/\v=int (u 0)/\h'=mkH ns no sz od q1 q2 f1 f2 e1 e2++[o])\/
  ((¬ ∀i,i<n->u i=u 0)/\((∃z,f2 (h4j ch n u)=some z/\v=int z/\h'=mkH ns no sz od q1 q2 f1 f2 e1 e2++[o])\/
    (f2 (h4j ch n u)=none/\v=int q2/\h'=mkH ns no sz od q1 (q2+1) f1 (fun k=>if k=h4j ch n u then some (q2:Int) else f2 k) e1 (fun i=>if i<q2 then e2 i else [.int .i64 (.v ch),.sl 1 n fun j=>[.int .i64 (.v (u j))]])++[o])))
theorem i0s {ns no:Nat}(sz od:Nat->Int){q1 q2:Nat}(hq:q2<=1000000)(f1 f2:List KC->Option Int)(e1 e2:Nat->List DV)(ch:Int)(hc:0<=ch/\ch<=1000000)(u:Nat->Int)
 (hu: ∀j,j<2-> -1000001<=u j/\u j<=1000000) (hnz: ¬ ∀i,i<2->u i=u 0):
 a1h Tryz.prog 239 [.ptr 0 0,int ch,.msl 5 1 none 2 false] (mkH ns no sz od q1 q2 f1 f2 e1 e2++[arrI 2 u]) (h6a ns no sz od q1 q2 f1 f2 e1 e2 ch 2 u):=by
 have hall:=h4f (n:=2) (by omega) (by omega) u false ⟨fun h=>Bool.noConfusion h,fun h=>absurd h hnz⟩
 have hkey:h4j ch 2 u=[.i ch,.i (u 0),.i (u 1),.i (Int.ofNat 0),.i (Int.ofNat 0),.i (Int.ofNat 0),.i (Int.ofNat 0),.i (Int.ofNat 0),.i (Int.ofNat 0),.i (Int.ofNat 0),.i (Int.ofNat 0),.i (Int.ofNat 0),.i (Int.ofNat 0)]:=rfl
 have hu0:=hu 0 (by omega)
 have hu1:=hu 1 (by omega)
 refine h3w Tryz.mixed okP f1t rfl fun E Sg hb hS F hF=> ?_
 simp only[mkH,List.length_cons,List.length_nil,List.length_append] at hb
 have ett: ∀z,Sg.toNat z=z.toNat:=by subst hS;exact fun _=>rfl
 have es:Sg.nsub 12 0=12:=by subst hS;rfl
 have en1:Sg.nadd 1 0=1:=by subst hS;rfl
 have em:Sg.nmin 12 2=2:=by subst hS;rfl
 cases hk:f2 (h4j ch 2 u) with
 |some z=>
  rw[hkey] at hk
  have hh:Sg.mhas f2 [.i ch,.i (u 0),.i (u 1),.i (Int.ofNat 0),.i (Int.ofNat 0),.i (Int.ofNat 0),.i (Int.ofNat 0),.i (Int.ofNat 0),.i (Int.ofNat 0),.i (Int.ofNat 0),.i (Int.ofNat 0),.i (Int.ofNat 0),.i (Int.ofNat 0)]=true:=by subst hS;show (f2 _).isSome=true;rw[hk];rfl
  have hg:Sg.mget f2 [.i ch,.i (u 0),.i (u 1),.i (Int.ofNat 0),.i (Int.ofNat 0),.i (Int.ofNat 0),.i (Int.ofNat 0),.i (Int.ofNat 0),.i (Int.ofNat 0),.i (Int.ofNat 0),.i (Int.ofNat 0),.i (Int.ofNat 0),.i (Int.ofNat 0)]=z:=by subst hS;show (f2 _).getD 0=z;rw[hk];rfl
  cbv
  refine h3v hS (a1h.frame hall [5,6] rfl rfl ⟨a9v.refl _,a9v.refl _,trivial⟩) ?_
  rintro pg v H' ⟨pg0,v0,h0,⟨rfl,rfl,rfl⟩,rfl,rfl,rfl⟩
  cbv
  simp only[es]
  cbv
  simp only[em,en1]
  cbv
  simp only[hh,hg]
  cbv
  repeat' (with_reducible apply a1g hS)
  all_goals try (clear hall;subst hS;first|(simp[std];done)|exact b6g (by omega) (by omega)|exact b6g (by decide) (by decide))
  refine⟨[4,5],by simp,hF (h1:=mkH ns no sz od q1 q2 f1 f2 e1 e2++[arrI 2 u]) (.cons (.refl _) (.cons (.refl _) (.cons (.refl _) (.cons (.refl _) (.cons (.refl _) (.cons (.refl _) (.nil _))))))) (v0:=int z) (a0x.refl _) (by simp[mkH]) (.inl ⟨rfl,rfl⟩) ⟨rfl,arrI 2 u,.inr ⟨hnz,.inl ⟨z,by rw[hkey];exact hk,rfl,rfl⟩⟩⟩⟩
 |none=>
  rw[hkey] at hk
  have hh:Sg.mhas f2 [.i ch,.i (u 0),.i (u 1),.i (Int.ofNat 0),.i (Int.ofNat 0),.i (Int.ofNat 0),.i (Int.ofNat 0),.i (Int.ofNat 0),.i (Int.ofNat 0),.i (Int.ofNat 0),.i (Int.ofNat 0),.i (Int.ofNat 0),.i (Int.ofNat 0)]=false:=by subst hS;show (f2 _).isSome=false;rw[hk];rfl
  cbv
  refine h3v hS (a1h.frame hall [5,6] rfl rfl ⟨a9v.refl _,a9v.refl _,trivial⟩) ?_
  rintro pg v H' ⟨pg0,v0,h0,⟨rfl,rfl,rfl⟩,rfl,rfl,rfl⟩
  cbv
  simp only[es]
  cbv
  simp only[em,en1]
  cbv
  simp only[hh]
  cbv
  repeat' (with_reducible apply a1g hS)
  all_goals try (clear hall;subst hS;first|(simp[std];done)|exact b6g (by omega) (by omega)|exact b6g (by decide) (by decide)|(simp[std];omega))
  refine⟨[4,5],(by intro l _ h2;simp at h2⊢;omega),hF (h1:=mkH ns no sz od q1 (q2+1) f1 (fun k=>if k=h4j ch 2 u then some (q2:Int) else f2 k) e1 (fun i=>if i<q2 then e2 i else [.int .i64 (.v ch),.sl 1 2 fun j=>[.int .i64 (.v (u j))]])++[.frz 1 2 fun i=>[.int .i64 (.v (u i))]])
   (.cons (a9v.var (.cons (a0x.refl _) (.cons (a0x.refl _) (.cons (a0x.refl _) (.cons (a0x.refl _) (.cons (a0x.refl _) (.cons (by clear hall;subst hS;exact a0x.refl _) (.cons (a0x.refl _) (.cons (a0x.refl _) (.cons (a0x.refl _) .nil))))))))))
     (.cons (.refl _) (.cons (a9v.map (by clear hall;subst hS;show (if (f2 _).isSome then q2 else q2+1)=q2+1;rw[hk];rfl) (fun k=>by rw[hkey];clear hall;subst hS;rfl)) (.cons (.refl _) (.cons (a9v.arr' (by clear hall;subst hS;rfl) (fun i hi=> ?_)) (.cons (.refl _) (.nil _))))))) (v0:=int q2) (by clear hall;subst hS;exact a0x.refl _) (by simp[mkH]) (.inl ⟨rfl,rfl⟩) ⟨rfl,_,.inr ⟨hnz,.inr ⟨by rw[hkey];exact hk,rfl,rfl⟩⟩⟩⟩
  clear hall
  subst hS
  simp only[std] at hi⊢
  split
  ·rfl
  ·have:i-q2=0:=by omega
   rw[this];rfl
theorem i1s {ns no:Nat}(sz od:Nat->Int){q1 q2:Nat}(hq:q2<=1000000)(f1 f2:List KC->Option Int)(e1 e2:Nat->List DV)(ch:Int)(hc:0<=ch/\ch<=1000000)(u:Nat->Int)
 (hu: ∀j,j<3-> -1000001<=u j/\u j<=1000000) (hnz: ¬ ∀i,i<3->u i=u 0):
 a1h Tryz.prog 239 [.ptr 0 0,int ch,.msl 5 1 none 3 false] (mkH ns no sz od q1 q2 f1 f2 e1 e2++[arrI 3 u]) (h6a ns no sz od q1 q2 f1 f2 e1 e2 ch 3 u):=by
 have hall:=h4f (n:=3) (by omega) (by omega) u false ⟨fun h=>Bool.noConfusion h,fun h=>absurd h hnz⟩
 have hkey:h4j ch 3 u=[.i ch,.i (u 0),.i (u 1),.i (u 2),.i (Int.ofNat 0),.i (Int.ofNat 0),.i (Int.ofNat 0),.i (Int.ofNat 0),.i (Int.ofNat 0),.i (Int.ofNat 0),.i (Int.ofNat 0),.i (Int.ofNat 0),.i (Int.ofNat 0)]:=rfl
 have hu0:=hu 0 (by omega)
 have hu1:=hu 1 (by omega)
 have hu2:=hu 2 (by omega)
 refine h3w Tryz.mixed okP f1t rfl fun E Sg hb hS F hF=> ?_
 simp only[mkH,List.length_cons,List.length_nil,List.length_append] at hb
 have ett: ∀z,Sg.toNat z=z.toNat:=by subst hS;exact fun _=>rfl
 have es:Sg.nsub 12 0=12:=by subst hS;rfl
 have en1:Sg.nadd 1 0=1:=by subst hS;rfl
 have em:Sg.nmin 12 3=3:=by subst hS;rfl
 cases hk:f2 (h4j ch 3 u) with
 |some z=>
  rw[hkey] at hk
  have hh:Sg.mhas f2 [.i ch,.i (u 0),.i (u 1),.i (u 2),.i (Int.ofNat 0),.i (Int.ofNat 0),.i (Int.ofNat 0),.i (Int.ofNat 0),.i (Int.ofNat 0),.i (Int.ofNat 0),.i (Int.ofNat 0),.i (Int.ofNat 0),.i (Int.ofNat 0)]=true:=by subst hS;show (f2 _).isSome=true;rw[hk];rfl
  have hg:Sg.mget f2 [.i ch,.i (u 0),.i (u 1),.i (u 2),.i (Int.ofNat 0),.i (Int.ofNat 0),.i (Int.ofNat 0),.i (Int.ofNat 0),.i (Int.ofNat 0),.i (Int.ofNat 0),.i (Int.ofNat 0),.i (Int.ofNat 0),.i (Int.ofNat 0)]=z:=by subst hS;show (f2 _).getD 0=z;rw[hk];rfl
  cbv
  refine h3v hS (a1h.frame hall [5,6] rfl rfl ⟨a9v.refl _,a9v.refl _,trivial⟩) ?_
  rintro pg v H' ⟨pg0,v0,h0,⟨rfl,rfl,rfl⟩,rfl,rfl,rfl⟩
  cbv
  simp only[es]
  cbv
  simp only[em,en1]
  cbv
  simp only[hh,hg]
  cbv
  repeat' (with_reducible apply a1g hS)
  all_goals try (clear hall;subst hS;first|(simp[std];done)|exact b6g (by omega) (by omega)|exact b6g (by decide) (by decide))
  refine⟨[4,5],by simp,hF (h1:=mkH ns no sz od q1 q2 f1 f2 e1 e2++[arrI 3 u]) (.cons (.refl _) (.cons (.refl _) (.cons (.refl _) (.cons (.refl _) (.cons (.refl _) (.cons (.refl _) (.nil _))))))) (v0:=int z) (a0x.refl _) (by simp[mkH]) (.inl ⟨rfl,rfl⟩) ⟨rfl,arrI 3 u,.inr ⟨hnz,.inl ⟨z,by rw[hkey];exact hk,rfl,rfl⟩⟩⟩⟩
 |none=>
  rw[hkey] at hk
  have hh:Sg.mhas f2 [.i ch,.i (u 0),.i (u 1),.i (u 2),.i (Int.ofNat 0),.i (Int.ofNat 0),.i (Int.ofNat 0),.i (Int.ofNat 0),.i (Int.ofNat 0),.i (Int.ofNat 0),.i (Int.ofNat 0),.i (Int.ofNat 0),.i (Int.ofNat 0)]=false:=by subst hS;show (f2 _).isSome=false;rw[hk];rfl
  cbv
  refine h3v hS (a1h.frame hall [5,6] rfl rfl ⟨a9v.refl _,a9v.refl _,trivial⟩) ?_
  rintro pg v H' ⟨pg0,v0,h0,⟨rfl,rfl,rfl⟩,rfl,rfl,rfl⟩
  cbv
  simp only[es]
  cbv
  simp only[em,en1]
  cbv
  simp only[hh]
  cbv
  repeat' (with_reducible apply a1g hS)
  all_goals try (clear hall;subst hS;first|(simp[std];done)|exact b6g (by omega) (by omega)|exact b6g (by decide) (by decide)|(simp[std];omega))
  refine⟨[4,5],(by intro l _ h2;simp at h2⊢;omega),hF (h1:=mkH ns no sz od q1 (q2+1) f1 (fun k=>if k=h4j ch 3 u then some (q2:Int) else f2 k) e1 (fun i=>if i<q2 then e2 i else [.int .i64 (.v ch),.sl 1 3 fun j=>[.int .i64 (.v (u j))]])++[.frz 1 3 fun i=>[.int .i64 (.v (u i))]])
   (.cons (a9v.var (.cons (a0x.refl _) (.cons (a0x.refl _) (.cons (a0x.refl _) (.cons (a0x.refl _) (.cons (a0x.refl _) (.cons (by clear hall;subst hS;exact a0x.refl _) (.cons (a0x.refl _) (.cons (a0x.refl _) (.cons (a0x.refl _) .nil))))))))))
     (.cons (.refl _) (.cons (a9v.map (by clear hall;subst hS;show (if (f2 _).isSome then q2 else q2+1)=q2+1;rw[hk];rfl) (fun k=>by rw[hkey];clear hall;subst hS;rfl)) (.cons (.refl _) (.cons (a9v.arr' (by clear hall;subst hS;rfl) (fun i hi=> ?_)) (.cons (.refl _) (.nil _))))))) (v0:=int q2) (by clear hall;subst hS;exact a0x.refl _) (by simp[mkH]) (.inl ⟨rfl,rfl⟩) ⟨rfl,_,.inr ⟨hnz,.inr ⟨by rw[hkey];exact hk,rfl,rfl⟩⟩⟩⟩
  clear hall
  subst hS
  simp only[std] at hi⊢
  split
  ·rfl
  ·have:i-q2=0:=by omega
   rw[this];rfl
theorem i0f {ns no:Nat}(sz od:Nat->Int){q1 q2:Nat}(hq:q2<=1000000)(f1 f2:List KC->Option Int)(e1 e2:Nat->List DV)(ch:Int)(hc:0<=ch/\ch<=1000000)(u:Nat->Int)
 (hu: ∀j,j<4-> -1000001<=u j/\u j<=1000000) (hnz: ¬ ∀i,i<4->u i=u 0):
 a1h Tryz.prog 239 [.ptr 0 0,int ch,.msl 5 1 none 4 false] (mkH ns no sz od q1 q2 f1 f2 e1 e2++[arrI 4 u]) (h6a ns no sz od q1 q2 f1 f2 e1 e2 ch 4 u):=by
 have hall:=h4f (n:=4) (by omega) (by omega) u false ⟨fun h=>Bool.noConfusion h,fun h=>absurd h hnz⟩
 have hkey:h4j ch 4 u=[.i ch,.i (u 0),.i (u 1),.i (u 2),.i (u 3),.i (Int.ofNat 0),.i (Int.ofNat 0),.i (Int.ofNat 0),.i (Int.ofNat 0),.i (Int.ofNat 0),.i (Int.ofNat 0),.i (Int.ofNat 0),.i (Int.ofNat 0)]:=rfl
 have hu0:=hu 0 (by omega)
 have hu1:=hu 1 (by omega)
 have hu2:=hu 2 (by omega)
 have hu3:=hu 3 (by omega)
 refine h3w Tryz.mixed okP f1t rfl fun E Sg hb hS F hF=> ?_
 simp only[mkH,List.length_cons,List.length_nil,List.length_append] at hb
 have ett: ∀z,Sg.toNat z=z.toNat:=by subst hS;exact fun _=>rfl
 have es:Sg.nsub 12 0=12:=by subst hS;rfl
 have en1:Sg.nadd 1 0=1:=by subst hS;rfl
 have em:Sg.nmin 12 4=4:=by subst hS;rfl
 cases hk:f2 (h4j ch 4 u) with
 |some z=>
  rw[hkey] at hk
  have hh:Sg.mhas f2 [.i ch,.i (u 0),.i (u 1),.i (u 2),.i (u 3),.i (Int.ofNat 0),.i (Int.ofNat 0),.i (Int.ofNat 0),.i (Int.ofNat 0),.i (Int.ofNat 0),.i (Int.ofNat 0),.i (Int.ofNat 0),.i (Int.ofNat 0)]=true:=by subst hS;show (f2 _).isSome=true;rw[hk];rfl
  have hg:Sg.mget f2 [.i ch,.i (u 0),.i (u 1),.i (u 2),.i (u 3),.i (Int.ofNat 0),.i (Int.ofNat 0),.i (Int.ofNat 0),.i (Int.ofNat 0),.i (Int.ofNat 0),.i (Int.ofNat 0),.i (Int.ofNat 0),.i (Int.ofNat 0)]=z:=by subst hS;show (f2 _).getD 0=z;rw[hk];rfl
  cbv
  refine h3v hS (a1h.frame hall [5,6] rfl rfl ⟨a9v.refl _,a9v.refl _,trivial⟩) ?_
  rintro pg v H' ⟨pg0,v0,h0,⟨rfl,rfl,rfl⟩,rfl,rfl,rfl⟩
  cbv
  simp only[es]
  cbv
  simp only[em,en1]
  cbv
  simp only[hh,hg]
  cbv
  repeat' (with_reducible apply a1g hS)
  all_goals try (clear hall;subst hS;first|(simp[std];done)|exact b6g (by omega) (by omega)|exact b6g (by decide) (by decide))
  refine⟨[4,5],by simp,hF (h1:=mkH ns no sz od q1 q2 f1 f2 e1 e2++[arrI 4 u]) (.cons (.refl _) (.cons (.refl _) (.cons (.refl _) (.cons (.refl _) (.cons (.refl _) (.cons (.refl _) (.nil _))))))) (v0:=int z) (a0x.refl _) (by simp[mkH]) (.inl ⟨rfl,rfl⟩) ⟨rfl,arrI 4 u,.inr ⟨hnz,.inl ⟨z,by rw[hkey];exact hk,rfl,rfl⟩⟩⟩⟩
 |none=>
  rw[hkey] at hk
  have hh:Sg.mhas f2 [.i ch,.i (u 0),.i (u 1),.i (u 2),.i (u 3),.i (Int.ofNat 0),.i (Int.ofNat 0),.i (Int.ofNat 0),.i (Int.ofNat 0),.i (Int.ofNat 0),.i (Int.ofNat 0),.i (Int.ofNat 0),.i (Int.ofNat 0)]=false:=by subst hS;show (f2 _).isSome=false;rw[hk];rfl
  cbv
  refine h3v hS (a1h.frame hall [5,6] rfl rfl ⟨a9v.refl _,a9v.refl _,trivial⟩) ?_
  rintro pg v H' ⟨pg0,v0,h0,⟨rfl,rfl,rfl⟩,rfl,rfl,rfl⟩
  cbv
  simp only[es]
  cbv
  simp only[em,en1]
  cbv
  simp only[hh]
  cbv
  repeat' (with_reducible apply a1g hS)
  all_goals try (clear hall;subst hS;first|(simp[std];done)|exact b6g (by omega) (by omega)|exact b6g (by decide) (by decide)|(simp[std];omega))
  refine⟨[4,5],(by intro l _ h2;simp at h2⊢;omega),hF (h1:=mkH ns no sz od q1 (q2+1) f1 (fun k=>if k=h4j ch 4 u then some (q2:Int) else f2 k) e1 (fun i=>if i<q2 then e2 i else [.int .i64 (.v ch),.sl 1 4 fun j=>[.int .i64 (.v (u j))]])++[.frz 1 4 fun i=>[.int .i64 (.v (u i))]])
   (.cons (a9v.var (.cons (a0x.refl _) (.cons (a0x.refl _) (.cons (a0x.refl _) (.cons (a0x.refl _) (.cons (a0x.refl _) (.cons (by clear hall;subst hS;exact a0x.refl _) (.cons (a0x.refl _) (.cons (a0x.refl _) (.cons (a0x.refl _) .nil))))))))))
     (.cons (.refl _) (.cons (a9v.map (by clear hall;subst hS;show (if (f2 _).isSome then q2 else q2+1)=q2+1;rw[hk];rfl) (fun k=>by rw[hkey];clear hall;subst hS;rfl)) (.cons (.refl _) (.cons (a9v.arr' (by clear hall;subst hS;rfl) (fun i hi=> ?_)) (.cons (.refl _) (.nil _))))))) (v0:=int q2) (by clear hall;subst hS;exact a0x.refl _) (by simp[mkH]) (.inl ⟨rfl,rfl⟩) ⟨rfl,_,.inr ⟨hnz,.inr ⟨by rw[hkey];exact hk,rfl,rfl⟩⟩⟩⟩
  clear hall
  subst hS
  simp only[std] at hi⊢
  split
  ·rfl
  ·have:i-q2=0:=by omega
   rw[this];rfl
theorem i0m {ns no:Nat}(sz od:Nat->Int){q1 q2:Nat}(hq:q2<=1000000)(f1 f2:List KC->Option Int)(e1 e2:Nat->List DV)(ch:Int)(hc:0<=ch/\ch<=1000000)(u:Nat->Int)
 (hu: ∀j,j<5-> -1000001<=u j/\u j<=1000000) (hnz: ¬ ∀i,i<5->u i=u 0):
 a1h Tryz.prog 239 [.ptr 0 0,int ch,.msl 5 1 none 5 false] (mkH ns no sz od q1 q2 f1 f2 e1 e2++[arrI 5 u]) (h6a ns no sz od q1 q2 f1 f2 e1 e2 ch 5 u):=by
 have hall:=h4f (n:=5) (by omega) (by omega) u false ⟨fun h=>Bool.noConfusion h,fun h=>absurd h hnz⟩
 have hkey:h4j ch 5 u=[.i ch,.i (u 0),.i (u 1),.i (u 2),.i (u 3),.i (u 4),.i (Int.ofNat 0),.i (Int.ofNat 0),.i (Int.ofNat 0),.i (Int.ofNat 0),.i (Int.ofNat 0),.i (Int.ofNat 0),.i (Int.ofNat 0)]:=rfl
 have hu0:=hu 0 (by omega)
 have hu1:=hu 1 (by omega)
 have hu2:=hu 2 (by omega)
 have hu3:=hu 3 (by omega)
 have hu4:=hu 4 (by omega)
 refine h3w Tryz.mixed okP f1t rfl fun E Sg hb hS F hF=> ?_
 simp only[mkH,List.length_cons,List.length_nil,List.length_append] at hb
 have ett: ∀z,Sg.toNat z=z.toNat:=by subst hS;exact fun _=>rfl
 have es:Sg.nsub 12 0=12:=by subst hS;rfl
 have en1:Sg.nadd 1 0=1:=by subst hS;rfl
 have em:Sg.nmin 12 5=5:=by subst hS;rfl
 cases hk:f2 (h4j ch 5 u) with
 |some z=>
  rw[hkey] at hk
  have hh:Sg.mhas f2 [.i ch,.i (u 0),.i (u 1),.i (u 2),.i (u 3),.i (u 4),.i (Int.ofNat 0),.i (Int.ofNat 0),.i (Int.ofNat 0),.i (Int.ofNat 0),.i (Int.ofNat 0),.i (Int.ofNat 0),.i (Int.ofNat 0)]=true:=by subst hS;show (f2 _).isSome=true;rw[hk];rfl
  have hg:Sg.mget f2 [.i ch,.i (u 0),.i (u 1),.i (u 2),.i (u 3),.i (u 4),.i (Int.ofNat 0),.i (Int.ofNat 0),.i (Int.ofNat 0),.i (Int.ofNat 0),.i (Int.ofNat 0),.i (Int.ofNat 0),.i (Int.ofNat 0)]=z:=by subst hS;show (f2 _).getD 0=z;rw[hk];rfl
  cbv
  refine h3v hS (a1h.frame hall [5,6] rfl rfl ⟨a9v.refl _,a9v.refl _,trivial⟩) ?_
  rintro pg v H' ⟨pg0,v0,h0,⟨rfl,rfl,rfl⟩,rfl,rfl,rfl⟩
  cbv
  simp only[es]
  cbv
  simp only[em,en1]
  cbv
  simp only[hh,hg]
  cbv
  repeat' (with_reducible apply a1g hS)
  all_goals try (clear hall;subst hS;first|(simp[std];done)|exact b6g (by omega) (by omega)|exact b6g (by decide) (by decide))
  refine⟨[4,5],by simp,hF (h1:=mkH ns no sz od q1 q2 f1 f2 e1 e2++[arrI 5 u]) (.cons (.refl _) (.cons (.refl _) (.cons (.refl _) (.cons (.refl _) (.cons (.refl _) (.cons (.refl _) (.nil _))))))) (v0:=int z) (a0x.refl _) (by simp[mkH]) (.inl ⟨rfl,rfl⟩) ⟨rfl,arrI 5 u,.inr ⟨hnz,.inl ⟨z,by rw[hkey];exact hk,rfl,rfl⟩⟩⟩⟩
 |none=>
  rw[hkey] at hk
  have hh:Sg.mhas f2 [.i ch,.i (u 0),.i (u 1),.i (u 2),.i (u 3),.i (u 4),.i (Int.ofNat 0),.i (Int.ofNat 0),.i (Int.ofNat 0),.i (Int.ofNat 0),.i (Int.ofNat 0),.i (Int.ofNat 0),.i (Int.ofNat 0)]=false:=by subst hS;show (f2 _).isSome=false;rw[hk];rfl
  cbv
  refine h3v hS (a1h.frame hall [5,6] rfl rfl ⟨a9v.refl _,a9v.refl _,trivial⟩) ?_
  rintro pg v H' ⟨pg0,v0,h0,⟨rfl,rfl,rfl⟩,rfl,rfl,rfl⟩
  cbv
  simp only[es]
  cbv
  simp only[em,en1]
  cbv
  simp only[hh]
  cbv
  repeat' (with_reducible apply a1g hS)
  all_goals try (clear hall;subst hS;first|(simp[std];done)|exact b6g (by omega) (by omega)|exact b6g (by decide) (by decide)|(simp[std];omega))
  refine⟨[4,5],(by intro l _ h2;simp at h2⊢;omega),hF (h1:=mkH ns no sz od q1 (q2+1) f1 (fun k=>if k=h4j ch 5 u then some (q2:Int) else f2 k) e1 (fun i=>if i<q2 then e2 i else [.int .i64 (.v ch),.sl 1 5 fun j=>[.int .i64 (.v (u j))]])++[.frz 1 5 fun i=>[.int .i64 (.v (u i))]])
   (.cons (a9v.var (.cons (a0x.refl _) (.cons (a0x.refl _) (.cons (a0x.refl _) (.cons (a0x.refl _) (.cons (a0x.refl _) (.cons (by clear hall;subst hS;exact a0x.refl _) (.cons (a0x.refl _) (.cons (a0x.refl _) (.cons (a0x.refl _) .nil))))))))))
     (.cons (.refl _) (.cons (a9v.map (by clear hall;subst hS;show (if (f2 _).isSome then q2 else q2+1)=q2+1;rw[hk];rfl) (fun k=>by rw[hkey];clear hall;subst hS;rfl)) (.cons (.refl _) (.cons (a9v.arr' (by clear hall;subst hS;rfl) (fun i hi=> ?_)) (.cons (.refl _) (.nil _))))))) (v0:=int q2) (by clear hall;subst hS;exact a0x.refl _) (by simp[mkH]) (.inl ⟨rfl,rfl⟩) ⟨rfl,_,.inr ⟨hnz,.inr ⟨by rw[hkey];exact hk,rfl,rfl⟩⟩⟩⟩
  clear hall
  subst hS
  simp only[std] at hi⊢
  split
  ·rfl
  ·have:i-q2=0:=by omega
   rw[this];rfl
theorem i1d {ns no:Nat}(sz od:Nat->Int){q1 q2:Nat}(hq:q2<=1000000)(f1 f2:List KC->Option Int)(e1 e2:Nat->List DV)(ch:Int)(hc:0<=ch/\ch<=1000000)(u:Nat->Int)
 (hu: ∀j,j<6-> -1000001<=u j/\u j<=1000000) (hnz: ¬ ∀i,i<6->u i=u 0):
 a1h Tryz.prog 239 [.ptr 0 0,int ch,.msl 5 1 none 6 false] (mkH ns no sz od q1 q2 f1 f2 e1 e2++[arrI 6 u]) (h6a ns no sz od q1 q2 f1 f2 e1 e2 ch 6 u):=by
 have hall:=h4f (n:=6) (by omega) (by omega) u false ⟨fun h=>Bool.noConfusion h,fun h=>absurd h hnz⟩
 have hkey:h4j ch 6 u=[.i ch,.i (u 0),.i (u 1),.i (u 2),.i (u 3),.i (u 4),.i (u 5),.i (Int.ofNat 0),.i (Int.ofNat 0),.i (Int.ofNat 0),.i (Int.ofNat 0),.i (Int.ofNat 0),.i (Int.ofNat 0)]:=rfl
 have hu0:=hu 0 (by omega)
 have hu1:=hu 1 (by omega)
 have hu2:=hu 2 (by omega)
 have hu3:=hu 3 (by omega)
 have hu4:=hu 4 (by omega)
 have hu5:=hu 5 (by omega)
 refine h3w Tryz.mixed okP f1t rfl fun E Sg hb hS F hF=> ?_
 simp only[mkH,List.length_cons,List.length_nil,List.length_append] at hb
 have ett: ∀z,Sg.toNat z=z.toNat:=by subst hS;exact fun _=>rfl
 have es:Sg.nsub 12 0=12:=by subst hS;rfl
 have en1:Sg.nadd 1 0=1:=by subst hS;rfl
 have em:Sg.nmin 12 6=6:=by subst hS;rfl
 cases hk:f2 (h4j ch 6 u) with
 |some z=>
  rw[hkey] at hk
  have hh:Sg.mhas f2 [.i ch,.i (u 0),.i (u 1),.i (u 2),.i (u 3),.i (u 4),.i (u 5),.i (Int.ofNat 0),.i (Int.ofNat 0),.i (Int.ofNat 0),.i (Int.ofNat 0),.i (Int.ofNat 0),.i (Int.ofNat 0)]=true:=by subst hS;show (f2 _).isSome=true;rw[hk];rfl
  have hg:Sg.mget f2 [.i ch,.i (u 0),.i (u 1),.i (u 2),.i (u 3),.i (u 4),.i (u 5),.i (Int.ofNat 0),.i (Int.ofNat 0),.i (Int.ofNat 0),.i (Int.ofNat 0),.i (Int.ofNat 0),.i (Int.ofNat 0)]=z:=by subst hS;show (f2 _).getD 0=z;rw[hk];rfl
  cbv
  refine h3v hS (a1h.frame hall [5,6] rfl rfl ⟨a9v.refl _,a9v.refl _,trivial⟩) ?_
  rintro pg v H' ⟨pg0,v0,h0,⟨rfl,rfl,rfl⟩,rfl,rfl,rfl⟩
  cbv
  simp only[es]
  cbv
  simp only[em,en1]
  cbv
  simp only[hh,hg]
  cbv
  repeat' (with_reducible apply a1g hS)
  all_goals try (clear hall;subst hS;first|(simp[std];done)|exact b6g (by omega) (by omega)|exact b6g (by decide) (by decide))
  refine⟨[4,5],by simp,hF (h1:=mkH ns no sz od q1 q2 f1 f2 e1 e2++[arrI 6 u]) (.cons (.refl _) (.cons (.refl _) (.cons (.refl _) (.cons (.refl _) (.cons (.refl _) (.cons (.refl _) (.nil _))))))) (v0:=int z) (a0x.refl _) (by simp[mkH]) (.inl ⟨rfl,rfl⟩) ⟨rfl,arrI 6 u,.inr ⟨hnz,.inl ⟨z,by rw[hkey];exact hk,rfl,rfl⟩⟩⟩⟩
 |none=>
  rw[hkey] at hk
  have hh:Sg.mhas f2 [.i ch,.i (u 0),.i (u 1),.i (u 2),.i (u 3),.i (u 4),.i (u 5),.i (Int.ofNat 0),.i (Int.ofNat 0),.i (Int.ofNat 0),.i (Int.ofNat 0),.i (Int.ofNat 0),.i (Int.ofNat 0)]=false:=by subst hS;show (f2 _).isSome=false;rw[hk];rfl
  cbv
  refine h3v hS (a1h.frame hall [5,6] rfl rfl ⟨a9v.refl _,a9v.refl _,trivial⟩) ?_
  rintro pg v H' ⟨pg0,v0,h0,⟨rfl,rfl,rfl⟩,rfl,rfl,rfl⟩
  cbv
  simp only[es]
  cbv
  simp only[em,en1]
  cbv
  simp only[hh]
  cbv
  repeat' (with_reducible apply a1g hS)
  all_goals try (clear hall;subst hS;first|(simp[std];done)|exact b6g (by omega) (by omega)|exact b6g (by decide) (by decide)|(simp[std];omega))
  refine⟨[4,5],(by intro l _ h2;simp at h2⊢;omega),hF (h1:=mkH ns no sz od q1 (q2+1) f1 (fun k=>if k=h4j ch 6 u then some (q2:Int) else f2 k) e1 (fun i=>if i<q2 then e2 i else [.int .i64 (.v ch),.sl 1 6 fun j=>[.int .i64 (.v (u j))]])++[.frz 1 6 fun i=>[.int .i64 (.v (u i))]])
   (.cons (a9v.var (.cons (a0x.refl _) (.cons (a0x.refl _) (.cons (a0x.refl _) (.cons (a0x.refl _) (.cons (a0x.refl _) (.cons (by clear hall;subst hS;exact a0x.refl _) (.cons (a0x.refl _) (.cons (a0x.refl _) (.cons (a0x.refl _) .nil))))))))))
     (.cons (.refl _) (.cons (a9v.map (by clear hall;subst hS;show (if (f2 _).isSome then q2 else q2+1)=q2+1;rw[hk];rfl) (fun k=>by rw[hkey];clear hall;subst hS;rfl)) (.cons (.refl _) (.cons (a9v.arr' (by clear hall;subst hS;rfl) (fun i hi=> ?_)) (.cons (.refl _) (.nil _))))))) (v0:=int q2) (by clear hall;subst hS;exact a0x.refl _) (by simp[mkH]) (.inl ⟨rfl,rfl⟩) ⟨rfl,_,.inr ⟨hnz,.inr ⟨by rw[hkey];exact hk,rfl,rfl⟩⟩⟩⟩
  clear hall
  subst hS
  simp only[std] at hi⊢
  split
  ·rfl
  ·have:i-q2=0:=by omega
   rw[this];rfl
theorem i1l {ns no:Nat}(sz od:Nat->Int){q1 q2:Nat}(hq:q2<=1000000)(f1 f2:List KC->Option Int)(e1 e2:Nat->List DV)(ch:Int)(hc:0<=ch/\ch<=1000000)(u:Nat->Int)
 (hu: ∀j,j<7-> -1000001<=u j/\u j<=1000000) (hnz: ¬ ∀i,i<7->u i=u 0):
 a1h Tryz.prog 239 [.ptr 0 0,int ch,.msl 5 1 none 7 false] (mkH ns no sz od q1 q2 f1 f2 e1 e2++[arrI 7 u]) (h6a ns no sz od q1 q2 f1 f2 e1 e2 ch 7 u):=by
 have hall:=h4f (n:=7) (by omega) (by omega) u false ⟨fun h=>Bool.noConfusion h,fun h=>absurd h hnz⟩
 have hkey:h4j ch 7 u=[.i ch,.i (u 0),.i (u 1),.i (u 2),.i (u 3),.i (u 4),.i (u 5),.i (u 6),.i (Int.ofNat 0),.i (Int.ofNat 0),.i (Int.ofNat 0),.i (Int.ofNat 0),.i (Int.ofNat 0)]:=rfl
 have hu0:=hu 0 (by omega)
 have hu1:=hu 1 (by omega)
 have hu2:=hu 2 (by omega)
 have hu3:=hu 3 (by omega)
 have hu4:=hu 4 (by omega)
 have hu5:=hu 5 (by omega)
 have hu6:=hu 6 (by omega)
 refine h3w Tryz.mixed okP f1t rfl fun E Sg hb hS F hF=> ?_
 simp only[mkH,List.length_cons,List.length_nil,List.length_append] at hb
 have ett: ∀z,Sg.toNat z=z.toNat:=by subst hS;exact fun _=>rfl
 have es:Sg.nsub 12 0=12:=by subst hS;rfl
 have en1:Sg.nadd 1 0=1:=by subst hS;rfl
 have em:Sg.nmin 12 7=7:=by subst hS;rfl
 cases hk:f2 (h4j ch 7 u) with
 |some z=>
  rw[hkey] at hk
  have hh:Sg.mhas f2 [.i ch,.i (u 0),.i (u 1),.i (u 2),.i (u 3),.i (u 4),.i (u 5),.i (u 6),.i (Int.ofNat 0),.i (Int.ofNat 0),.i (Int.ofNat 0),.i (Int.ofNat 0),.i (Int.ofNat 0)]=true:=by subst hS;show (f2 _).isSome=true;rw[hk];rfl
  have hg:Sg.mget f2 [.i ch,.i (u 0),.i (u 1),.i (u 2),.i (u 3),.i (u 4),.i (u 5),.i (u 6),.i (Int.ofNat 0),.i (Int.ofNat 0),.i (Int.ofNat 0),.i (Int.ofNat 0),.i (Int.ofNat 0)]=z:=by subst hS;show (f2 _).getD 0=z;rw[hk];rfl
  cbv
  refine h3v hS (a1h.frame hall [5,6] rfl rfl ⟨a9v.refl _,a9v.refl _,trivial⟩) ?_
  rintro pg v H' ⟨pg0,v0,h0,⟨rfl,rfl,rfl⟩,rfl,rfl,rfl⟩
  cbv
  simp only[es]
  cbv
  simp only[em,en1]
  cbv
  simp only[hh,hg]
  cbv
  repeat' (with_reducible apply a1g hS)
  all_goals try (clear hall;subst hS;first|(simp[std];done)|exact b6g (by omega) (by omega)|exact b6g (by decide) (by decide))
  refine⟨[4,5],by simp,hF (h1:=mkH ns no sz od q1 q2 f1 f2 e1 e2++[arrI 7 u]) (.cons (.refl _) (.cons (.refl _) (.cons (.refl _) (.cons (.refl _) (.cons (.refl _) (.cons (.refl _) (.nil _))))))) (v0:=int z) (a0x.refl _) (by simp[mkH]) (.inl ⟨rfl,rfl⟩) ⟨rfl,arrI 7 u,.inr ⟨hnz,.inl ⟨z,by rw[hkey];exact hk,rfl,rfl⟩⟩⟩⟩
 |none=>
  rw[hkey] at hk
  have hh:Sg.mhas f2 [.i ch,.i (u 0),.i (u 1),.i (u 2),.i (u 3),.i (u 4),.i (u 5),.i (u 6),.i (Int.ofNat 0),.i (Int.ofNat 0),.i (Int.ofNat 0),.i (Int.ofNat 0),.i (Int.ofNat 0)]=false:=by subst hS;show (f2 _).isSome=false;rw[hk];rfl
  cbv
  refine h3v hS (a1h.frame hall [5,6] rfl rfl ⟨a9v.refl _,a9v.refl _,trivial⟩) ?_
  rintro pg v H' ⟨pg0,v0,h0,⟨rfl,rfl,rfl⟩,rfl,rfl,rfl⟩
  cbv
  simp only[es]
  cbv
  simp only[em,en1]
  cbv
  simp only[hh]
  cbv
  repeat' (with_reducible apply a1g hS)
  all_goals try (clear hall;subst hS;first|(simp[std];done)|exact b6g (by omega) (by omega)|exact b6g (by decide) (by decide)|(simp[std];omega))
  refine⟨[4,5],(by intro l _ h2;simp at h2⊢;omega),hF (h1:=mkH ns no sz od q1 (q2+1) f1 (fun k=>if k=h4j ch 7 u then some (q2:Int) else f2 k) e1 (fun i=>if i<q2 then e2 i else [.int .i64 (.v ch),.sl 1 7 fun j=>[.int .i64 (.v (u j))]])++[.frz 1 7 fun i=>[.int .i64 (.v (u i))]])
   (.cons (a9v.var (.cons (a0x.refl _) (.cons (a0x.refl _) (.cons (a0x.refl _) (.cons (a0x.refl _) (.cons (a0x.refl _) (.cons (by clear hall;subst hS;exact a0x.refl _) (.cons (a0x.refl _) (.cons (a0x.refl _) (.cons (a0x.refl _) .nil))))))))))
     (.cons (.refl _) (.cons (a9v.map (by clear hall;subst hS;show (if (f2 _).isSome then q2 else q2+1)=q2+1;rw[hk];rfl) (fun k=>by rw[hkey];clear hall;subst hS;rfl)) (.cons (.refl _) (.cons (a9v.arr' (by clear hall;subst hS;rfl) (fun i hi=> ?_)) (.cons (.refl _) (.nil _))))))) (v0:=int q2) (by clear hall;subst hS;exact a0x.refl _) (by simp[mkH]) (.inl ⟨rfl,rfl⟩) ⟨rfl,_,.inr ⟨hnz,.inr ⟨by rw[hkey];exact hk,rfl,rfl⟩⟩⟩⟩
  clear hall
  subst hS
  simp only[std] at hi⊢
  split
  ·rfl
  ·have:i-q2=0:=by omega
   rw[this];rfl
theorem i1h {ns no:Nat}(sz od:Nat->Int){q1 q2:Nat}(hq:q2<=1000000)(f1 f2:List KC->Option Int)(e1 e2:Nat->List DV)(ch:Int)(hc:0<=ch/\ch<=1000000)(u:Nat->Int)
 (hu: ∀j,j<8-> -1000001<=u j/\u j<=1000000) (hnz: ¬ ∀i,i<8->u i=u 0):
 a1h Tryz.prog 239 [.ptr 0 0,int ch,.msl 5 1 none 8 false] (mkH ns no sz od q1 q2 f1 f2 e1 e2++[arrI 8 u]) (h6a ns no sz od q1 q2 f1 f2 e1 e2 ch 8 u):=by
 have hall:=h4f (n:=8) (by omega) (by omega) u false ⟨fun h=>Bool.noConfusion h,fun h=>absurd h hnz⟩
 have hkey:h4j ch 8 u=[.i ch,.i (u 0),.i (u 1),.i (u 2),.i (u 3),.i (u 4),.i (u 5),.i (u 6),.i (u 7),.i (Int.ofNat 0),.i (Int.ofNat 0),.i (Int.ofNat 0),.i (Int.ofNat 0)]:=rfl
 have hu0:=hu 0 (by omega)
 have hu1:=hu 1 (by omega)
 have hu2:=hu 2 (by omega)
 have hu3:=hu 3 (by omega)
 have hu4:=hu 4 (by omega)
 have hu5:=hu 5 (by omega)
 have hu6:=hu 6 (by omega)
 have hu7:=hu 7 (by omega)
 refine h3w Tryz.mixed okP f1t rfl fun E Sg hb hS F hF=> ?_
 simp only[mkH,List.length_cons,List.length_nil,List.length_append] at hb
 have ett: ∀z,Sg.toNat z=z.toNat:=by subst hS;exact fun _=>rfl
 have es:Sg.nsub 12 0=12:=by subst hS;rfl
 have en1:Sg.nadd 1 0=1:=by subst hS;rfl
 have em:Sg.nmin 12 8=8:=by subst hS;rfl
 cases hk:f2 (h4j ch 8 u) with
 |some z=>
  rw[hkey] at hk
  have hh:Sg.mhas f2 [.i ch,.i (u 0),.i (u 1),.i (u 2),.i (u 3),.i (u 4),.i (u 5),.i (u 6),.i (u 7),.i (Int.ofNat 0),.i (Int.ofNat 0),.i (Int.ofNat 0),.i (Int.ofNat 0)]=true:=by subst hS;show (f2 _).isSome=true;rw[hk];rfl
  have hg:Sg.mget f2 [.i ch,.i (u 0),.i (u 1),.i (u 2),.i (u 3),.i (u 4),.i (u 5),.i (u 6),.i (u 7),.i (Int.ofNat 0),.i (Int.ofNat 0),.i (Int.ofNat 0),.i (Int.ofNat 0)]=z:=by subst hS;show (f2 _).getD 0=z;rw[hk];rfl
  cbv
  refine h3v hS (a1h.frame hall [5,6] rfl rfl ⟨a9v.refl _,a9v.refl _,trivial⟩) ?_
  rintro pg v H' ⟨pg0,v0,h0,⟨rfl,rfl,rfl⟩,rfl,rfl,rfl⟩
  cbv
  simp only[es]
  cbv
  simp only[em,en1]
  cbv
  simp only[hh,hg]
  cbv
  repeat' (with_reducible apply a1g hS)
  all_goals try (clear hall;subst hS;first|(simp[std];done)|exact b6g (by omega) (by omega)|exact b6g (by decide) (by decide))
  refine⟨[4,5],by simp,hF (h1:=mkH ns no sz od q1 q2 f1 f2 e1 e2++[arrI 8 u]) (.cons (.refl _) (.cons (.refl _) (.cons (.refl _) (.cons (.refl _) (.cons (.refl _) (.cons (.refl _) (.nil _))))))) (v0:=int z) (a0x.refl _) (by simp[mkH]) (.inl ⟨rfl,rfl⟩) ⟨rfl,arrI 8 u,.inr ⟨hnz,.inl ⟨z,by rw[hkey];exact hk,rfl,rfl⟩⟩⟩⟩
 |none=>
  rw[hkey] at hk
  have hh:Sg.mhas f2 [.i ch,.i (u 0),.i (u 1),.i (u 2),.i (u 3),.i (u 4),.i (u 5),.i (u 6),.i (u 7),.i (Int.ofNat 0),.i (Int.ofNat 0),.i (Int.ofNat 0),.i (Int.ofNat 0)]=false:=by subst hS;show (f2 _).isSome=false;rw[hk];rfl
  cbv
  refine h3v hS (a1h.frame hall [5,6] rfl rfl ⟨a9v.refl _,a9v.refl _,trivial⟩) ?_
  rintro pg v H' ⟨pg0,v0,h0,⟨rfl,rfl,rfl⟩,rfl,rfl,rfl⟩
  cbv
  simp only[es]
  cbv
  simp only[em,en1]
  cbv
  simp only[hh]
  cbv
  repeat' (with_reducible apply a1g hS)
  all_goals try (clear hall;subst hS;first|(simp[std];done)|exact b6g (by omega) (by omega)|exact b6g (by decide) (by decide)|(simp[std];omega))
  refine⟨[4,5],(by intro l _ h2;simp at h2⊢;omega),hF (h1:=mkH ns no sz od q1 (q2+1) f1 (fun k=>if k=h4j ch 8 u then some (q2:Int) else f2 k) e1 (fun i=>if i<q2 then e2 i else [.int .i64 (.v ch),.sl 1 8 fun j=>[.int .i64 (.v (u j))]])++[.frz 1 8 fun i=>[.int .i64 (.v (u i))]])
   (.cons (a9v.var (.cons (a0x.refl _) (.cons (a0x.refl _) (.cons (a0x.refl _) (.cons (a0x.refl _) (.cons (a0x.refl _) (.cons (by clear hall;subst hS;exact a0x.refl _) (.cons (a0x.refl _) (.cons (a0x.refl _) (.cons (a0x.refl _) .nil))))))))))
     (.cons (.refl _) (.cons (a9v.map (by clear hall;subst hS;show (if (f2 _).isSome then q2 else q2+1)=q2+1;rw[hk];rfl) (fun k=>by rw[hkey];clear hall;subst hS;rfl)) (.cons (.refl _) (.cons (a9v.arr' (by clear hall;subst hS;rfl) (fun i hi=> ?_)) (.cons (.refl _) (.nil _))))))) (v0:=int q2) (by clear hall;subst hS;exact a0x.refl _) (by simp[mkH]) (.inl ⟨rfl,rfl⟩) ⟨rfl,_,.inr ⟨hnz,.inr ⟨by rw[hkey];exact hk,rfl,rfl⟩⟩⟩⟩
  clear hall
  subst hS
  simp only[std] at hi⊢
  split
  ·rfl
  ·have:i-q2=0:=by omega
   rw[this];rfl
theorem i1f {ns no:Nat}(sz od:Nat->Int){q1 q2:Nat}(hq:q2<=1000000)(f1 f2:List KC->Option Int)(e1 e2:Nat->List DV)(ch:Int)(hc:0<=ch/\ch<=1000000)(u:Nat->Int)
 (hu: ∀j,j<9-> -1000001<=u j/\u j<=1000000) (hnz: ¬ ∀i,i<9->u i=u 0):
 a1h Tryz.prog 239 [.ptr 0 0,int ch,.msl 5 1 none 9 false] (mkH ns no sz od q1 q2 f1 f2 e1 e2++[arrI 9 u]) (h6a ns no sz od q1 q2 f1 f2 e1 e2 ch 9 u):=by
 have hall:=h4f (n:=9) (by omega) (by omega) u false ⟨fun h=>Bool.noConfusion h,fun h=>absurd h hnz⟩
 have hkey:h4j ch 9 u=[.i ch,.i (u 0),.i (u 1),.i (u 2),.i (u 3),.i (u 4),.i (u 5),.i (u 6),.i (u 7),.i (u 8),.i (Int.ofNat 0),.i (Int.ofNat 0),.i (Int.ofNat 0)]:=rfl
 have hu0:=hu 0 (by omega)
 have hu1:=hu 1 (by omega)
 have hu2:=hu 2 (by omega)
 have hu3:=hu 3 (by omega)
 have hu4:=hu 4 (by omega)
 have hu5:=hu 5 (by omega)
 have hu6:=hu 6 (by omega)
 have hu7:=hu 7 (by omega)
 have hu8:=hu 8 (by omega)
 refine h3w Tryz.mixed okP f1t rfl fun E Sg hb hS F hF=> ?_
 simp only[mkH,List.length_cons,List.length_nil,List.length_append] at hb
 have ett: ∀z,Sg.toNat z=z.toNat:=by subst hS;exact fun _=>rfl
 have es:Sg.nsub 12 0=12:=by subst hS;rfl
 have en1:Sg.nadd 1 0=1:=by subst hS;rfl
 have em:Sg.nmin 12 9=9:=by subst hS;rfl
 cases hk:f2 (h4j ch 9 u) with
 |some z=>
  rw[hkey] at hk
  have hh:Sg.mhas f2 [.i ch,.i (u 0),.i (u 1),.i (u 2),.i (u 3),.i (u 4),.i (u 5),.i (u 6),.i (u 7),.i (u 8),.i (Int.ofNat 0),.i (Int.ofNat 0),.i (Int.ofNat 0)]=true:=by subst hS;show (f2 _).isSome=true;rw[hk];rfl
  have hg:Sg.mget f2 [.i ch,.i (u 0),.i (u 1),.i (u 2),.i (u 3),.i (u 4),.i (u 5),.i (u 6),.i (u 7),.i (u 8),.i (Int.ofNat 0),.i (Int.ofNat 0),.i (Int.ofNat 0)]=z:=by subst hS;show (f2 _).getD 0=z;rw[hk];rfl
  cbv
  refine h3v hS (a1h.frame hall [5,6] rfl rfl ⟨a9v.refl _,a9v.refl _,trivial⟩) ?_
  rintro pg v H' ⟨pg0,v0,h0,⟨rfl,rfl,rfl⟩,rfl,rfl,rfl⟩
  cbv
  simp only[es]
  cbv
  simp only[em,en1]
  cbv
  simp only[hh,hg]
  cbv
  repeat' (with_reducible apply a1g hS)
  all_goals try (clear hall;subst hS;first|(simp[std];done)|exact b6g (by omega) (by omega)|exact b6g (by decide) (by decide))
  refine⟨[4,5],by simp,hF (h1:=mkH ns no sz od q1 q2 f1 f2 e1 e2++[arrI 9 u]) (.cons (.refl _) (.cons (.refl _) (.cons (.refl _) (.cons (.refl _) (.cons (.refl _) (.cons (.refl _) (.nil _))))))) (v0:=int z) (a0x.refl _) (by simp[mkH]) (.inl ⟨rfl,rfl⟩) ⟨rfl,arrI 9 u,.inr ⟨hnz,.inl ⟨z,by rw[hkey];exact hk,rfl,rfl⟩⟩⟩⟩
 |none=>
  rw[hkey] at hk
  have hh:Sg.mhas f2 [.i ch,.i (u 0),.i (u 1),.i (u 2),.i (u 3),.i (u 4),.i (u 5),.i (u 6),.i (u 7),.i (u 8),.i (Int.ofNat 0),.i (Int.ofNat 0),.i (Int.ofNat 0)]=false:=by subst hS;show (f2 _).isSome=false;rw[hk];rfl
  cbv
  refine h3v hS (a1h.frame hall [5,6] rfl rfl ⟨a9v.refl _,a9v.refl _,trivial⟩) ?_
  rintro pg v H' ⟨pg0,v0,h0,⟨rfl,rfl,rfl⟩,rfl,rfl,rfl⟩
  cbv
  simp only[es]
  cbv
  simp only[em,en1]
  cbv
  simp only[hh]
  cbv
  repeat' (with_reducible apply a1g hS)
  all_goals try (clear hall;subst hS;first|(simp[std];done)|exact b6g (by omega) (by omega)|exact b6g (by decide) (by decide)|(simp[std];omega))
  refine⟨[4,5],(by intro l _ h2;simp at h2⊢;omega),hF (h1:=mkH ns no sz od q1 (q2+1) f1 (fun k=>if k=h4j ch 9 u then some (q2:Int) else f2 k) e1 (fun i=>if i<q2 then e2 i else [.int .i64 (.v ch),.sl 1 9 fun j=>[.int .i64 (.v (u j))]])++[.frz 1 9 fun i=>[.int .i64 (.v (u i))]])
   (.cons (a9v.var (.cons (a0x.refl _) (.cons (a0x.refl _) (.cons (a0x.refl _) (.cons (a0x.refl _) (.cons (a0x.refl _) (.cons (by clear hall;subst hS;exact a0x.refl _) (.cons (a0x.refl _) (.cons (a0x.refl _) (.cons (a0x.refl _) .nil))))))))))
     (.cons (.refl _) (.cons (a9v.map (by clear hall;subst hS;show (if (f2 _).isSome then q2 else q2+1)=q2+1;rw[hk];rfl) (fun k=>by rw[hkey];clear hall;subst hS;rfl)) (.cons (.refl _) (.cons (a9v.arr' (by clear hall;subst hS;rfl) (fun i hi=> ?_)) (.cons (.refl _) (.nil _))))))) (v0:=int q2) (by clear hall;subst hS;exact a0x.refl _) (by simp[mkH]) (.inl ⟨rfl,rfl⟩) ⟨rfl,_,.inr ⟨hnz,.inr ⟨by rw[hkey];exact hk,rfl,rfl⟩⟩⟩⟩
  clear hall
  subst hS
  simp only[std] at hi⊢
  split
  ·rfl
  ·have:i-q2=0:=by omega
   rw[this];rfl
theorem h9u {ns no:Nat}(sz od:Nat->Int){q1 q2:Nat}(hq:q2<=1000000)(f1 f2:List KC->Option Int)(e1 e2:Nat->List DV)(ch:Int)(hc:0<=ch/\ch<=1000000)(u:Nat->Int)
 (hu: ∀j,j<10-> -1000001<=u j/\u j<=1000000) (hnz: ¬ ∀i,i<10->u i=u 0):
 a1h Tryz.prog 239 [.ptr 0 0,int ch,.msl 5 1 none 10 false] (mkH ns no sz od q1 q2 f1 f2 e1 e2++[arrI 10 u]) (h6a ns no sz od q1 q2 f1 f2 e1 e2 ch 10 u):=by
 have hall:=h4f (n:=10) (by omega) (by omega) u false ⟨fun h=>Bool.noConfusion h,fun h=>absurd h hnz⟩
 have hkey:h4j ch 10 u=[.i ch,.i (u 0),.i (u 1),.i (u 2),.i (u 3),.i (u 4),.i (u 5),.i (u 6),.i (u 7),.i (u 8),.i (u 9),.i (Int.ofNat 0),.i (Int.ofNat 0)]:=rfl
 have hu0:=hu 0 (by omega)
 have hu1:=hu 1 (by omega)
 have hu2:=hu 2 (by omega)
 have hu3:=hu 3 (by omega)
 have hu4:=hu 4 (by omega)
 have hu5:=hu 5 (by omega)
 have hu6:=hu 6 (by omega)
 have hu7:=hu 7 (by omega)
 have hu8:=hu 8 (by omega)
 have hu9:=hu 9 (by omega)
 refine h3w Tryz.mixed okP f1t rfl fun E Sg hb hS F hF=> ?_
 simp only[mkH,List.length_cons,List.length_nil,List.length_append] at hb
 have ett: ∀z,Sg.toNat z=z.toNat:=by subst hS;exact fun _=>rfl
 have es:Sg.nsub 12 0=12:=by subst hS;rfl
 have en1:Sg.nadd 1 0=1:=by subst hS;rfl
 have em:Sg.nmin 12 10=10:=by subst hS;rfl
 cases hk:f2 (h4j ch 10 u) with
 |some z=>
  rw[hkey] at hk
  have hh:Sg.mhas f2 [.i ch,.i (u 0),.i (u 1),.i (u 2),.i (u 3),.i (u 4),.i (u 5),.i (u 6),.i (u 7),.i (u 8),.i (u 9),.i (Int.ofNat 0),.i (Int.ofNat 0)]=true:=by subst hS;show (f2 _).isSome=true;rw[hk];rfl
  have hg:Sg.mget f2 [.i ch,.i (u 0),.i (u 1),.i (u 2),.i (u 3),.i (u 4),.i (u 5),.i (u 6),.i (u 7),.i (u 8),.i (u 9),.i (Int.ofNat 0),.i (Int.ofNat 0)]=z:=by subst hS;show (f2 _).getD 0=z;rw[hk];rfl
  cbv
  refine h3v hS (a1h.frame hall [5,6] rfl rfl ⟨a9v.refl _,a9v.refl _,trivial⟩) ?_
  rintro pg v H' ⟨pg0,v0,h0,⟨rfl,rfl,rfl⟩,rfl,rfl,rfl⟩
  cbv
  simp only[es]
  cbv
  simp only[em,en1]
  cbv
  simp only[hh,hg]
  cbv
  repeat' (with_reducible apply a1g hS)
  all_goals try (clear hall;subst hS;first|(simp[std];done)|exact b6g (by omega) (by omega)|exact b6g (by decide) (by decide))
  refine⟨[4,5],by simp,hF (h1:=mkH ns no sz od q1 q2 f1 f2 e1 e2++[arrI 10 u]) (.cons (.refl _) (.cons (.refl _) (.cons (.refl _) (.cons (.refl _) (.cons (.refl _) (.cons (.refl _) (.nil _))))))) (v0:=int z) (a0x.refl _) (by simp[mkH]) (.inl ⟨rfl,rfl⟩) ⟨rfl,arrI 10 u,.inr ⟨hnz,.inl ⟨z,by rw[hkey];exact hk,rfl,rfl⟩⟩⟩⟩
 |none=>
  rw[hkey] at hk
  have hh:Sg.mhas f2 [.i ch,.i (u 0),.i (u 1),.i (u 2),.i (u 3),.i (u 4),.i (u 5),.i (u 6),.i (u 7),.i (u 8),.i (u 9),.i (Int.ofNat 0),.i (Int.ofNat 0)]=false:=by subst hS;show (f2 _).isSome=false;rw[hk];rfl
  cbv
  refine h3v hS (a1h.frame hall [5,6] rfl rfl ⟨a9v.refl _,a9v.refl _,trivial⟩) ?_
  rintro pg v H' ⟨pg0,v0,h0,⟨rfl,rfl,rfl⟩,rfl,rfl,rfl⟩
  cbv
  simp only[es]
  cbv
  simp only[em,en1]
  cbv
  simp only[hh]
  cbv
  repeat' (with_reducible apply a1g hS)
  all_goals try (clear hall;subst hS;first|(simp[std];done)|exact b6g (by omega) (by omega)|exact b6g (by decide) (by decide)|(simp[std];omega))
  refine⟨[4,5],(by intro l _ h2;simp at h2⊢;omega),hF (h1:=mkH ns no sz od q1 (q2+1) f1 (fun k=>if k=h4j ch 10 u then some (q2:Int) else f2 k) e1 (fun i=>if i<q2 then e2 i else [.int .i64 (.v ch),.sl 1 10 fun j=>[.int .i64 (.v (u j))]])++[.frz 1 10 fun i=>[.int .i64 (.v (u i))]])
   (.cons (a9v.var (.cons (a0x.refl _) (.cons (a0x.refl _) (.cons (a0x.refl _) (.cons (a0x.refl _) (.cons (a0x.refl _) (.cons (by clear hall;subst hS;exact a0x.refl _) (.cons (a0x.refl _) (.cons (a0x.refl _) (.cons (a0x.refl _) .nil))))))))))
     (.cons (.refl _) (.cons (a9v.map (by clear hall;subst hS;show (if (f2 _).isSome then q2 else q2+1)=q2+1;rw[hk];rfl) (fun k=>by rw[hkey];clear hall;subst hS;rfl)) (.cons (.refl _) (.cons (a9v.arr' (by clear hall;subst hS;rfl) (fun i hi=> ?_)) (.cons (.refl _) (.nil _))))))) (v0:=int q2) (by clear hall;subst hS;exact a0x.refl _) (by simp[mkH]) (.inl ⟨rfl,rfl⟩) ⟨rfl,_,.inr ⟨hnz,.inr ⟨by rw[hkey];exact hk,rfl,rfl⟩⟩⟩⟩
  clear hall
  subst hS
  simp only[std] at hi⊢
  split
  ·rfl
  ·have:i-q2=0:=by omega
   rw[this];rfl
theorem i0b {ns no:Nat}(sz od:Nat->Int){q1 q2:Nat}(hq:q2<=1000000)(f1 f2:List KC->Option Int)(e1 e2:Nat->List DV)(ch:Int)(hc:0<=ch/\ch<=1000000)(u:Nat->Int)
 (hu: ∀j,j<11-> -1000001<=u j/\u j<=1000000) (hnz: ¬ ∀i,i<11->u i=u 0):
 a1h Tryz.prog 239 [.ptr 0 0,int ch,.msl 5 1 none 11 false] (mkH ns no sz od q1 q2 f1 f2 e1 e2++[arrI 11 u]) (h6a ns no sz od q1 q2 f1 f2 e1 e2 ch 11 u):=by
 have hall:=h4f (n:=11) (by omega) (by omega) u false ⟨fun h=>Bool.noConfusion h,fun h=>absurd h hnz⟩
 have hkey:h4j ch 11 u=[.i ch,.i (u 0),.i (u 1),.i (u 2),.i (u 3),.i (u 4),.i (u 5),.i (u 6),.i (u 7),.i (u 8),.i (u 9),.i (u 10),.i (Int.ofNat 0)]:=rfl
 have hu0:=hu 0 (by omega)
 have hu1:=hu 1 (by omega)
 have hu2:=hu 2 (by omega)
 have hu3:=hu 3 (by omega)
 have hu4:=hu 4 (by omega)
 have hu5:=hu 5 (by omega)
 have hu6:=hu 6 (by omega)
 have hu7:=hu 7 (by omega)
 have hu8:=hu 8 (by omega)
 have hu9:=hu 9 (by omega)
 have hu10:=hu 10 (by omega)
 refine h3w Tryz.mixed okP f1t rfl fun E Sg hb hS F hF=> ?_
 simp only[mkH,List.length_cons,List.length_nil,List.length_append] at hb
 have ett: ∀z,Sg.toNat z=z.toNat:=by subst hS;exact fun _=>rfl
 have es:Sg.nsub 12 0=12:=by subst hS;rfl
 have en1:Sg.nadd 1 0=1:=by subst hS;rfl
 have em:Sg.nmin 12 11=11:=by subst hS;rfl
 cases hk:f2 (h4j ch 11 u) with
 |some z=>
  rw[hkey] at hk
  have hh:Sg.mhas f2 [.i ch,.i (u 0),.i (u 1),.i (u 2),.i (u 3),.i (u 4),.i (u 5),.i (u 6),.i (u 7),.i (u 8),.i (u 9),.i (u 10),.i (Int.ofNat 0)]=true:=by subst hS;show (f2 _).isSome=true;rw[hk];rfl
  have hg:Sg.mget f2 [.i ch,.i (u 0),.i (u 1),.i (u 2),.i (u 3),.i (u 4),.i (u 5),.i (u 6),.i (u 7),.i (u 8),.i (u 9),.i (u 10),.i (Int.ofNat 0)]=z:=by subst hS;show (f2 _).getD 0=z;rw[hk];rfl
  cbv
  refine h3v hS (a1h.frame hall [5,6] rfl rfl ⟨a9v.refl _,a9v.refl _,trivial⟩) ?_
  rintro pg v H' ⟨pg0,v0,h0,⟨rfl,rfl,rfl⟩,rfl,rfl,rfl⟩
  cbv
  simp only[es]
  cbv
  simp only[em,en1]
  cbv
  simp only[hh,hg]
  cbv
  repeat' (with_reducible apply a1g hS)
  all_goals try (clear hall;subst hS;first|(simp[std];done)|exact b6g (by omega) (by omega)|exact b6g (by decide) (by decide))
  refine⟨[4,5],by simp,hF (h1:=mkH ns no sz od q1 q2 f1 f2 e1 e2++[arrI 11 u]) (.cons (.refl _) (.cons (.refl _) (.cons (.refl _) (.cons (.refl _) (.cons (.refl _) (.cons (.refl _) (.nil _))))))) (v0:=int z) (a0x.refl _) (by simp[mkH]) (.inl ⟨rfl,rfl⟩) ⟨rfl,arrI 11 u,.inr ⟨hnz,.inl ⟨z,by rw[hkey];exact hk,rfl,rfl⟩⟩⟩⟩
 |none=>
  rw[hkey] at hk
  have hh:Sg.mhas f2 [.i ch,.i (u 0),.i (u 1),.i (u 2),.i (u 3),.i (u 4),.i (u 5),.i (u 6),.i (u 7),.i (u 8),.i (u 9),.i (u 10),.i (Int.ofNat 0)]=false:=by subst hS;show (f2 _).isSome=false;rw[hk];rfl
  cbv
  refine h3v hS (a1h.frame hall [5,6] rfl rfl ⟨a9v.refl _,a9v.refl _,trivial⟩) ?_
  rintro pg v H' ⟨pg0,v0,h0,⟨rfl,rfl,rfl⟩,rfl,rfl,rfl⟩
  cbv
  simp only[es]
  cbv
  simp only[em,en1]
  cbv
  simp only[hh]
  cbv
  repeat' (with_reducible apply a1g hS)
  all_goals try (clear hall;subst hS;first|(simp[std];done)|exact b6g (by omega) (by omega)|exact b6g (by decide) (by decide)|(simp[std];omega))
  refine⟨[4,5],(by intro l _ h2;simp at h2⊢;omega),hF (h1:=mkH ns no sz od q1 (q2+1) f1 (fun k=>if k=h4j ch 11 u then some (q2:Int) else f2 k) e1 (fun i=>if i<q2 then e2 i else [.int .i64 (.v ch),.sl 1 11 fun j=>[.int .i64 (.v (u j))]])++[.frz 1 11 fun i=>[.int .i64 (.v (u i))]])
   (.cons (a9v.var (.cons (a0x.refl _) (.cons (a0x.refl _) (.cons (a0x.refl _) (.cons (a0x.refl _) (.cons (a0x.refl _) (.cons (by clear hall;subst hS;exact a0x.refl _) (.cons (a0x.refl _) (.cons (a0x.refl _) (.cons (a0x.refl _) .nil))))))))))
     (.cons (.refl _) (.cons (a9v.map (by clear hall;subst hS;show (if (f2 _).isSome then q2 else q2+1)=q2+1;rw[hk];rfl) (fun k=>by rw[hkey];clear hall;subst hS;rfl)) (.cons (.refl _) (.cons (a9v.arr' (by clear hall;subst hS;rfl) (fun i hi=> ?_)) (.cons (.refl _) (.nil _))))))) (v0:=int q2) (by clear hall;subst hS;exact a0x.refl _) (by simp[mkH]) (.inl ⟨rfl,rfl⟩) ⟨rfl,_,.inr ⟨hnz,.inr ⟨by rw[hkey];exact hk,rfl,rfl⟩⟩⟩⟩
  clear hall
  subst hS
  simp only[std] at hi⊢
  split
  ·rfl
  ·have:i-q2=0:=by omega
   rw[this];rfl
theorem h9r {ns no:Nat}(sz od:Nat->Int){q1 q2:Nat}(hq:q2<=1000000)(f1 f2:List KC->Option Int)(e1 e2:Nat->List DV)(ch:Int)(hc:0<=ch/\ch<=1000000)(u:Nat->Int)
 (hu: ∀j,j<12-> -1000001<=u j/\u j<=1000000) (hnz: ¬ ∀i,i<12->u i=u 0):
 a1h Tryz.prog 239 [.ptr 0 0,int ch,.msl 5 1 none 12 false] (mkH ns no sz od q1 q2 f1 f2 e1 e2++[arrI 12 u]) (h6a ns no sz od q1 q2 f1 f2 e1 e2 ch 12 u):=by
 have hall:=h4f (n:=12) (by omega) (by omega) u false ⟨fun h=>Bool.noConfusion h,fun h=>absurd h hnz⟩
 have hkey:h4j ch 12 u=[.i ch,.i (u 0),.i (u 1),.i (u 2),.i (u 3),.i (u 4),.i (u 5),.i (u 6),.i (u 7),.i (u 8),.i (u 9),.i (u 10),.i (u 11)]:=rfl
 have hu0:=hu 0 (by omega)
 have hu1:=hu 1 (by omega)
 have hu2:=hu 2 (by omega)
 have hu3:=hu 3 (by omega)
 have hu4:=hu 4 (by omega)
 have hu5:=hu 5 (by omega)
 have hu6:=hu 6 (by omega)
 have hu7:=hu 7 (by omega)
 have hu8:=hu 8 (by omega)
 have hu9:=hu 9 (by omega)
 have hu10:=hu 10 (by omega)
 have hu11:=hu 11 (by omega)
 refine h3w Tryz.mixed okP f1t rfl fun E Sg hb hS F hF=> ?_
 simp only[mkH,List.length_cons,List.length_nil,List.length_append] at hb
 have ett: ∀z,Sg.toNat z=z.toNat:=by subst hS;exact fun _=>rfl
 have es:Sg.nsub 12 0=12:=by subst hS;rfl
 have en1:Sg.nadd 1 0=1:=by subst hS;rfl
 have em:Sg.nmin 12 12=12:=by subst hS;rfl
 cases hk:f2 (h4j ch 12 u) with
 |some z=>
  rw[hkey] at hk
  have hh:Sg.mhas f2 [.i ch,.i (u 0),.i (u 1),.i (u 2),.i (u 3),.i (u 4),.i (u 5),.i (u 6),.i (u 7),.i (u 8),.i (u 9),.i (u 10),.i (u 11)]=true:=by subst hS;show (f2 _).isSome=true;rw[hk];rfl
  have hg:Sg.mget f2 [.i ch,.i (u 0),.i (u 1),.i (u 2),.i (u 3),.i (u 4),.i (u 5),.i (u 6),.i (u 7),.i (u 8),.i (u 9),.i (u 10),.i (u 11)]=z:=by subst hS;show (f2 _).getD 0=z;rw[hk];rfl
  cbv
  refine h3v hS (a1h.frame hall [5,6] rfl rfl ⟨a9v.refl _,a9v.refl _,trivial⟩) ?_
  rintro pg v H' ⟨pg0,v0,h0,⟨rfl,rfl,rfl⟩,rfl,rfl,rfl⟩
  cbv
  simp only[es]
  cbv
  simp only[em,en1]
  cbv
  simp only[hh,hg]
  cbv
  repeat' (with_reducible apply a1g hS)
  all_goals try (clear hall;subst hS;first|(simp[std];done)|exact b6g (by omega) (by omega)|exact b6g (by decide) (by decide))
  refine⟨[4,5],by simp,hF (h1:=mkH ns no sz od q1 q2 f1 f2 e1 e2++[arrI 12 u]) (.cons (.refl _) (.cons (.refl _) (.cons (.refl _) (.cons (.refl _) (.cons (.refl _) (.cons (.refl _) (.nil _))))))) (v0:=int z) (a0x.refl _) (by simp[mkH]) (.inl ⟨rfl,rfl⟩) ⟨rfl,arrI 12 u,.inr ⟨hnz,.inl ⟨z,by rw[hkey];exact hk,rfl,rfl⟩⟩⟩⟩
 |none=>
  rw[hkey] at hk
  have hh:Sg.mhas f2 [.i ch,.i (u 0),.i (u 1),.i (u 2),.i (u 3),.i (u 4),.i (u 5),.i (u 6),.i (u 7),.i (u 8),.i (u 9),.i (u 10),.i (u 11)]=false:=by subst hS;show (f2 _).isSome=false;rw[hk];rfl
  cbv
  refine h3v hS (a1h.frame hall [5,6] rfl rfl ⟨a9v.refl _,a9v.refl _,trivial⟩) ?_
  rintro pg v H' ⟨pg0,v0,h0,⟨rfl,rfl,rfl⟩,rfl,rfl,rfl⟩
  cbv
  simp only[es]
  cbv
  simp only[em,en1]
  cbv
  simp only[hh]
  cbv
  repeat' (with_reducible apply a1g hS)
  all_goals try (clear hall;subst hS;first|(simp[std];done)|exact b6g (by omega) (by omega)|exact b6g (by decide) (by decide)|(simp[std];omega))
  refine⟨[4,5],(by intro l _ h2;simp at h2⊢;omega),hF (h1:=mkH ns no sz od q1 (q2+1) f1 (fun k=>if k=h4j ch 12 u then some (q2:Int) else f2 k) e1 (fun i=>if i<q2 then e2 i else [.int .i64 (.v ch),.sl 1 12 fun j=>[.int .i64 (.v (u j))]])++[.frz 1 12 fun i=>[.int .i64 (.v (u i))]])
   (.cons (a9v.var (.cons (a0x.refl _) (.cons (a0x.refl _) (.cons (a0x.refl _) (.cons (a0x.refl _) (.cons (a0x.refl _) (.cons (by clear hall;subst hS;exact a0x.refl _) (.cons (a0x.refl _) (.cons (a0x.refl _) (.cons (a0x.refl _) .nil))))))))))
     (.cons (.refl _) (.cons (a9v.map (by clear hall;subst hS;show (if (f2 _).isSome then q2 else q2+1)=q2+1;rw[hk];rfl) (fun k=>by rw[hkey];clear hall;subst hS;rfl)) (.cons (.refl _) (.cons (a9v.arr' (by clear hall;subst hS;rfl) (fun i hi=> ?_)) (.cons (.refl _) (.nil _))))))) (v0:=int q2) (by clear hall;subst hS;exact a0x.refl _) (by simp[mkH]) (.inl ⟨rfl,rfl⟩) ⟨rfl,_,.inr ⟨hnz,.inr ⟨by rw[hkey];exact hk,rfl,rfl⟩⟩⟩⟩
  clear hall
  subst hS
  simp only[std] at hi⊢
  split
  ·rfl
  ·have:i-q2=0:=by omega
   rw[this];rfl
theorem i4p {ns no:Nat}(sz od:Nat->Int){q1 q2:Nat}(hq:q2<=1000000)(f1 f2:List KC->Option Int)(e1 e2:Nat->List DV)(ch:Int)(hc:0<=ch/\ch<=1000000){n:Nat}(hn:1<=n/\n<=12)(u:Nat->Int)
 (hu: ∀j,j<n-> -1000001<=u j/\u j<=1000000):
 a1h Tryz.prog 239 [.ptr 0 0,int ch,.msl 5 1 none n false] (mkH ns no sz od q1 q2 f1 f2 e1 e2++[arrI n u]) (h6a ns no sz od q1 q2 f1 f2 e1 e2 ch n u):=by
 by_cases hz: ∀i,i<n->u i=u 0
 ·have hall:=h4f hn.1 (by omega) u true ⟨fun _=>hz,fun _=>rfl⟩
  refine h3w Tryz.mixed okP f1t rfl fun E Sg hb hS F hF=> ?_
  simp only[mkH,List.length_cons,List.length_nil,List.length_append] at hb
  have ett: ∀z,Sg.toNat z=z.toNat:=by subst hS;exact fun _=>rfl
  cbv
  refine h3v hS (a1h.frame hall [5,6] rfl rfl ⟨a9v.refl _,a9v.refl _,trivial⟩) ?_
  rintro pg v H' ⟨pg0,v0,h0,⟨rfl,rfl,rfl⟩,rfl,rfl,rfl⟩
  cbv
  refine a1g hS (by clear hall;subst hS;simp[std];omega) ?_
  simp only[nat,ett,Int.ofNat_eq_natCast,Int.toNat_natCast]
  refine a1g hS (by clear hall;subst hS;simp[std];omega) ?_
  exact⟨[4,5],by simp,hF (h1:=mkH ns no sz od q1 q2 f1 f2 e1 e2++[arrI n u]) (.cons (.refl _) (.cons (.refl _) (.cons (.refl _) (.cons (.refl _) (.cons (.refl _) (.cons (.refl _) (.nil _))))))) (v0:=int (u 0)) (a0x.refl _) (by simp[mkH]) (.inl ⟨rfl,rfl⟩) ⟨rfl,arrI n u,.inl ⟨hz,rfl,rfl⟩⟩⟩
 ·have h2:n=2\/n=3\/n=4\/n=5\/n=6\/n=7\/n=8\/n=9\/n=10\/n=11\/n=12:=by
   have:n≠1:=fun e=>hz fun i hi=>by
    have:i=0:=by omega
    rw[this]
   omega
  rcases h2 with rfl|rfl|rfl|rfl|rfl|rfl|rfl|rfl|rfl|rfl|rfl
  ·exact i0s sz od hq f1 f2 e1 e2 ch hc u hu hz
  ·exact i1s sz od hq f1 f2 e1 e2 ch hc u hu hz
  ·exact i0f sz od hq f1 f2 e1 e2 ch hc u hu hz
  ·exact i0m sz od hq f1 f2 e1 e2 ch hc u hu hz
  ·exact i1d sz od hq f1 f2 e1 e2 ch hc u hu hz
  ·exact i1l sz od hq f1 f2 e1 e2 ch hc u hu hz
  ·exact i1h sz od hq f1 f2 e1 e2 ch hc u hu hz
  ·exact i1f sz od hq f1 f2 e1 e2 ch hc u hu hz
  ·exact h9u sz od hq f1 f2 e1 e2 ch hc u hu hz
  ·exact i0b sz od hq f1 f2 e1 e2 ch hc u hu hz
  ·exact h9r sz od hq f1 f2 e1 e2 ch hc u hu hz
end Go.Proofs.Tryz.Run
