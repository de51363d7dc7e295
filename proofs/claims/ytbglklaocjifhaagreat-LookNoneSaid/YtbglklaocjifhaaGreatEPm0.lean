/- First open contracts. The program's within, and its Check of a core. Operands of an operation; once. Same, with its result as a variable. Conditions: none. -/
import Derived.Test.YtbglklaocjifhaaGreatENe
open Go.Vf.a0x renaming refl->AA,sl'->AF,int->AG
open Go.Proofs.Tryz renaming prog->AB
open Bool renaming true->AC,noConfusion->AD,false->AE
set_option linter.unusedSimpArgs false
set_option linter.unusedVariables false
set_option maxHeartbeats 0
namespace Go.Proofs.Tryz.Run
open Go Go.Vf Go.Proofs
open Go.Proofs.YtbglklaocjifhaaGreat
theorem i5f (n m:Nat)(g h:Nat->Int)(hn:n<=1000000):a0j AB AE 33 [isl n g,isl m h] (.d (.bool (decide (n=m/\ ∀i,i<n->g i=h i)))):=by
 refine a0k Tryz.mixed okP g6f _ rfl fun E Sg hb hS=> ?_;generalize hr:decide (n=m/\ ∀i,i<n->g i=h i)=r;unfold isl;cbv;split
 ·cbv;rename_i hc;subst hS;simp[std] at hc;rw[<-hr,decide_eq_false (by omega)];exact fun _ _ _ _ h=>h
 ·rename_i hc;cbv;have hnm:n=m:=by subst hS;simp[std] at hc;omega
  refine a7r Tryz.mixed okP hS (fun i=>i<=n/\ ∀j,j<i->g j=h j) (fun i=>n-i)
   (fun i=>⟨b5r [(0,.d (.sl 1 n fun i=>[.int .i64 (.v (g i))])),(1,.d (.sl 1 m fun i=>[.int .i64 (.v (h i))])),(5,.d (.int .i64 (.v (i:Int))))] 26,[],[]⟩) 0 ⟨by omega,by omega⟩ ?_ ?_
  ·exact a4c rfl ⟨AA _,AA _,AG rfl,trivial⟩ (.nil _) (by omega) (.inr rfl) rfl
  ·intro i hi N hN;cbv;split
   ·rename_i hc1;cbv;refine a1g hS ?_ (a1g hS ?_ ?_)
    ·subst hS;simp[std] at hc1⊢;omega
    ·subst hS;simp[std] at hc1⊢;omega
    split
    ·rename_i hc2;cbv;subst hS;simp[std] at hc2;rw[<-hr,decide_eq_false]
     ·exact fun _ _ _ _ h=>h
     ·simp[std] at hc1;intro hh;exact hc2 (hh.2 i hc1)
    ·rename_i hc2;cbv;refine a1g hS ?_ ?_
     ·subst hS;simp[std] at hc1;exact b6g (by simp[std];omega) (by simp[std];omega)
     ·refine hN (i+1) _ ?_ ?_ (a4c rfl ⟨AA _,AA _,AG ?_,trivial⟩ (.nil _) (by omega) (.inr rfl) rfl)
      ·subst hS;simp[std] at hc1 hc2;refine⟨by omega,fun j hj=> ?_⟩;by_cases e:j=i
       ·subst e;exact hc2
       ·exact hi.2 j (by omega)
      ·subst hS;simp[std] at hc1;omega
      ·subst hS;simp[std]
   ·rename_i hc1;cbv;subst hS;simp[std] at hc1;rw[<-hr,decide_eq_true]
    ·exact fun _ _ _ _ h=>h
    ·exact⟨hnm,fun j hj=>hi.2 j (by omega)⟩
def a6z (n:Nat)(p:Nat->Bool)(r:Int):Prop:=
 ((∀i,i<n->p i=AE)->r= -1)/\ ∀i,i<n->p i=AC->(∀j,j<i->p j=AE)->r=i
theorem a9i (n:Nat)(p:Nat->Bool): ∃z,a6z n p z/\(0<=z-> ∃i,i<n/\p i=AC)/\((∃i,i<n/\p i=AC)->0<=z):=by
 induction n with
 |zero=>
  refine⟨-1,⟨fun _=>rfl,fun i hi=> ?_⟩,fun h=> ?_,fun h=> ?_⟩
  ·omega
  ·omega
  ·obtain⟨i,h,_⟩:=h;omega
 |succ n ih=>
  by_cases h: ∃i,i<n/\p i=AC
  ·obtain⟨z,⟨h1,h2⟩,h3,h4⟩:=ih;have:=h4 h;obtain⟨k,hk,hk2⟩:=h3 this;refine⟨z,⟨fun ha=>absurd hk2 (by rw[ha k (by omega)];simp),fun i hi hp hj=> ?_⟩,fun _=>⟨k,by omega,hk2⟩,fun _=>this⟩;by_cases e:i=n
   ·subst e;exact absurd hk2 (by rw[hj k hk];simp)
   ·exact h2 i (by omega) hp hj
  ·by_cases hn:p n=AC
   ·refine⟨n,⟨fun ha=>(by rw[ha n (by omega)] at hn;exact AD hn),fun i hi hp hj=> ?_⟩,fun _=>⟨n,by omega,hn⟩,fun _=>by omega⟩;by_cases e:i=n
    ·subst e;rfl
    ·exact absurd ⟨i,by omega,hp⟩ h
   ·refine⟨-1,⟨fun _=>rfl,fun i hi hp hj=> ?_⟩,by omega,fun⟨i,hi,hp⟩=> ?_⟩
    ·by_cases e:i=n
     ·subst e;exact absurd hp hn
     ·exact absurd ⟨i,by omega,hp⟩ h
    ·by_cases e:i=n
     ·subst e;exact absurd hp hn
     ·exact absurd ⟨i,by omega,hp⟩ h
theorem d2a {n:Nat}(hn:n<=1000000)(g:Nat->Int)(o1 o2:a0f)(gid:FuncId)(p:Nat->Bool)
 (hp: ∀i,i<n->a1h AB gid [int (g i),.ptr 0 0,.ptr 1 0] [o1,o2] (ro [o1,o2] (bool (p i)))) (r:Int) (hr:a6z n p r):
 a1h AB 215 [isl n g,.fn gid [] [.ptr 0 0,.ptr 1 0]] [o1,o2] (ro [o1,o2] (int r)):=by
 refine a2y Tryz.mixed okP e2z _ rfl fun E Sg hb hS=> ?_;cbv;refine a7r Tryz.mixed okP hS (fun i=>i<=n/\ ∀j,j<i->p j=AE) (fun i=>n-i)
  (fun i=>⟨b5r [(0,isl n g),(1,.fn gid [] [.ptr 0 0,.ptr 1 0]),(7,int n),(8,int i)] 19,[o1,o2],[]⟩) 0 ⟨by omega,by omega⟩ ?_ ?_
 ·exact a4c rfl ⟨AA _,AA _,b0a (by subst hS;rfl),a6c rfl,trivial⟩ (.same _) (by omega) (.inr rfl) rfl
 ·intro i hi N hN;cbv;split
  ·cbv;have hlt:i<n:=by subst hS;simp[std] at*;omega
   have hin:=hp i hlt;generalize hz:p i=z at hin
   repeat' ((first|(with_reducible apply a1g hS)|split|(refine a3v hS (r:=bool z) (by subst hS;exact hin) ?_;cases z))<;>cbv)
   all_goals try (subst hS;simp[std,nat,IX.val] at* <;>first|omega|exact b6g (by omega) (by omega))
   ·refine hN (i+1) _ ⟨by omega,fun j hj=> ?_⟩ (by omega) (a4c rfl ⟨AA _,AA _,AA _,b0a ?_,trivial⟩ (.same _) (by omega) (.inr rfl) rfl)
    ·by_cases e:j=i
     ·subst e;exact hz
     ·exact hi.2 j (by omega)
    ·subst hS;simp[std]
   ·exact a2s (b0a (hr.2 i hlt hz hi.2).symm) (.same _) (.inr rfl)
  ·cbv;exact a2s (a6c (hr.1 (by subst hS;simp[std] at*;exact fun j hj=>hi.2 j (by omega))).symm) (.same _) (.inr rfl)
theorem c0u {n:Nat}(hn:n<=1000000)(g:Nat->Int)(o1 o2:a0f)(gid:FuncId)(p:Nat->Bool)
 (hp: ∀i,i<n->a1h AB gid [int (g i),.ptr 0 0,.ptr 1 0] [o1,o2] (ro [o1,o2] (bool (p i)))) (r:Bool) (hr:r=AC↔ ∃i,i<n/\p i=AC):
 a1h AB 188 [isl n g,.fn gid [] [.ptr 0 0,.ptr 1 0]] [o1,o2] (ro [o1,o2] (bool r)):=by
 obtain⟨z,hz,hz1,hz2⟩: ∃z,a6z n p z/\(0<=z-> ∃i,i<n/\p i=AC)/\((∃i,i<n/\p i=AC)->0<=z):=a9i n p;have hin:=d2a hn g o1 o2 gid p hp z hz;refine a2y Tryz.mixed okP e3u _ rfl fun E Sg hb hS=> ?_;cbv;refine a3v hS hin ?_;cbv;refine a2s (a0s ?_) (.same _) (.inr rfl);subst hS;simp[std];cases r
 ·simp at hr⊢;by_cases h:z<0
  ·exact h
  ·obtain⟨i,h1,h2⟩:=hz1 (by omega);rw[hr i h1] at h2;cases h2
 ·simp at hr⊢;exact hz2 hr
theorem d0a {x:Int}:a0x (.d (.sl 1 1 (Vf.rowAt [[.int .i64 (.v x)]]))) (isl 1 fun _=>x):=
 AF rfl fun i hi=>by
  match i,hi with
  |0,_=>rfl
def two (x y:Int):Nat->Int
 |0=>x
 |_=>y
theorem c8h {x y:Int}:a0x (.d (.sl 1 2 (Vf.rowAt [[.int .i64 (.v x)],[.int .i64 (.v y)]]))) (isl 2 (two x y)):=
 AF rfl fun i hi=>by
  match i,hi with
  |0,_=>rfl
  |1,_=>rfl
def L {α:Type}(n:Nat)(g:Nat->α):List α:=(List.range n).map g
theorem h3u {α:Type}(n:Nat)(g:Nat->α):(L n g).length=n:=by simp[L]
theorem h7q {α:Type}(n:Nat)(g:Nat->α):L (n+1) g=L n g++[g n]:=by simp[L,List.range_succ]
theorem h4v {α:Type}{n:Nat}{g h:Nat->α}(e: ∀i,i<n->g i=h i):L n g=L n h:=by unfold L;exact List.map_congr_left fun i hi=>e i (by simpa using hi)
theorem h6d {α:Type}{n:Nat}{g:Nat->α}{x:α}:x∈L n g↔ ∃i,i<n/\g i=x:=by simp[L]
def arrI (n:Nat)(g:Nat->Int):a0f:= .arr 1 n fun i=>[.int .i64 (.v (g i))]
theorem a9v.arrI {n m:Nat}{e:Nat->List DV}{g:Nat->Int}(hn:n=m)(h: ∀i,i<n->e i=[.int .i64 (.v (g i))]):a9v (.arr 1 n e) (arrI m g):=a9v.arr' hn h
def h5k (l:List Int)(x:Int):List Int:=if x∈l then l else l++[x]
theorem h7o (n m:Nat)(g h:Nat->Int)(hn:n<=1000000)(r:Bool)(hr:r=AC↔L n g=L m h):a0j AB AC 33 [isl n g,isl m h] (bool r):=by
 have h1:=i5f n m g h hn;have:decide (n=m/\ ∀i,i<n->g i=h i)=r:=by
  have e:(n=m/\ ∀i,i<n->g i=h i)↔L n g=L m h:=by
   constructor
   ·rintro⟨rfl,hh⟩;exact h4v hh
   ·intro e;have el:n=m:=by simpa [h3u] using congrArg List.length e
    refine⟨el,fun j hj=> ?_⟩;have:=congrArg (fun l=>l[j]?) e;simpa [L,hj,show j<m by omega] using this
  cases r
  ·exact decide_eq_false fun hh=>AD (hr.2 (e.1 hh))
  ·exact decide_eq_true (e.2 (hr.1 rfl))
 rw[this] at h1;exact a1e h1
end Go.Proofs.Tryz.Run
