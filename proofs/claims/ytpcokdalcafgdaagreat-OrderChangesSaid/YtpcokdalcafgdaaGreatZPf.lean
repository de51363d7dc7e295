/- Contracts of the reference's small functions. The reference's Check of a core. The program's within, and its Check of a core. The program's Check of a core. The program's isOp and its Check of a core. First open contracts. Conditions: none. -/
import Derived.Test.YtpcokdalcafgdaaGreatZLf
import Derived.Test.YtpcokdalcafgdaaGreatZOg
import Derived.Test.YtpcokdalcafgdaaGreatZNc
import Derived.Test.YtpcokdalcafgdaaGreatZNa
import Derived.Test.YtpcokdalcafgdaaGreatZNb
set_option linter.unusedSimpArgs false
set_option linter.unusedVariables false
namespace Go.Proofs.Tryz.Run
open Go Go.Vf Go.Proofs
open Go.Proofs.YtpcokdalcafgdaaGreat
end Go.Proofs.Tryz.Run
set_option linter.unusedSimpArgs false
set_option linter.unusedVariables false
namespace Go.Proofs.Tryz.Run
open Go Go.Vf Go.Proofs
open Go.Proofs.YtpcokdalcafgdaaGreat
end Go.Proofs.Tryz.Run
set_option linter.unusedSimpArgs false
set_option linter.unusedVariables false
namespace Go.Proofs.Tryz.Run
open Go Go.Vf Go.Proofs
open Go.Proofs.YtpcokdalcafgdaaGreat
def firstIs (n:Nat)(p:Nat→Bool)(r:Int):Prop:=
 ((∀i,i<n→p i=false)→r= -1)∧ ∀i,i<n→p i=true→(∀j,j<i→p j=false)→r=i
theorem firstIs_ex (n:Nat)(p:Nat→Bool): ∃z,firstIs n p z∧(0≤z→ ∃i,i<n∧p i=true)∧((∃i,i<n∧p i=true)→0≤z):=by
 induction n with
 |zero=>
  refine⟨-1,⟨fun _=>rfl,fun i hi=> ?_⟩,fun h=> ?_,fun h=> ?_⟩
  ·omega
  ·omega
  ·obtain⟨i,h,_⟩:=h;omega
 |succ n ih=>
  by_cases h: ∃i,i<n∧p i=true
  ·obtain⟨z,⟨h1,h2⟩,h3,h4⟩:=ih
   have:=h4 h
   obtain⟨k,hk,hk2⟩:=h3 this
   refine⟨z,⟨fun ha=>absurd hk2 (by rw[ha k (by omega)];simp),fun i hi hp hj=> ?_⟩,fun _=>⟨k,by omega,hk2⟩,fun _=>this⟩
   by_cases e:i=n
   ·subst e;exact absurd hk2 (by rw[hj k hk];simp)
   ·exact h2 i (by omega) hp hj
  ·by_cases hn:p n=true
   ·refine⟨n,⟨fun ha=>(by rw[ha n (by omega)] at hn;exact Bool.noConfusion hn),fun i hi hp hj=> ?_⟩,fun _=>⟨n,by omega,hn⟩,fun _=>by omega⟩
    by_cases e:i=n
    ·subst e;rfl
    ·exact absurd ⟨i,by omega,hp⟩ h
   ·refine⟨-1,⟨fun _=>rfl,fun i hi hp hj=> ?_⟩,by omega,fun⟨i,hi,hp⟩=> ?_⟩
    ·by_cases e:i=n
     ·subst e;exact absurd hp hn
     ·exact absurd ⟨i,by omega,hp⟩ h
    ·by_cases e:i=n
     ·subst e;exact absurd hp hn
     ·exact absurd ⟨i,by omega,hp⟩ h
set_option maxHeartbeats 4000000 in
theorem index175 {n:Nat}(hn:n≤1000000)(g:Nat→Int)(o1 o2:AObj)(gid:FuncId)(p:Nat→Bool)
 (hp: ∀i,i<n→ACall Tryz.prog gid [int (g i),.ptr 0 0,.ptr 1 0] [o1,o2] (ro [o1,o2] (bool (p i)))) (r:Int) (hr:firstIs n p r):
 ACall Tryz.prog 175 [isl n g,.fn gid [] [.ptr 0 0,.ptr 1 0]] [o1,o2] (ro [o1,o2] (int r)):=by
 refine acall_ro Tryz.mixed okP ok175 _ rfl fun E Sg hb hS=> ?_
 cbv
 refine loop_i Tryz.mixed okP hS (fun i=>i≤n∧ ∀j,j<i→p j=false) (fun i=>n-i)
  (fun i=>⟨mkTs [(0,isl n g),(1,.fn gid [] [.ptr 0 0,.ptr 1 0]),(7,int n),(8,int i)] 19,[o1,o2],[]⟩) 0 ⟨by omega,by omega⟩ ?_ ?_
 ·exact le_mk rfl ⟨Like.refl _,Like.refl _,lk_v (by subst hS;rfl),lk_l rfl,trivial⟩ (.same _) (by omega) (.inr rfl) rfl
 ·intro i hi N hN
  cbv
  split
  ·cbv
   have hlt:i<n:=by subst hS;simp[std] at*;omega
   have hin:=hp i hlt
   generalize hz:p i=z at hin
   repeat' ((first|(with_reducible apply req_i hS)|split|(refine call_ro hS (r:=bool z) (by subst hS;exact hin) ?_;cases z))<;>cbv)
   all_goals try (subst hS;simp[std,nat,IX.val] at* <;>first|omega|exact wrap64 (by omega) (by omega))
   ·refine hN (i+1) _ ⟨by omega,fun j hj=> ?_⟩ (by omega) (le_mk rfl ⟨Like.refl _,Like.refl _,Like.refl _,lk_v ?_,trivial⟩ (.same _) (by omega) (.inr rfl) rfl)
    ·by_cases e:j=i
     ·subst e;exact hz
     ·exact hi.2 j (by omega)
    ·subst hS;simp[std]
   ·exact ro_leaf (lk_v (hr.2 i hlt hz hi.2).symm) (.same _) (.inr rfl)
  ·cbv
   exact ro_leaf (lk_l (hr.1 (by subst hS;simp[std] at*;exact fun j hj=>hi.2 j (by omega))).symm) (.same _) (.inr rfl)
theorem contains143 {n:Nat}(hn:n≤1000000)(g:Nat→Int)(o1 o2:AObj)(gid:FuncId)(p:Nat→Bool)
 (hp: ∀i,i<n→ACall Tryz.prog gid [int (g i),.ptr 0 0,.ptr 1 0] [o1,o2] (ro [o1,o2] (bool (p i)))) (r:Bool) (hr:r=true↔ ∃i,i<n∧p i=true):
 ACall Tryz.prog 143 [isl n g,.fn gid [] [.ptr 0 0,.ptr 1 0]] [o1,o2] (ro [o1,o2] (bool r)):=by
 obtain⟨z,hz,hz1,hz2⟩: ∃z,firstIs n p z∧(0≤z→ ∃i,i<n∧p i=true)∧((∃i,i<n∧p i=true)→0≤z):=firstIs_ex n p
 have hin:=index175 hn g o1 o2 gid p hp z hz
 refine acall_ro Tryz.mixed okP ok143 _ rfl fun E Sg hb hS=> ?_
 cbv
 refine call_ro hS hin ?_
 cbv
 refine ro_leaf (lk_bool ?_) (.same _) (.inr rfl)
 subst hS
 simp[std]
 cases r
 ·simp at hr⊢
  by_cases h:z<0
  ·exact h
  ·obtain⟨i,h1,h2⟩:=hz1 (by omega);rw[hr i h1] at h2;cases h2
 ·simp at hr⊢;exact hz2 hr
theorem likes_one {x:Int}:Like (.d (.sl 1 1 (Vf.rowAt [[.int .i64 (.v x)]]))) (isl 1 fun _=>x):=
 Like.sl' rfl fun i hi=>by
  match i,hi with
  |0,_=>rfl
def two (x y:Int):Nat→Int
 |0=>x
 |_=>y
theorem likes_two {x y:Int}:Like (.d (.sl 1 2 (Vf.rowAt [[.int .i64 (.v x)],[.int .i64 (.v y)]]))) (isl 2 (two x y)):=
 Like.sl' rfl fun i hi=>by
  match i,hi with
  |0,_=>rfl
  |1,_=>rfl
end Go.Proofs.Tryz.Run
set_option linter.unusedSimpArgs false
set_option linter.unusedVariables false
namespace Go.Proofs.Tryz.Run
open Go Go.Vf Go.Proofs
open Go.Proofs.YtpcokdalcafgdaaGreat
end Go.Proofs.Tryz.Run
set_option linter.unusedSimpArgs false
set_option linter.unusedVariables false
namespace Go.Proofs.Tryz.Run
open Go Go.Vf Go.Proofs
open Go.Proofs.YtpcokdalcafgdaaGreat
end Go.Proofs.Tryz.Run
namespace Go.Proofs.Tryz.Run
open Go Go.Vf Go.Proofs
open Go.Proofs.YtpcokdalcafgdaaGreat
theorem same_ok (n m:Nat)(g h:Nat→Int)(hn:n≤1000000):PureF Tryz.prog false 23 [isl n g,isl m h] (.d (.bool (decide (n=m∧ ∀i,i<n→g i=h i)))):=by
 refine pureF_of_fn Tryz.mixed okP ok23 _ rfl fun E Sg hb hS=> ?_
 generalize hr:decide (n=m∧ ∀i,i<n→g i=h i)=r
 unfold isl
 cbv
 split
 ·cbv
  rename_i hc
  subst hS
  simp[std] at hc
  rw[←hr,decide_eq_false (by omega)]
  exact fun _ _ _ _ h=>h
 ·rename_i hc
  cbv
  have hnm:n=m:=by subst hS;simp[std] at hc;omega
  refine loop_i Tryz.mixed okP hS (fun i=>i≤n∧ ∀j,j<i→g j=h j) (fun i=>n-i)
   (fun i=>⟨mkTs [(0,.d (.sl 1 n fun i=>[.int .i64 (.v (g i))])),(1,.d (.sl 1 m fun i=>[.int .i64 (.v (h i))])),(5,.d (.int .i64 (.v (i:Int))))] 26,[],[]⟩) 0 ⟨by omega,by omega⟩ ?_ ?_
  ·exact le_mk rfl ⟨Like.refl _,Like.refl _,Like.int rfl,trivial⟩ (.nil _) (by omega) (.inr rfl) rfl
  ·intro i hi N hN
   cbv
   split
   ·rename_i hc1
    cbv
    refine req_i hS ?_ (req_i hS ?_ ?_)
    ·subst hS;simp[std] at hc1⊢;omega
    ·subst hS;simp[std] at hc1⊢;omega
    split
    ·rename_i hc2
     cbv
     subst hS
     simp[std] at hc2
     rw[←hr,decide_eq_false]
     ·exact fun _ _ _ _ h=>h
     ·simp[std] at hc1
      intro hh
      exact hc2 (hh.2 i hc1)
    ·rename_i hc2
     cbv
     refine req_i hS ?_ ?_
     ·subst hS;simp[std] at hc1;exact wrap64 (by simp[std];omega) (by simp[std];omega)
     ·refine hN (i+1) _ ?_ ?_ (le_mk rfl ⟨Like.refl _,Like.refl _,Like.int ?_,trivial⟩ (.nil _) (by omega) (.inr rfl) rfl)
      ·subst hS;simp[std] at hc1 hc2
       refine⟨by omega,fun j hj=> ?_⟩
       by_cases e:j=i
       ·subst e;exact hc2
       ·exact hi.2 j (by omega)
      ·subst hS;simp[std] at hc1;omega
      ·subst hS;simp[std]
   ·rename_i hc1
    cbv
    subst hS
    simp[std] at hc1
    rw[←hr,decide_eq_true]
    ·exact fun _ _ _ _ h=>h
    ·exact⟨hnm,fun j hj=>hi.2 j (by omega)⟩
end Go.Proofs.Tryz.Run
