/- A family in another order: the program's. Numbers within bounds, orders of frames. The program's Change of a family. Conditions: none. -/
import Derived.Test.YtpcokdalcafgdaaGreatZXn
import Derived.Test.YtpcokdalcafgdaaGreatZSy
import Derived.Test.YtpcokdalcafgdaaGreatZUi
set_option linter.unusedSimpArgs false
set_option linter.unusedVariables false
namespace Go.Proofs.Tryz.Run
open Go Go.Vf Go.Proofs
open Go.Proofs.YtpcokdalcafgdaaGreat
def famOd (n:Nat)(l:Nat→DiR)(no:Nat)(od:Nat→Int)(T:Nat→Nat)(e:Nat→Nat→List DV):AV:=
 .agg [isl (l 0).ns (l 0).sz,isl no od,dsl n (chg l no od),cellsAV T e n]
section
variable {n:Nat} {l:Nat→DiR}
set_option maxHeartbeats 8000000 in
set_option maxRecDepth 100000 in
theorem in64 (h:FamOk n l){no:Nat}{od:Nat→Int}(hfr:frErr (l 0).ns no (l 0).sz od=0)(T:Nat→Nat)(hT: ∀i,i<n→(T i:Int)=prod (l i).sz (l i).ns)(e:Nat→Nat→List DV)(he: ∀i j,e i j=((l i).cell j).row):
 PureF Tryz.prog false 64 [famAV n l T e n,isl no od] (famOd n l no od T e):=by
 have h95: ∀i,i<n→PureF Tryz.prog false 95 [isl (l 0).ns (l 0).sz,isl no od,.d (.sl 2 (T i) (e i))] (.tuple [(chg l no od i).av,int 0]):=fun i hi=>by
  have:=h.of95 hfr (i:=i) hi
  rw[←hT i hi,Int.toNat_natCast] at this
  rw[show e i=fun j=>((l i).cell j).row from funext (he i)]
  exact this
 obtain⟨m,rfl⟩: ∃m,n=m+1:=⟨n-1,by have:=h.pos;omega⟩
 obtain⟨C,hC⟩: ∃C,chg l no od=C:=⟨_,rfl⟩
 unfold famOd
 simp only[hC] at h95⊢
 have hn8:=h.pos
 clear hfr h hC hT he
 obtain⟨w,hw⟩: ∃w,w=m+1:=⟨_,rfl⟩
 show PureF Tryz.prog false 64 [.agg [isl (l 0).ns (l 0).sz,isl (l 0).no (l 0).od,dsl (m+1) l,.d (.sl 1 (m+1) fun i=>[.sl 2 (T i) (e i)])],isl no od] (.agg [isl (l 0).ns (l 0).sz,isl no od,dsl (m+1) C,.d (.sl 1 (m+1) fun i=>[.sl 2 (T i) (e i)])])
 rw[←hw] at h95 hn8⊢
 clear hw
 refine pureF_of_fn Tryz.mixed okP ok64 _ rfl fun E Sg hb hS=> ?_
 have ee:=stdE hS
 cbv
 refine loop_t Tryz.mixed okP hS (fun i=>i≤w) (fun i=>w-i)
  (fun i=>⟨mkTs [(1,isl no od),(2,.ptr 0 0),(4,.ptr 1 0),(5,.ptr 2 0),(19,.d (.sl 1 w fun i=>[.sl 2 (T i) (e i)])),(20,int w),(21,int i)] 42,
    [.var [isl (l 0).ns (l 0).sz,.any,.any,.any],.var [.d .nil,.d .nil,.d .nil,.d .nil],.var [isl (l 0).ns (l 0).sz,isl no od,.msl 3 5 none i false,.d (.sl 1 w fun i=>[.sl 2 (T i) (e i)])],.arr 5 i fun i=>(C i).row],[3]⟩) 0 (by omega) ?_ ?_
 ·exact (Tame.gh 2 2 5 (fun _=>[]) rfl rfl).trans (Tame.le (le_mk rfl ⟨Like.refl _,Like.refl _,Like.refl _,Like.refl _,Like.refl _,lk_v ((stdE hS).ofNat _),lk_l rfl,trivial⟩
   (.cons (LikeO.var (.cons (Like.refl _) (.cons (.any _) (.cons (.any _) (.cons (.any _) .nil))))) (.cons (LikeO.refl _) (.cons (LikeO.refl _) (.cons (LikeO.arrr rfl fun j hj=>by omega) (.nil _))))) (by simp;omega) (.inr rfl) rfl))
 ·intro i hi N hN
  cbv
  split
  ·rename_i h
   have hlt:i<w:=Int.ofNat_lt.1 (t_lt hS h)
   cbv
   simp only[nat,ee.toNat,Int.ofNat_eq_natCast,Int.toNat_natCast]
   refine req_i hS (i_inbN hS hlt) ?_
   refine callb_i hS _ (h95 i hlt) ?_
   cbv
   refine req_i hS trivial (req_i hS (i_leA hS (by omega)) (req_i hS (i_inc hS (by omega)) ?_))
   exact hN (i+1) _ hlt (by omega) (Tame.le (le_mk rfl ⟨Like.refl _,Like.refl _,Like.refl _,Like.refl _,Like.refl _,Like.refl _,v_inc hS,trivial⟩
    (.cons (LikeO.var (.cons (Like.refl _) (.cons (.any _) (.cons (.any _) (.cons (.any _) .nil))))) (.cons (LikeO.refl _) (.cons (LikeO.var (.cons (Like.refl _) (.cons (Like.refl _) (.cons (lk_msl1 hS) (.cons (Like.refl _) .nil))))) (.cons (lkO_app hS (fun j hj=> .refl _) (.refl _)) (.nil _))))) (by simp;omega) (.inl ⟨rfl,rfl⟩) rfl))
  ·rename_i h
   have hin:i=w:=by have:=Int.ofNat_le.1 (f_lt hS h);omega
   subst hin
   cbv
   exact req_i hS (i_le hS (Nat.le_refl _)) fun _ _ _ _ h=>h
end
end Go.Proofs.Tryz.Run
set_option linter.unusedSimpArgs false
set_option linter.unusedVariables false
namespace Go.Proofs.Tryz.Run
open Go Go.Vf Go.Proofs
open Go.Proofs.YtpcokdalcafgdaaGreat
theorem isOrder79 {n m k:Nat}(hn:n≤1000000)(hm:m≤12)(g h o1:Nat→Int)(r:Bool)(hr:r=true↔frErr n m g h=0):PureF Tryz.prog true 79 [.agg [isl n g,isl k o1],isl m h] (bool r):=by
 have h1:=checkFrame109 hn hm g h _ rfl
 generalize frErr n m g h=z at h1 hr
 refine pure_bool (pureF_of_fn Tryz.mixed okP ok79 _ rfl fun E Sg hb hS=> ?_)
 cbv
 refine callb_i hS _ h1 ?_
 cbv
 refine lk_bool ?_
 subst hS
 simp[std]
 cases r<;>simp at* <;>omega
theorem in108 (a lo up:Int)(H:List AObj)(r:Bool)(hr:r=true↔lo≤a∧a≤up):ACall Tryz.prog 108 [int a,.ptr 0 0,.ptr 1 0] (.var [int lo]:: .var [int up]::H) (ro (.var [int lo]:: .var [int up]::H) (bool r)):=by
 refine acall_ro Tryz.mixed okP ok108 _ rfl fun E Sg hb hS=> ?_
 cbv
 repeat' (split<;>cbv)
 all_goals
  refine ro_leaf (lk_bool ?_) (.same _) (.inr rfl)
  subst hS
  simp[std] at*
  cases r<;>simp at* <;>omega
def h107 (lo up:Int):List AObj:=[.var [int lo],.var [int up],.var [.fn 108 [] [.ptr 0 0,.ptr 1 0]]]
theorem in148 (a lo up:Int)(r:Bool)(hr:r=true↔ ¬(lo≤a∧a≤up)):ACall Tryz.prog 148 [int a,.ptr 2 0] (h107 lo up) (ro (h107 lo up) (bool r)):=by
 have h1:=in108 a lo up [.var [.fn 108 [] [.ptr 0 0,.ptr 1 0]]] (!r) (by cases r<;>simp at* <;>omega)
 refine acall_ro Tryz.mixed okP ok148 _ rfl fun E Sg hb hS=> ?_
 cbv
 refine call_ro hS h1 ?_
 cases r<;>cbv<;>exact ro_leaf (lk_bool rfl) (.same _) (.inr rfl)
theorem every107 (lo up:Int){n:Nat}(hn:n≤1000000)(g:Nat→Int)(r:Bool)(hr:r=true↔ ∀i,i<n→lo≤g i∧g i≤up):
 ACall Tryz.prog 107 [isl n g,.fn 108 [] [.ptr 0 0,.ptr 1 0]] [.var [int lo],.var [int up]] (ro [.var [int lo],.var [int up]] (bool r)):=by
 have h1:=contains143p hn g (h107 lo up) 148 2 (fun i=>decide (¬(lo≤g i∧g i≤up))) (fun i _=>in148 (g i) lo up _ decide_eq_true_iff) (!r) (by
  cases r
  ·have hr: ¬ ∀i,i<n→lo≤g i∧g i≤up:=fun h=>Bool.noConfusion (hr.2 h)
   simp only[Bool.not_false,decide_eq_true_eq,true_iff]
   exact Classical.byContradiction fun h=>hr fun i hi=>Classical.byContradiction fun h'=>h ⟨i,hi,h'⟩
  ·have hr:=hr.1 rfl
   simp only[Bool.not_true,decide_eq_true_eq,Bool.false_eq_true,false_iff]
   rintro⟨i,hi,h⟩
   exact h (hr i hi))
 refine acall_ro Tryz.mixed okP ok107 _ rfl fun E Sg hb hS=> ?_
 cbv
 refine call_ro hS h1 ?_
 cases r<;>cbv<;>exact ro_leaf (lk_bool rfl) (.cons (.refl _) (.cons (.refl _) (.nil _))) (.inl ⟨rfl,rfl⟩)
theorem within78 (lo up:Int){n:Nat}(hn:n≤1000000)(g:Nat→Int)(r:Bool)(hr:r=true↔ ∀i,i<n→lo≤g i∧g i≤up):PureF Tryz.prog true 78 [int lo,int up,isl n g] (bool r):=by
 have h1:=every107 lo up hn g r hr
 refine pure_bool (pureF_of_fn Tryz.mixed okP ok78 _ rfl fun E Sg hb hS=> ?_)
 cbv
 refine call_ro hS h1 ?_
 cbv
 exact Like.refl _
theorem within78o (lo up x:Int)(r:Bool)(hr:r=true↔lo≤x∧x≤up):PureF Tryz.prog true 78 [int lo,int up,.d (.sl 1 1 (Vf.rowAt [[.int .i64 (.v x)]]))] (bool r):=
 PureF.like (.cons (Like.refl _) (.cons (Like.refl _) (.cons likes_one .nil))) (within78 lo up (by omega) (fun _=>x) r (by rw[hr];exact⟨fun h _ _=>h,fun h=>h 0 (by omega)⟩))
theorem within78t (lo up x y:Int)(r:Bool)(hr:r=true↔(lo≤x∧x≤up)∧lo≤y∧y≤up):PureF Tryz.prog true 78 [int lo,int up,.d (.sl 1 2 (Vf.rowAt [[.int .i64 (.v x)],[.int .i64 (.v y)]]))] (bool r):=
 PureF.like (.cons (Like.refl _) (.cons (Like.refl _) (.cons (likes_two (x:=x) (y:=y)) .nil))) (within78 lo up (by omega) (two x y) r (by
  rw[hr]
  exact⟨fun h i hi=>match i,hi with|0,_=>h.1|1,_=>h.2,fun h=>⟨h 0 (by omega),h 1 (by omega)⟩⟩))
end Go.Proofs.Tryz.Run
set_option linter.unusedSimpArgs false
set_option linter.unusedVariables false
namespace Go.Proofs.Tryz.Run
open Go Go.Vf Go.Proofs
open Go.Proofs.YtpcokdalcafgdaaGreat
section
variable {n:Nat} {e0:Nat→List DV} {v:AV} {r:Int}
theorem change40e (hv: ∃a b c d:DV,v= .agg [.d a,.d b,.d c,.d d])(h54:PureF Tryz.prog false 54 [.d (.sl 5 n e0)] (.tuple [v,int r]))(hr:r≠0)(m:Nat)(od:Nat→Int):
 PureF Tryz.prog false 40 [.d (.sl 5 n e0),isl m od] (.tuple [.d .nil,int r]):=by
 obtain⟨a,b,c,d,rfl⟩:=hv
 refine pureF_of_fn Tryz.mixed okP ok40 _ rfl fun E Sg hb hS=> ?_
 cbv
 refine callb_i hS _ h54 ?_
 cbv
 split
 ·cbv
  exact Likes.tuple (.cons (Like.refl _) (.cons (Like.refl _) .nil))
 ·rename_i h;exact absurd (f_ne hS h) hr
theorem change40n {ns no q k m:Nat}{sz o1 od:Nat→Int}{e3 e4:Nat→List DV}(h54:PureF Tryz.prog false 54 [.d (.sl 5 n e0)] (.tuple [.agg [isl ns sz,isl no o1,.d (.sl 5 q e3),.d (.sl 1 k e4)],int 0]))
 (h79:PureF Tryz.prog true 79 [.agg [isl ns sz,isl no o1],isl m od] (bool false)):
 PureF Tryz.prog false 40 [.d (.sl 5 n e0),isl m od] (.tuple [.d .nil,int 4]):=by
 refine pureF_of_fn Tryz.mixed okP ok40 _ rfl fun E Sg hb hS=> ?_
 cbv
 refine callb_i hS _ h54 ?_
 cbv
 split
 ·rename_i h;exact absurd rfl (t_ne hS h)
 cbv
 refine callb_i hS _ h79 ?_
 cbv
 exact Likes.tuple (.cons (Like.refl _) (.cons (lk_l rfl) .nil))
theorem change40y {ns no q k m x:Nat}{sz o1 od:Nat→Int}{e3 e4 e5:Nat→List DV}{d1 d2 d4:DV}(h54:PureF Tryz.prog false 54 [.d (.sl 5 n e0)] (.tuple [.agg [isl ns sz,isl no o1,.d (.sl 5 q e3),.d (.sl 1 k e4)],int 0]))
 (h79:PureF Tryz.prog true 79 [.agg [isl ns sz,isl no o1],isl m od] (bool true))
 (h64:PureF Tryz.prog false 64 [.agg [isl ns sz,isl no o1,.d (.sl 5 q e3),.d (.sl 1 k e4)],isl m od] (.agg [.d d1,.d d2,.d (.sl 5 x e5),.d d4])):
 PureF Tryz.prog false 40 [.d (.sl 5 n e0),isl m od] (.tuple [.d (.sl 5 x e5),int 0]):=by
 refine pureF_of_fn Tryz.mixed okP ok40 _ rfl fun E Sg hb hS=> ?_
 cbv
 refine callb_i hS _ h54 ?_
 cbv
 split
 ·rename_i h;exact absurd rfl (t_ne hS h)
 cbv
 refine callb_i hS _ h79 ?_
 cbv
 refine callb_i hS _ h64 ?_
 cbv
 exact Likes.tuple (.cons (Like.refl _) (.cons (lk_l rfl) .nil))
end
section
variable {n:Nat} {l:Nat→DiR}
theorem FamOk.no (h:FamOk n l): ∀i,i<n→(l i).no≤12:=fun i hi=>by have:=frErr_ok (h.di i hi).fr;have:=this.2.2.2.1;omega
theorem FamOk.open54 (h:FamOk n l):PureF Tryz.prog false 54 [dsl n l] (.tuple [famAV n l (fun i=>(prod (l i).sz (l i).ns).toNat) (fun i j=>((l i).cell j).row) n,int 0]):=by
 obtain⟨v,hv,hv0,hp⟩:=open_any h.pos.2 h.fit h.flt h.no 0 h.err
 obtain rfl:=hv0 rfl
 exact hp
theorem FamOk.in64 (h:FamOk n l){no:Nat}{od:Nat→Int}(hfr:frErr (l 0).ns no (l 0).sz od=0):
 PureF Tryz.prog false 64 [famAV n l (fun i=>(prod (l i).sz (l i).ns).toNat) (fun i j=>((l i).cell j).row) n,isl no od] (famOd n l no od (fun i=>(prod (l i).sz (l i).ns).toNat) fun i j=>((l i).cell j).row):=
 Run.in64 h hfr _ (fun i hi=>(h.di i hi).T) _ fun _ _=>rfl
theorem change40 (h:FamOk n l){m:Nat}(hm:m≤12)(od:Nat→Int):
 (frErr (l 0).ns m (l 0).sz od≠0→PureF Tryz.prog false 40 [dsl n l,isl m od] (.tuple [.d .nil,int 4]))∧
 (frErr (l 0).ns m (l 0).sz od=0→PureF Tryz.prog false 40 [dsl n l,isl m od] (.tuple [dsl n (chg l m od),int 0])):=by
 have h54:=h.open54
 have hk: ∀z:Bool,(z=true↔frErr (l 0).ns m (l 0).sz od=0)→PureF Tryz.prog true 79 [.agg [isl (l 0).ns (l 0).sz,isl (l 0).no (l 0).od],isl m od] (bool z):=isOrder79 (by have:=(h.fit 0 h.pos.1).ns;omega) hm (l 0).sz od (l 0).od
 refine⟨fun hf=> ?_,fun hf=> ?_⟩
 ·have h79:=hk false (by simpa using hf)
  obtain⟨w,rfl⟩: ∃w,n=w+1:=⟨n-1,by have:=h.pos;omega⟩
  exact change40n h54 h79
 ·have h79:=hk true (by simpa using hf)
  have h64:=h.in64 hf
  obtain⟨w,rfl⟩: ∃w,n=w+1:=⟨n-1,by have:=h.pos;omega⟩
  exact change40y h54 h79 h64
end
end Go.Proofs.Tryz.Run
