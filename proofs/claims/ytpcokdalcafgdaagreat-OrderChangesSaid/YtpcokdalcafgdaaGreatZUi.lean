/- The reference's cost and widths of a family. Copies of families. Families: what is known of good ones; their cost and widths. Conditions: none. -/
import Derived.Test.YtpcokdalcafgdaaGreatZUf
set_option linter.unusedSimpArgs false
set_option linter.unusedVariables false
namespace Go.Proofs.Tryz.Run
open Go Go.Vf Go.Proofs
open Go.Proofs.YtpcokdalcafgdaaGreat
end Go.Proofs.Tryz.Run
set_option linter.unusedSimpArgs false
set_option linter.unusedVariables false
namespace Go.Proofs.Tryz.Run
open Go Go.Vf Go.Proofs
open Go.Proofs.YtpcokdalcafgdaaGreat
theorem ints76' {n:Nat}(hn:n≤1000000)(g:Nat→Int)(res:AV)(hres:res=isl n g):PureF Tryz.prog false 76 [isl n g] res:=by
 refine pureF_of_fn Tryz.mixed okP ok76 _ rfl fun E Sg hb hS=> ?_
 cases n with
 |zero=>
  cbv
  subst hres
  exact Like.nil0
 |succ n=>
  cbv
  refine req_i hS (i_le hS (show _≤1073741824 by omega)) (req_i hS (i_le hS (Nat.le_refl _)) ?_)
  subst hres
  exact Like.refl _
theorem ints76 {n:Nat}(hn:n≤1000000)(g:Nat→Int):PureF Tryz.prog false 76 [isl n g] (isl n g):=ints76' hn g _ rfl
theorem cells77' {n:Nat}(hn:n≤1000000)(e0:Nat→List DV)(res:AV)(hres:res= .d (.sl 2 n e0)):PureF Tryz.prog false 77 [.d (.sl 2 n e0)] res:=by
 refine pureF_of_fn Tryz.mixed okP ok77 _ rfl fun E Sg hb hS=> ?_
 cases n with
 |zero=>
  cbv
  subst hres
  exact Like.nil0
 |succ n=>
  cbv
  refine req_i hS (i_le hS (show _≤1073741824 by omega)) (req_i hS (i_le hS (Nat.le_refl _)) ?_)
  subst hres
  exact Like.refl _
theorem cells77 {n:Nat}(hn:n≤1000000)(e0:Nat→List DV):PureF Tryz.prog false 77 [.d (.sl 2 n e0)] (.d (.sl 2 n e0)):=cells77' hn e0 _ rfl
def d35 (ns no ne nn:Nat)(sz od:Nat→Int)(e3:Nat→List DV)(var:Nat→Int)(nk:Nat→Nat)(kid:Nat→Nat→Int)(root:Int):List AV:=
 [isl ns sz,isl no od,.d (.sl 2 ne e3),bsl nn var nk kid,int root]
set_option maxHeartbeats 4000000 in
set_option maxRecDepth 100000 in
theorem copy35 {ns no ne nn:Nat}(sz od:Nat→Int)(e3:Nat→List DV)(var:Nat→Int)(nk:Nat→Nat)(kid:Nat→Nat→Int)(root:Int)(h1:ns≤1000000)(h2:no≤1000000)(h3:ne≤1000000)(h4:nn≤1000000)(h5: ∀i,i<nn→nk i≤1000000):
 PureF Tryz.prog false 35 [.agg (d35 ns no ne nn sz od e3 var nk kid root)] (.agg (d35 ns no ne nn sz od e3 var nk kid root)):=by
 have q1:=ints76 h1 sz
 have q2:=ints76 h2 od
 have q3:=cells77 h3 e3
 have q4:=fun i hi=>ints76 (h5 i hi) (kid i)
 refine pureF_of_fn Tryz.mixed okP ok35 _ rfl fun E Sg hb hS=> ?_
 have e:=stdE hS
 cbv
 refine callb_i hS _ q1 ?_
 cbv
 refine callb_i hS _ q2 ?_
 cbv
 refine callb_i hS _ q3 ?_
 cbv
 refine loop_t Tryz.mixed okP hS (fun i=>i≤nn) (fun i=>nn-i)
  (fun i=>⟨mkTs [(1,.ptr 0 0),(2,.ptr 1 0),(3,.ptr 2 0),(4,int i)] 44,[.var (d35 ns no ne nn sz od e3 var nk kid root),.var [.d .nil,.d .nil,.d .nil,.d .nil,int 0],.var [isl ns sz,isl no od,.d (.sl 2 ne e3),.msl 3 2 none i false,int root],arB i var nk kid],[3]⟩)
  0 (by omega) ?_ ?_
 ·exact (Tame.gh 2 3 2 (fun _=>[]) rfl rfl).trans (Tame.le (le_mk rfl ⟨Like.refl _,Like.refl _,Like.refl _,lk_l rfl,trivial⟩
   (.cons (.refl _) (.cons (.var (.cons (Like.refl _) (.cons (Like.refl _) (.cons (Like.refl _) (.cons (Like.refl _) (.cons (lk_l rfl) .nil)))))) (.cons (.refl _) (.cons (LikeO.arrr rfl fun j hj=>by omega) (.nil _))))) (by simp;omega) (.inr rfl) rfl))
 ·intro i hi N hN
  cbv
  split
  ·rename_i h
   have hlt:i<nn:=t_ltN hS h
   cbv
   simp only[nat,e.toNat,Int.ofNat_eq_natCast,Int.toNat_natCast]
   refine req_i hS (i_inbN hS hlt) (req_i hS (i_inbN hS hlt) ?_)
   refine callb_i hS _ (q4 i hlt) ?_
   cbv
   refine req_i hS (i_same hS) (req_i hS trivial (req_i hS (i_leA hS (by omega)) (req_i hS (i_inc hS (by omega)) ?_)))
   refine hN (i+1) _ hlt (by omega) (Tame.le (le_mk rfl ⟨Like.refl _,Like.refl _,Like.refl _,v_inc hS,trivial⟩
    (.cons (.refl _) (.cons (.refl _) (.cons (.var (.cons (Like.refl _) (.cons (Like.refl _) (.cons (Like.refl _) (.cons (lk_msl1 hS) (.cons (Like.refl _) .nil)))))) (.cons (lkO_app hS (fun j hj=> .refl _) (.refl _)) (.nil _))))) (by simp;omega) (.inr rfl) rfl))
  ·rename_i h
   have hin:i=nn:=by have:=f_ltN hS h;omega
   cbv
   refine req_i hS (i_le hS (Nat.le_refl _)) ?_
   subst hin
   exact Like.refl _
set_option maxHeartbeats 4000000 in
set_option maxRecDepth 100000 in
theorem copy19 (n:Nat)(hn:n≤1000000)(l:Nat→DiR)(hl: ∀i,i<n→(l i).fit):PureF Tryz.prog false 19 [dsl n l] (dsl n l):=by
 have q:=fun i hi=>copy35 (l i).sz (l i).od (fun j=>((l i).en j).row) (l i).var (l i).nk (l i).kid (l i).root (hl i hi).ns (hl i hi).no (hl i hi).ne (hl i hi).nn (hl i hi).nk
 refine pureF_of_fn Tryz.mixed okP ok19 _ rfl fun E Sg hb hS=> ?_
 have e:=stdE hS
 cbv
 refine loop_t Tryz.mixed okP hS (fun i=>i≤n) (fun i=>n-i)
  (fun i=>⟨mkTs [(0,dsl n l),(3,.msl 0 5 none i false),(4,int i)] 20,[.arr 5 i fun i=>(l i).row],[0]⟩) 0 (by omega) ?_ ?_
 ·exact (Tame.gt 3 5 (fun _=>[]) rfl).trans (Tame.le (le_mk rfl ⟨Like.refl _,Like.refl _,lk_l rfl,trivial⟩
   (.cons (LikeO.arrr rfl fun j hj=>by omega) (.nil _)) (by simp;omega) (.inr rfl) rfl))
 ·intro i hi N hN
  cbv
  split
  ·rename_i h
   have hlt:i<n:=t_ltN hS h
   cbv
   simp only[nat,e.toNat,Int.ofNat_eq_natCast,Int.toNat_natCast]
   refine req_i hS (i_inbN hS hlt) ?_
   refine callb_i hS _ (q i hlt) ?_
   cbv
   refine req_i hS trivial (req_i hS (i_leA hS (by omega)) (req_i hS (i_inc hS (by omega)) ?_))
   exact hN (i+1) _ hlt (by omega) (Tame.le (le_mk rfl ⟨Like.refl _,lk_msl1 hS,v_inc hS,trivial⟩
    (.cons (lkO_app hS (fun j hj=> .refl _) (.refl _)) (.nil _)) (by simp;omega) (.inr rfl) rfl))
  ·rename_i h
   have hin:i=n:=by have:=f_ltN hS h;omega
   cbv
   refine req_i hS (i_le hS (Nat.le_refl _)) ?_
   subst hin
   exact Like.refl _
end Go.Proofs.Tryz.Run
set_option linter.unusedSimpArgs false
set_option linter.unusedVariables false
namespace Go.Proofs.Tryz.Run
open Go Go.Vf Go.Proofs
open Go.Proofs.YtpcokdalcafgdaaGreat
theorem onceE_all {α:Type}[DecidableEq α]{P:α→Prop}{l:List α}{x:α}(h: ∀b,b∈l→P b)(hx:P x): ∀b,b∈Law.onceE l x→P b:=fun b hb=>by
 unfold Law.onceE at hb
 split at hb
 ·exact h b hb
 ·simp at hb
  rcases hb with hb|rfl
  ·exact h b hb
  ·exact hx
theorem fam_ok {n:Nat}{l:Nat→DiR}(h:famErr n l 0):0<n∧ ∀i,i<n→diErr (l i)=0∧sameFr (l 0) (l i):=by
 rcases h with⟨_,h⟩|⟨hp,h⟩
 ·cases h
 ·refine⟨hp,fun i hi=> ?_⟩
  rcases h with⟨k,a,b,c,d⟩|⟨a,h⟩
  ·exact absurd d.symm c
  ·rcases h with⟨b,_⟩|⟨_,b⟩
   ·refine⟨a i hi,?_⟩
    cases i with
    |zero=>exact⟨rfl,rfl⟩
    |succ i=>exact b _ (by omega) hi
   ·cases b
structure DiOk (d:DiR):Prop where
 fr:frErr d.ns d.no d.sz d.od=0
 nn:d.nn≤6000
 loose:isLoose d
 dia:isDiaD d
theorem diErr_iff {d:DiR}(h:diErr d=0):DiOk d:=by
 obtain⟨h1,h2⟩:=diErr_ok h
 obtain⟨h3,h4,h5⟩:=looseErr_ok h1
 exact⟨h3,h4,h5,h2⟩
structure FamOk (n:Nat)(l:Nat→DiR):Prop where
 pos:0<n∧n≤8
 fit: ∀i,i<n→(l i).fit
 flt: ∀i,i<n→ ∀j,j<(l i).ne→0≤((l i).en j).fault
 di: ∀i,i<n→DiOk (l i)
 fr: ∀i,i<n→sameFr (l 0) (l i)
section
variable {n:Nat} {l:Nat→DiR}
theorem FamOk.err (h:FamOk n l):famErr n l 0:=by
 have hd: ∀i,i<n→diErr (l i)=0:=fun i hi=>by
  have:=h.di i hi
  unfold diErr looseErr
  rw[this.fr]
  simp[this.dia,this.loose,show¬6000<(l i).nn by have:=this.nn;omega]
 exact .inr ⟨h.pos.1,.inr ⟨hd,.inl ⟨fun i _ hi=>h.fr i hi,rfl⟩⟩⟩
theorem FamOk.mk' (hn:n≤8)(hf: ∀i,i<n→(l i).fit)(h0: ∀i,i<n→ ∀j,j<(l i).ne→0≤((l i).en j).fault)(h:famErr n l 0):FamOk n l:=
 ⟨⟨(fam_ok h).1,hn⟩,hf,h0,fun i hi=>diErr_iff ((fam_ok h).2 i hi).1,fun i hi=>((fam_ok h).2 i hi).2⟩
theorem open_any (hn:n≤8)(hf: ∀i,i<n→(l i).fit)(h0: ∀i,i<n→ ∀j,j<(l i).ne→0≤((l i).en j).fault)(hno: ∀i,i<n→(l i).no≤12)(r:Int)(hr:famErr n l r):
 ∃v,(∃a b c d:DV,v= .agg [.d a,.d b,.d c,.d d])∧(r=0→v=famAV n l (fun i=>(prod (l i).sz (l i).ns).toNat) (fun i j=>((l i).cell j).row) n)∧PureF Tryz.prog false 54 [dsl n l] (.tuple [v,int r]):=
 open54 n (by omega) l hf h0 hno _ (fun i hi h=>by
  have:=prod_pos (g:=(l i).sz) (n:=(l i).ns) fun j hj=>((frErr_ok (looseErr_ok (diErr_ok h).1).1).2.1 j hj).1
  omega) _ (fun i j=>rfl) r hr
end
end Go.Proofs.Tryz.Run
