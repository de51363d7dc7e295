/- The reference's cost and widths of a family. Copies of families. Families: what is known of good ones; their cost and widths. Conditions: none. -/
import Derived.Test.YtpcokdalcafgdaaGreatZUf
set_option linter.unusedSimpArgs false
set_option linter.unusedVariables false
namespace Go.Proofs.Tryz.Run
open Go Go.Vf Go.Proofs
open Go.Proofs.YtpcokdalcafgdaaGreat
end Go.Proofs.Tryz.Run
set_option linter.unusedSimpArgs false
set_option linter.unusedVariables false
namespace Go.Proofs.Tryz.Run
open Go Go.Vf Go.Proofs
open Go.Proofs.YtpcokdalcafgdaaGreat
theorem ints76' {n:Nat}(hn:n≤1000000)(g:Nat→Int)(res:AV)(hres:res=isl n g):PureF Tryz.prog false 76 [isl n g] res:=by
 refine pureF_of_fn Tryz.mixed okP ok76 _ rfl fun E Sg hb hS=> ?_
 cases n with
 |zero=>
  cbv
  subst hres
  exact Like.nil0
 |succ n=>
  cbv
  refine req_i hS (i_le hS (show _≤1073741824 by omega)) (req_i hS (i_le hS (Nat.le_refl _)) ?_)
  subst hres
  exact Like.refl _
theorem ints76 {n:Nat}(hn:n≤1000000)(g:Nat→Int):PureF Tryz.prog false 76 [isl n g] (isl n g):=ints76' hn g _ rfl
theorem cells77' {n:Nat}(hn:n≤1000000)(e0:Nat→List DV)(res:AV)(hres:res= .d (.sl 2 n e0)):PureF Tryz.prog false 77 [.d (.sl 2 n e0)] res:=by
 refine pureF_of_fn Tryz.mixed okP ok77 _ rfl fun E Sg hb hS=> ?_
 cases n with
 |zero=>
  cbv
  subst hres
  exact Like.nil0
 |succ n=>
  cbv
  refine req_i hS (i_le hS (show _≤1073741824 by omega)) (req_i hS (i_le hS (Nat.le_refl _)) ?_)
  subst hres
  exact Like.refl _
theorem cells77 {n:Nat}(hn:n≤1000000)(e0:Nat→List DV):PureF Tryz.prog false 77 [.d (.sl 2 n e0)] (.d (.sl 2 n e0)):=cells77' hn e0 _ rfl
def d35 (ns no ne nn:Nat)(sz od:Nat→Int)(e3:Nat→List DV)(var:Nat→Int)(nk:Nat→Nat)(kid:Nat→Nat→Int)(root:Int):List AV:=
 [isl ns sz,isl no od,.d (.sl 2 ne e3),bsl nn var nk kid,int root]
set_option maxHeartbeats 4000000 in
set_option maxRecDepth 100000 in
theorem copy35 {ns no ne nn:Nat}(sz od:Nat→Int)(e3:Nat→List DV)(var:Nat→Int)(nk:Nat→Nat)(kid:Nat→Nat→Int)(root:Int)(h1:ns≤1000000)(h2:no≤1000000)(h3:ne≤1000000)(h4:nn≤1000000)(h5: ∀i,i<nn→nk i≤1000000):
 PureF Tryz.prog false 35 [.agg (d35 ns no ne nn sz od e3 var nk kid root)] (.agg (d35 ns no ne nn sz od e3 var nk kid root)):=by
 have q1:=ints76 h1 sz
 have q2:=ints76 h2 od
 have q3:=cells77 h3 e3
 have q4:=fun i hi=>ints76 (h5 i hi) (kid i)
 refine pureF_of_fn Tryz.mixed okP ok35 _ rfl fun E Sg hb hS=> ?_
 have e:=stdE hS
 cbv
 refine callb_i hS _ q1 ?_
 cbv
 refine callb_i hS _ q2 ?_
 cbv
 refine callb_i hS _ q3 ?_
 cbv
 refine loop_t Tryz.mixed okP hS (fun i=>i≤nn) (fun i=>nn-i)
  (fun i=>⟨mkTs [(1,.ptr 0 0),(2,.ptr 1 0),(3,.ptr 2 0),(4,int i)] 44,[.var (d35 ns no ne nn sz od e3 var nk kid root),.var [.d .nil,.d .nil,.d .nil,.d .nil,int 0],.var [isl ns sz,isl no od,.d (.sl 2 ne e3),.msl 3 2 none i false,int root],arB i var nk kid],[3]⟩)
  0 (by omega) ?_ ?_
 ·exact (Tame.gh 2 3 2 (fun _=>[]) rfl rfl).trans (Tame.le (le_mk rfl ⟨Like.refl _,Like.refl _,Like.refl _,lk_l rfl,trivial⟩
   (.cons (.refl _) (.cons (.var (.cons (Like.refl _) (.cons (Like.refl _) (.cons (Like.refl _) (.cons (Like.refl _) (.cons (lk_l rfl) .nil)))))) (.cons (.refl _) (.cons (LikeO.arrr rfl fun j hj=>by omega) (.nil _))))) (by simp;omega) (.inr rfl) rfl))
 ·intro i hi N hN
  cbv
  split
  ·rename_i h
   have hlt:i<nn:=t_ltN hS h
   cbv
   simp only[nat,e.toNat,Int.ofNat_eq_natCast,Int.toNat_natCast]
   refine req_i hS (i_inbN hS hlt) (req_i hS (i_inbN hS hlt) ?_)
   refine callb_i hS _ (q4 i hlt) ?_
   cbv
   refine req_i hS (i_same hS) (req_i hS trivial (req_i hS (i_leA hS (by omega)) (req_i hS (i_inc hS (by omega)) ?_)))
   refine hN (i+1) _ hlt (by omega) (Tame.le (le_mk rfl ⟨Like.refl _,Like.refl _,Like.refl _,v_inc hS,trivial⟩
    (.cons (.refl _) (.cons (.refl _) (.cons (.var (.cons (Like.refl _) (.cons (Like.refl _) (.cons (Like.refl _) (.cons (lk_msl1 hS) (.cons (Like.refl _) .nil)))))) (.cons (lkO_app hS (fun j hj=> .refl _) (.refl _)) (.nil _))))) (by simp;omega) (.inr rfl) rfl))
  ·rename_i h
   have hin:i=nn:=by have:=f_ltN hS h;omega
   cbv
   refine req_i hS (i_le hS (Nat.le_refl _)) ?_
   subst hin
   exact Like.refl _
set_option maxHeartbeats 4000000 in
set_option maxRecDepth 100000 in
theorem copy19 (n:Nat)(hn:n≤1000000)(l:Nat→DiR)(hl: ∀i,i<n→(l i).fit):PureF Tryz.prog false 19 [dsl n l] (dsl n l):=by
 have q:=fun i hi=>copy35 (l i).sz (l i).od (fun j=>((l i).en j).row) (l i).var (l i).nk (l i).kid (l i).root (hl i hi).ns (hl i hi).no (hl i hi).ne (hl i hi).nn (hl i hi).nk
 refine pureF_of_fn Tryz.mixed okP ok19 _ rfl fun E Sg hb hS=> ?_
 have e:=stdE hS
 cbv
 refine loop_t Tryz.mixed okP hS (fun i=>i≤n) (fun i=>n-i)
  (fun i=>⟨mkTs [(0,dsl n l),(3,.msl 0 5 none i false),(4,int i)] 20,[.arr 5 i fun i=>(l i).row],[0]⟩) 0 (by omega) ?_ ?_
 ·exact (Tame.gt 3 5 (fun _=>[]) rfl).trans (Tame.le (le_mk rfl ⟨Like.refl _,Like.refl _,lk_l rfl,trivial⟩
   (.cons (LikeO.arrr rfl fun j hj=>by omega) (.nil _)) (by simp;omega) (.inr rfl) rfl))
 ·intro i hi N hN
  cbv
  split
  ·rename_i h
   have hlt:i<n:=t_ltN hS h
   cbv
   simp only[nat,e.toNat,Int.ofNat_eq_natCast,Int.toNat_natCast]
   refine req_i hS (i_inbN hS hlt) ?_
   refine callb_i hS _ (q i hlt) ?_
   cbv
   refine req_i hS trivial (req_i hS (i_leA hS (by omega)) (req_i hS (i_inc hS (by omega)) ?_))
   exact hN (i+1) _ hlt (by omega) (Tame.le (le_mk rfl ⟨Like.refl _,lk_msl1 hS,v_inc hS,trivial⟩
    (.cons (lkO_app hS (fun j hj=> .refl _) (.refl _)) (.nil _)) (by simp;omega) (.inr rfl) rfl))
  ·rename_i h
   have hin:i=n:=by have:=f_ltN hS h;omega
   cbv
   refine req_i hS (i_le hS (Nat.le_refl _)) ?_
   subst hin
   exact Like.refl _
end Go.Proofs.Tryz.Run
set_option linter.unusedSimpArgs false
set_option linter.unusedVariables false
namespace Go.Proofs.Tryz.Run
open Go Go.Vf Go.Proofs
open Go.Proofs.YtpcokdalcafgdaaGreat
theorem sumTo_congr {f g:Nat→Int}: ∀{n:Nat},(∀j,j<n→f j=g j)→sumTo f n=sumTo g n
 |0,_=>rfl
 |n+1,h=>by rw[sumTo,sumTo,sumTo_congr fun j hj=>h j (by omega),h n (by omega)]
theorem sumTo_add (f g:Nat→Int): ∀n,sumTo (fun j=>f j+g j) n=sumTo f n+sumTo g n
 |0=>rfl
 |n+1=>by rw[sumTo,sumTo,sumTo,sumTo_add f g n];omega
theorem sumTo_one (v:Nat): ∀n,sumTo (fun j=>if (v:Int)=(j:Int) then 1 else 0) n=if v<n then 1 else 0
 |0=>rfl
 |n+1=>by
  rw[sumTo,sumTo_one v n]
  by_cases h:v=n
  ·subst h;simp
  ·rw[if_neg (show¬(v:Int)=(n:Int) by omega)]
   by_cases h2:v<n
   ·rw[if_pos h2,if_pos (by omega)];rfl
   ·rw[if_neg h2,if_neg (by omega)];rfl
theorem sumTo_zero: ∀n,sumTo (fun _=>0) n=0
 |0=>rfl
 |n+1=>by rw[sumTo,sumTo_zero n];rfl
theorem cnt_cons (b:NdR)(l:List NdR)(j:Nat):cnt (b::l) j=cnt l j+if b.var=(j:Int) then 1 else 0:=by
 unfold cnt
 rw[List.filter_cons]
 by_cases h:b.var=(j:Int)
 ·simp[h]
 ·simp[h]
theorem sum_cnt {ns:Nat}: ∀{l:List NdR},(∀b,b∈l→0≤b.var∧b.var<ns)→sumTo (cnt l) ns=l.length
 |[],_=>sumTo_zero ns
 |b::l,h=>by
  have ih:=sum_cnt (l:=l) fun c hc=>h c (by simp[hc])
  have hb:=h b (by simp)
  obtain⟨v,hv⟩: ∃v:Nat,b.var=v:=⟨b.var.toNat,by omega⟩
  rw[sumTo_congr (g:=fun j=>cnt l j+if (v:Int)=(j:Int) then 1 else 0) fun j _=>by rw[cnt_cons,hv],sumTo_add,ih,sumTo_one,if_pos (by omega)]
  simp
theorem onceE_all {α:Type}[DecidableEq α]{P:α→Prop}{l:List α}{x:α}(h: ∀b,b∈l→P b)(hx:P x): ∀b,b∈Law.onceE l x→P b:=fun b hb=>by
 unfold Law.onceE at hb
 split at hb
 ·exact h b hb
 ·simp at hb
  rcases hb with hb|rfl
  ·exact h b hb
  ·exact hx
theorem diaW_all {P:NdR→Prop}(d:DiR)(hP: ∀i,i<d.nn→ ∀u,P ⟨d.var i,L (d.nk i) u⟩)(s:Num)(hs: ∀b,b∈s.on→P b): ∀i,i≤d.nn→ ∀b,b∈(diaW d s i).1.on→P b
 |0,_=>hs
 |i+1,h=>by
  rw[diaW]
  exact onceE_all (by rw[kidW_on];exact diaW_all d hP s hs i (by omega)) (hP i (by omega) _)
theorem famW_all {P:NdR→Prop}{l:Nat→DiR}{n:Nat}(hP: ∀m,m<n→ ∀i,i<(l m).nn→ ∀u,P ⟨(l m).var i,L ((l m).nk i) u⟩): ∀m,m≤n→ ∀b,b∈(famW l m).on→P b
 |0,_=>fun b hb=>by simp[famW] at hb
 |m+1,h=>diaW_all (l m) (hP m (by omega)) _ (famW_all hP m (by omega)) _ (Nat.le_refl _)
theorem cellOk.bd {v:VaR}(h:cellOk v)(h0:0≤v.fault):(0≤v.fault∧v.fault≤255)∧i64ok v.n:=by
 unfold cellOk at h
 unfold i64ok
 split at h<;>omega
theorem fam_ok {n:Nat}{l:Nat→DiR}(h:famErr n l 0):0<n∧ ∀i,i<n→diErr (l i)=0∧sameFr (l 0) (l i):=by
 rcases h with⟨_,h⟩|⟨hp,h⟩
 ·cases h
 ·refine⟨hp,fun i hi=> ?_⟩
  rcases h with⟨k,a,b,c,d⟩|⟨a,h⟩
  ·exact absurd d.symm c
  ·rcases h with⟨b,_⟩|⟨_,b⟩
   ·refine⟨a i hi,?_⟩
    cases i with
    |zero=>exact⟨rfl,rfl⟩
    |succ i=>exact b _ (by omega) hi
   ·cases b
structure DiOk (d:DiR):Prop where
 fr:frErr d.ns d.no d.sz d.od=0
 nn:d.nn≤6000
 loose:isLoose d
 dia:isDiaD d
theorem diErr_iff {d:DiR}(h:diErr d=0):DiOk d:=by
 obtain⟨h1,h2⟩:=diErr_ok h
 obtain⟨h3,h4,h5⟩:=looseErr_ok h1
 exact⟨h3,h4,h5,h2⟩
theorem DiOk.good {d:DiR}(h:DiOk d)(hf:d.fit):d.good d.ns d.sz:=
 ⟨h.nn,hf.ne,h.loose.kpos h.fr,fun j hj=>by
   obtain⟨⟨⟨a,b⟩,c⟩,_⟩:=h.loose.2.1 j hj
   exact⟨a,by omega,c⟩,h.loose.kids⟩
theorem DiR.good.frame {d:DiR}{ns ns':Nat}{sz sz':Nat→Int}(h:d.good ns sz)(e:L ns' sz'=L ns sz):d.good ns' sz':=by
 obtain⟨e1,e2⟩:=L_eq_iff.1 e
 refine⟨h.nn,h.ne,h.nk,fun j hj=> ?_,h.kid⟩
 obtain⟨a,b,c⟩:=h.var j hj
 exact⟨a,by omega,by rw[e2 _ (by omega)];exact c⟩
structure FamOk (n:Nat)(l:Nat→DiR):Prop where
 pos:0<n∧n≤8
 fit: ∀i,i<n→(l i).fit
 flt: ∀i,i<n→ ∀j,j<(l i).ne→0≤((l i).en j).fault
 di: ∀i,i<n→DiOk (l i)
 fr: ∀i,i<n→sameFr (l 0) (l i)
section
variable {n:Nat} {l:Nat→DiR}
theorem FamOk.good (h:FamOk n l): ∀i,i<n→(l i).good (l 0).ns (l 0).sz:=fun i hi=>((h.di i hi).good (h.fit i hi)).frame (h.fr i hi).1
theorem FamOk.cells (h:FamOk n l): ∀i,i<n→ ∀j,j<(l i).ne→(0≤((l i).en j).fault∧((l i).en j).fault≤255)∧i64ok ((l i).en j).n:=fun i hi j hj=>((h.di i hi).loose.1 j hj).bd (h.flt i hi j hj)
theorem FamOk.vars (h:FamOk n l): ∀b,b∈(famW l n).on→0≤b.var∧b.var<(l 0).ns:=
 famW_all (P:=fun b=>0≤b.var∧b.var<(l 0).ns) (n:=n) (fun m hm i hi u=>⟨((h.good m hm).var i hi).1,((h.good m hm).var i hi).2.1⟩) n (Nat.le_refl _)
theorem FamOk.len (h:FamOk n l):(famW l n).on.length≤48000:=by
 have:=(famW_len l (n:=n) (fun i hi=>⟨(h.good i hi).nn,fun j hj=>((h.good i hi).nk j hj).2⟩) n (Nat.le_refl _)).2
 have:=h.pos;omega
theorem FamOk.cost (h:FamOk n l):sumTo (cnt (famW l n).on) (l 0).ns=(famW l n).on.length:=sum_cnt h.vars
theorem FamOk.err (h:FamOk n l):famErr n l 0:=by
 have hd: ∀i,i<n→diErr (l i)=0:=fun i hi=>by
  have:=h.di i hi
  unfold diErr looseErr
  rw[this.fr]
  simp[this.dia,this.loose,show¬6000<(l i).nn by have:=this.nn;omega]
 exact .inr ⟨h.pos.1,.inr ⟨hd,.inl ⟨fun i _ hi=>h.fr i hi,rfl⟩⟩⟩
theorem FamOk.mk' (hn:n≤8)(hf: ∀i,i<n→(l i).fit)(h0: ∀i,i<n→ ∀j,j<(l i).ne→0≤((l i).en j).fault)(h:famErr n l 0):FamOk n l:=
 ⟨⟨(fam_ok h).1,hn⟩,hf,h0,fun i hi=>diErr_iff ((fam_ok h).2 i hi).1,fun i hi=>((fam_ok h).2 i hi).2⟩
theorem open_any (hn:n≤8)(hf: ∀i,i<n→(l i).fit)(h0: ∀i,i<n→ ∀j,j<(l i).ne→0≤((l i).en j).fault)(hno: ∀i,i<n→(l i).no≤12)(r:Int)(hr:famErr n l r):
 ∃v,(∃a b c d:DV,v= .agg [.d a,.d b,.d c,.d d])∧(r=0→v=famAV n l (fun i=>(prod (l i).sz (l i).ns).toNat) (fun i j=>((l i).cell j).row) n)∧PureF Tryz.prog false 54 [dsl n l] (.tuple [v,int r]):=
 open54 n (by omega) l hf h0 hno _ (fun i hi h=>by
  have:=prod_pos (g:=(l i).sz) (n:=(l i).ns) fun j hj=>((frErr_ok (looseErr_ok (diErr_ok h).1).1).2.1 j hj).1
  omega) _ (fun i j=>rfl) r hr
theorem FamOk.costs (h:FamOk n l)(r:Nat→Int)(hr: ∀j,j<(l 0).ns→r j=cnt (famW l n).on j):
 PureF Tryz.prog true 18 [dsl n l] (.tuple [int ((famW l n).on.length:Nat),int 0])∧PureF Tryz.prog false 20 [dsl n l] (.tuple [isl (l 0).ns r,int 0]):=by
 have hno: ∀i,i<n→(l i).no≤12:=fun i hi=>by have:=frErr_ok (h.di i hi).fr;have:=this.2.2.2.1;omega
 obtain⟨v,hv,hv0,hp⟩:=open_any h.pos.2 h.fit h.flt hno 0 h.err
 obtain rfl:=hv0 rfl
 have hn:=h.pos
 obtain⟨m,rfl⟩: ∃m,n=m+1:=⟨n-1,by omega⟩
 have h56:=widths56 (ns:=(l 0).ns) (no:=(l 0).no) (l 0).sz (l 0).od (m+1) (by omega) (by have:=(h.fit 0 h.pos.1).ns;omega) l h.good h.cells (fun i=>[.sl 2 ((prod (l i).sz (l i).ns).toNat) fun j=>((l i).cell j).row]) r hr
 have hlen:=h.len
 have h55:=cost55 (by have:=(h.fit 0 h.pos.1).ns;omega) _ _ _ _ r (fun j hj=>by have:=cnt_le (famW l (m+1)).on j;rw[hr j hj];omega) h56 ((famW l (m+1)).on.length:Nat) (by rw[←h.cost];exact sumTo_congr fun j hj=>(hr j hj).symm)
 exact⟨cost18 hp _ h55,widths20 (take57 hp _ h56)⟩
end
end Go.Proofs.Tryz.Run
