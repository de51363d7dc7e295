/- The way of a place in a loose diagram. All places of a frame, in their order: the plain law. The program's walk through all places. The program's test that all diagrams of a family have the frame. Conditions: none. -/
import Derived.Test.YtpcokdalcafgdaaGreatZSq
import Derived.Test.YtpcokdalcafgdaaGreatZLq
import Derived.Test.YtpcokdalcafgdaaGreatZSd
import Derived.Test.YtpcokdalcafgdaaGreatZSg
set_option linter.unusedSimpArgs false
set_option linter.unusedVariables false
namespace Go.Proofs.Tryz.Run
open Go Go.Vf Go.Proofs
open Go.Proofs.YtpcokdalcafgdaaGreat
def wayF (d:DiR)(pl:Nat→Int):Nat→Int→Int
 |0,k=>k
 |f+1,k=>if k<0 then k else wayF d pl f (d.kid k.toNat (pl (d.var k.toNat).toNat).toNat)
def wayE (d:DiR)(pl:Nat→Int)(k:Int):Int:=wayF d pl (k.toNat+1) k
def isPl (d:DiR)(pl:Nat→Int):Prop:= ∀j,j<d.ns→0≤pl j∧pl j<d.sz j
theorem next_ok {d:DiR}(hl:isLoose d){pl:Nat→Int}(hp:isPl d pl){k:Nat}(hk:k<d.nn):
 (0≤d.var k∧d.var k<d.ns)∧(0≤pl (d.var k).toNat∧pl (d.var k).toNat<(d.nk k:Int))∧refOk d.ne (d.kid k (pl (d.var k).toNat).toNat) k:=by
 obtain⟨⟨⟨a,b⟩,c⟩,e⟩:=hl.2.1 k hk
 have h1:=hp (d.var k).toNat (by omega)
 rw[←c] at h1
 exact⟨⟨a,by omega⟩,h1,isRef_ok (e _ (by omega)).1⟩
theorem wayF_any {d:DiR}(hl:isLoose d){pl:Nat→Int}(hp:isPl d pl): ∀(f:Nat) (k:Int),k<f→k<d.nn→wayF d pl f k=wayE d pl k:=by
 have key: ∀(m:Nat) (f f':Nat) (k:Int),k<m→k<f→k<f'→k<d.nn→wayF d pl f k=wayF d pl f' k:=by
  intro m
  induction m with
  |zero=>
   intro f f' k hm hf hf' hn
   have:k<0:=by omega
   cases f<;>cases f'<;>simp[wayF,this]
  |succ m ih=>
   intro f f' k hm hf hf' hn
   by_cases h0:k<0
   ·cases f<;>cases f'<;>simp[wayF,h0]
   ·obtain⟨i,rfl⟩: ∃i:Nat,k=i:=⟨k.toNat,by omega⟩
    obtain⟨g,rfl⟩: ∃g,f=g+1:=⟨f-1,by omega⟩
    obtain⟨g',rfl⟩: ∃g,f'=g+1:=⟨f'-1,by omega⟩
    have hi:i<d.nn:=by omega
    have h1:=(next_ok hl hp hi).2.2
    simp only[wayF,if_neg h0,Int.toNat_natCast]
    have hlt:d.kid i (pl (d.var i).toNat).toNat<i:=by
     rcases Int.lt_or_le (d.kid i (pl (d.var i).toNat).toNat) 0 with h|h
     ·omega
     ·exact h1.1 h
    exact ih g g' _ (by omega) (by omega) (by omega) (by omega)
 intro f k hf hn
 exact key (k.toNat+1) f (k.toNat+1) k (by omega) hf (by omega) hn
theorem wayE_step {d:DiR}(hl:isLoose d){pl:Nat→Int}(hp:isPl d pl){i:Nat}(hi:i<d.nn):wayE d pl i=wayE d pl (d.kid i (pl (d.var i).toNat).toNat):=by
 have h1:=(next_ok hl hp hi).2.2
 have hlt:d.kid i (pl (d.var i).toNat).toNat<i:=by
  rcases Int.lt_or_le (d.kid i (pl (d.var i).toNat).toNat) 0 with h|h
  ·omega
  ·exact h1.1 h
 rw[←wayF_any hl hp i _ hlt (by omega)]
 unfold wayE
 rw[Int.toNat_natCast,wayF,if_neg (by omega)]
 simp only[Int.toNat_natCast]
theorem wayE_end {d:DiR}{pl:Nat→Int}{k:Int}(h:k<0):wayE d pl k=k:=by
 unfold wayE
 rw[wayF,if_pos h]
theorem nop161 (x:Int):ACall Tryz.prog 161 [int x] [] (fun pg v h'=>pg=[]∧h'=[]):=by
 refine acall_c Tryz.mixed okP ok161 rfl fun E Sg hb hS F hF=> ?_
 cbv
 exact⟨[],by simp,hF (.nil _) (Like.refl _) (by simp) (.inr rfl) ⟨rfl,rfl⟩⟩
set_option maxHeartbeats 8000000 in
theorem way160 (d:DiR)(hl:isLoose d)(hf:d.fit)(pl:Nat→Int)(hp:isPl d pl):refOk d.ne (wayE d pl d.root) 0∧PureF Tryz.prog true 160 [d.lav,isl d.ns pl,.fn 161 [] []] (int (-1-wayE d pl d.root)):=by
 have hro:=isRef_ok hl.2.2
 have hnx:=fun k hk=>next_ok hl hp (k:=k) hk
 have hst:=fun i hi=>wayE_step hl hp (i:=i) hi
 have hwe: ∀k:Int,refOk d.ne k d.nn→wayE d pl k<0∧ -1-wayE d pl k<d.ne:=by
  have: ∀(m:Nat) (k:Int),k<m→refOk d.ne k d.nn→wayE d pl k<0∧ -1-wayE d pl k<d.ne:=by
   intro m
   induction m with
   |zero=>intro k hm hr;rw[wayE_end (by omega)];exact⟨by omega,hr.2 (by omega)⟩
   |succ m ih=>
    intro k hm hr
    by_cases h0:k<0
    ·rw[wayE_end h0];exact⟨h0,hr.2 h0⟩
    ·obtain⟨i,rfl⟩: ∃i:Nat,k=i:=⟨k.toNat,by omega⟩
     have hi:i<d.nn:=by have:=hr.1 (by omega);omega
     rw[hst i hi]
     have h1:=(hnx i hi).2.2
     refine ih _ ?_ ⟨fun h=>by have:=h1.1 h;omega,h1.2⟩
     rcases Int.lt_or_le (d.kid i (pl (d.var i).toNat).toNat) 0 with h|h
     ·omega
     ·have:=h1.1 h;omega
  intro k hr
  exact this (k.toNat+1) k (by omega) hr
 have hw:=hwe d.root hro
 refine⟨⟨fun h=>by omega,fun _=>hw.2⟩,?_⟩
 have hne:=hf.ne
 have hnn:=hf.nn
 have hend:=end171 (wayE d pl d.root) (by omega) (by omega)
 obtain⟨W,hW⟩: ∃W,W=wayE d pl d.root:=⟨_,rfl⟩
 rw[←hW] at hw hend⊢
 have hlast: ∀k:Int,k<0→wayE d pl k=W→k=W:=fun k h e=>by rw[wayE_end h] at e;exact e
 obtain⟨Y,hY⟩: ∃Y:Int→Int,∀k,wayE d pl k=Y k:=⟨_,fun _=>rfl⟩
 simp only[hY] at hst hlast hW
 clear hwe hY hl hp hf
 obtain⟨ns,sz,no,od,ne,en,nn,var,nk,kid,root⟩:=d
 simp only at hnx hst hW hro
 refine pure_int (pureF_of_fn Tryz.mixed okP ok160 _ rfl fun E Sg hb hS=> ?_)
 have ett: ∀z,Sg.toNat z=z.toNat:=by subst hS;exact fun _=>rfl
 cbv
 refine loop_i Tryz.mixed okP hS (σ:=Int) (fun k=>refOk ne k nn∧Y k=W) (fun k=>(k+1).toNat)
  (fun k=>⟨mkTs [(1,isl ns pl),(2,.fn 161 [] []),(3,.ptr 0 0),(7,int k)] 37,[.var [isl ns sz,isl no od,isl ns sz,isl no od,vsl ne en,bsl nn var nk kid,int root]],[]⟩) root ⟨hro,hW.symm⟩ ?_ ?_
 ·exact le_mk rfl ⟨Like.refl _,Like.refl _,Like.refl _,Like.refl _,trivial⟩ (.cons (.refl _) (.nil _)) (by simp;omega) (.inr rfl) rfl
 ·rintro k ⟨hk1,hk2⟩ N hN
  cbv
  split
  ·have h0:0≤k:=by clear hN hend;subst hS;simp[std] at*;assumption
   obtain⟨i,rfl⟩: ∃i:Nat,k=i:=⟨k.toNat,by omega⟩
   have hi:i<nn:=Int.ofNat_lt.1 (hk1.1 (Int.natCast_nonneg i))
   obtain⟨n1,n2,n3⟩:=hnx i hi
   cbv
   refine call_c hS (ACall.frame (nop161 i) [] rfl rfl trivial) ?_
   rintro pg v H' ⟨pg0,v0,h0',⟨rfl,rfl⟩,rfl,rfl,rfl⟩
   cbv
   refine req_i hS (by clear hN hend;subst hS;exact⟨Int.natCast_nonneg i,Int.ofNat_lt.2 hi⟩) ?_
   refine req_i hS (by clear hN hend;subst hS;exact⟨Int.natCast_nonneg i,Int.ofNat_lt.2 hi⟩) ?_
   simp only[nat,ett,Int.ofNat_eq_natCast,Int.toNat_natCast]
   refine req_i hS (by clear hN hend;subst hS;exact n1) ?_
   refine req_i hS (by clear hN hend;subst hS;exact n2) ?_
   refine hN (kid i (pl (var i).toNat).toNat) _ ⟨⟨fun h=>Int.lt_trans (n3.1 h) (Int.ofNat_lt.2 hi),n3.2⟩,by rw[←hst i hi];exact hk2⟩ ?_ (le_mk rfl ⟨Like.refl _,Like.refl _,Like.refl _,Like.refl _,trivial⟩ (.cons (.refl _) (.nil _)) (by simp;omega) (.inr rfl) rfl)
   rcases Int.lt_or_le (kid i (pl (var i).toNat).toNat) 0 with h|h
   ·omega
   ·have:=n3.1 h;omega
  ·have h0:k<0:=by clear hN hend;subst hS;simp[std] at*;omega
   have hkW:=hlast k h0 hk2
   subst hkW
   cbv
   refine callb_i hS _ (by subst hS;exact hend) ?_
   cbv
   exact Like.refl _
end Go.Proofs.Tryz.Run
set_option linter.unusedSimpArgs false
set_option linter.unusedVariables false
namespace Go.Proofs.Tryz.Run
open Go Go.Vf Go.Proofs
open Go.Proofs.YtpcokdalcafgdaaGreat
def setAt (pl:Nat→Int)(k:Nat)(z:Int):Nat→Int:=fun j=>if j=k then z else pl j
def carry (sz:Nat→Int):Nat→(Nat→Int)→Option (Nat→Int)
 |0,_=>none
 |k+1,pl=>if pl k=sz k-1 then carry sz k (setAt pl k 0) else some (setAt pl k (pl k+1))
def valP (sz pl:Nat→Int):Nat→Int
 |0=>0
 |k+1=>valP sz pl k*sz k+pl k
def okP' (sz pl:Nat→Int)(n:Nat):Prop:= ∀j,j<n→0≤pl j∧pl j<sz j
theorem valP_congr {sz pl pl':Nat→Int}: ∀{k:Nat},(∀j,j<k→pl j=pl' j)→valP sz pl k=valP sz pl' k
 |0,_=>rfl
 |k+1,h=>by rw[valP,valP,valP_congr fun j hj=>h j (by omega),h k (by omega)]
theorem valP_bound {sz pl:Nat→Int}: ∀{n:Nat},okP' sz pl n→0≤valP sz pl n∧valP sz pl n<prod sz n
 |0,_=>by simp[valP,prod]
 |n+1,h=>by
  have h1:=valP_bound (n:=n) fun j hj=>h j (by omega)
  have h2:=h n (by omega)
  rw[valP,prod]
  have a:0≤valP sz pl n*sz n:=Int.mul_nonneg h1.1 (by omega)
  have b:(valP sz pl n+1)*sz n≤prod sz n*sz n:=Int.mul_le_mul_of_nonneg_right (by omega) (by omega)
  rw[Int.add_mul] at b
  omega
theorem carry_some {sz:Nat→Int}: ∀{k:Nat} {pl pl':Nat→Int},okP' sz pl k→carry sz k pl=some pl'→valP sz pl' k=valP sz pl k+1∧okP' sz pl' k∧ ∀j,k≤j→pl' j=pl j
 |0,_,_,_,h=>by simp[carry] at h
 |k+1,pl,pl',hp,h=>by
  rw[carry] at h
  have hk:=hp k (by omega)
  split at h
  ·rename_i he
   have h1:=carry_some (k:=k) (pl:=setAt pl k 0) (fun j hj=>by simp only[setAt];rw[if_neg (by omega)];exact hp j (by omega)) h
   have e0:pl' k=0:=by rw[h1.2.2 k (Nat.le_refl k)];simp[setAt]
   have ev:valP sz (setAt pl k 0) k=valP sz pl k:=valP_congr fun j hj=>by simp only[setAt];rw[if_neg (by omega)]
   refine⟨?_,fun j hj=> ?_,fun j hj=> ?_⟩
   ·rw[valP,valP,h1.1,ev,e0,Int.add_mul];omega
   ·by_cases e:j=k
    ·subst e;rw[e0];omega
    ·exact h1.2.1 j (by omega)
   ·rw[h1.2.2 j (by omega)];simp only[setAt];rw[if_neg (by omega)]
  ·rename_i he
   cases h
   have ev:valP sz (setAt pl k (pl k+1)) k=valP sz pl k:=valP_congr fun j hj=>by simp only[setAt];rw[if_neg (by omega)]
   refine⟨?_,fun j hj=> ?_,fun j hj=> ?_⟩
   ·rw[valP,valP,ev];simp only[setAt,if_pos];omega
   ·simp only[setAt]
    by_cases e:j=k
    ·subst e;rw[if_pos rfl];omega
    ·rw[if_neg e];exact hp j (by omega)
   ·simp only[setAt];rw[if_neg (by omega)]
theorem carry_none {sz:Nat→Int}: ∀{k:Nat} {pl:Nat→Int},okP' sz pl k→carry sz k pl=none→valP sz pl k=prod sz k-1
 |0,_,_,_=>by simp[valP,prod]
 |k+1,pl,hp,h=>by
  rw[carry] at h
  have hk:=hp k (by omega)
  split at h
  ·rename_i he
   have h1:=carry_none (k:=k) (pl:=setAt pl k 0) (fun j hj=>by simp only[setAt];rw[if_neg (by omega)];exact hp j (by omega)) h
   have ev:valP sz (setAt pl k 0) k=valP sz pl k:=valP_congr fun j hj=>by simp only[setAt];rw[if_neg (by omega)]
   rw[ev] at h1
   rw[valP,prod,h1,he,Int.sub_mul]
   omega
  ·cases h
def seqP (sz:Nat→Int)(n:Nat):Nat→(Nat→Int)
 |0=>fun _=>0
 |p+1=>(carry sz n (seqP sz n p)).getD (seqP sz n p)
theorem valP_zero {sz:Nat→Int}: ∀n,valP sz (fun _=>0) n=0
 |0=>rfl
 |n+1=>by rw[valP,valP_zero n];simp
theorem seqP_ok {sz:Nat→Int}{n:Nat}(hs: ∀j,j<n→1≤sz j): ∀p:Nat,(p:Int)<prod sz n→okP' sz (seqP sz n p) n∧valP sz (seqP sz n p) n=p
 |0,_=>⟨fun j hj=>by have:=hs j hj;simp only[seqP];omega,valP_zero n⟩
 |p+1,h=>by
  obtain⟨h1,h2⟩:=seqP_ok hs p (by omega)
  cases hc:carry sz n (seqP sz n p) with
  |none=>
   have:=carry_none h1 hc
   omega
  |some q=>
   have h3:=carry_some h1 hc
   rw[seqP,hc]
   exact⟨h3.2.1,by simp only[Option.getD];rw[h3.1,h2];omega⟩
theorem seqP_next {sz:Nat→Int}{n:Nat}(hs: ∀j,j<n→1≤sz j){p:Nat}(h:(p:Int)<prod sz n):
 (∀q,carry sz n (seqP sz n p)=some q→seqP sz n (p+1)=q∧((p+1:Nat):Int)<prod sz n)∧(carry sz n (seqP sz n p)=none→((p+1:Nat):Int)=prod sz n):=by
 obtain⟨h1,h2⟩:=seqP_ok hs p h
 constructor
 ·intro q hc
  have h3:=carry_some h1 hc
  have h4:=valP_bound h3.2.1
  refine⟨by rw[seqP,hc];rfl,?_⟩
  rw[h3.1,h2] at h4
  omega
 ·intro hc
  have:=carry_none h1 hc
  omega
end Go.Proofs.Tryz.Run
set_option linter.unusedSimpArgs false
set_option linter.unusedVariables false
namespace Go.Proofs.Tryz.Run
open Go Go.Vf Go.Proofs
open Go.Proofs.YtpcokdalcafgdaaGreat
def lastI:Nat→Int
 |0=> -1
 |k+1=>(k:Int)
theorem lastI_eq (k:Nat):lastI k=(k:Int)-1:=by cases k<;>simp[lastI]
set_option maxHeartbeats 8000000 in
theorem places159 {ns no:Nat}(sz od:Nat→Int)(hns:ns≤1000000)(hs: ∀j,j<ns→1≤sz j∧sz j≤12)(hp:prod sz ns≤2000)(A B C D:Nat→AObj)(hlow: ∀p,lowH 4 [A p,B p,C p,D p]=true)
 (hy: ∀(p:Nat) (u:Nat→Int),(p:Int)<prod sz ns→(∀j,j<ns→u j=seqP sz ns p j)→
   YCall Tryz.prog 2 [int p,.msl 5 1 none ns false] [A p,B p,C p,D p,.var [isl ns sz,isl no od],arrI ns u]
    (fun pg v h'=>pg=[3]∧v= .d (.bool true)∧h'=[A (p+1),B (p+1),C (p+1),D (p+1),.var [isl ns sz,isl no od],arrI ns u])):
 ACall Tryz.prog 159 [.agg [isl ns sz,isl no od],.yl 2] [A 0,B 0,C 0,D 0] (fun pg v h'=>pg=[3]∧ ∃q:Nat,(q:Int)=prod sz ns∧h'=[A q,B q,C q,D q]):=by
 have hs1:=fun j hj=>(hs j hj).1
 have hsq:=fun p h=>seqP_ok (sz:=sz) (n:=ns) hs1 p h
 have hnx:=fun p h=>seqP_next (sz:=sz) (n:=ns) hs1 (p:=p) h
 have hpos:=prod_pos hs1
 obtain⟨T,hT⟩: ∃T:Nat,(T:Int)=prod sz ns:=⟨(prod sz ns).toNat,by omega⟩
 rw[←hT] at hsq hnx hpos hy⊢
 have hT2:T≤2000:=by omega
 have hsq:=fun p (h:p<T)=>hsq p (Int.ofNat_lt.2 h)
 have hnx: ∀p,p<T→(∀q,carry sz ns (seqP sz ns p)=some q→seqP sz ns (p+1)=q∧p+1<T)∧(carry sz ns (seqP sz ns p)=none→p+1=T):=fun p h=>by
  obtain⟨a,b⟩:=hnx p (Int.ofNat_lt.2 h)
  exact⟨fun q hq=>⟨(a q hq).1,Int.ofNat_lt.1 (a q hq).2⟩,fun hq=>Int.ofNat.inj (b hq)⟩
 have hy:=fun p u (h:p<T) hu=>hy p u (Int.ofNat_lt.2 h) hu
 have hpos:0<T:=by omega
 clear hT hp
 refine acall_c Tryz.mixed okP ok159 rfl fun E Sg hb hS F hF=> ?_
 simp only[List.length_cons,List.length_nil] at hb
 have ett: ∀z,Sg.toNat z=z.toNat:=by subst hS;exact fun _=>rfl
 cbv
 refine req_i hS (by clear hy hF hsq hnx;subst hS;simp[std]) (req_i hS (by clear hy hF hsq hnx;subst hS;simp[std,big];omega) ?_)
 refine loop_i Tryz.mixed okP hS (σ:=Nat×(Nat→Int)) (fun s=>s.1<T∧ ∀j,j<ns→s.2 j=seqP sz ns s.1 j) (fun s=>T-s.1)
  (fun s=>⟨mkTs [(1,.yl 2),(2,.ptr 4 0),(4,.msl 5 1 none ns false),(5,int s.1)] 49,[A s.1,B s.1,C s.1,D s.1,.var [isl ns sz,isl no od],arrI ns s.2],[3]⟩) (0,fun _=>0) ⟨hpos,fun j hj=>rfl⟩ ?_ ?_
 ·refine le_mk rfl ⟨Like.refl _,Like.refl _,(by clear hy hF hsq hnx;subst hS;exact Like.refl _),lk_l rfl,trivial⟩ (.cons (.refl _) (.cons (.refl _) (.cons (.refl _) (.cons (.refl _) (.cons (.refl _) (.cons (LikeO.arrr ?_ ?_) (.nil _))))))) (by simp;omega) (.inr rfl) rfl
  ·clear hy hF hsq hnx;subst hS;rfl
  ·intro j hj
   clear hy hF hsq hnx
   subst hS
   simp only[std] at hj⊢
   rw[if_pos hj]
   exact .one (.int rfl)
 ·rintro⟨p,u⟩ ⟨hp1,hu⟩ N hN
  simp only at hp1 hu hN
  have hyp:=hy p u hp1 hu
  obtain⟨g1,g2⟩:=hsq p hp1
  obtain⟨n1,n2⟩:=hnx p hp1
  cbv
  refine yld_c hS hyp ?_
  rintro pg v H' ⟨rfl,rfl,rfl⟩
  cbv
  refine req_i hS (by clear hy hF hsq hnx hyp hN;subst hS;exact wrap64 (by simp[std];omega) (by simp[std];omega)) ?_
  refine loop_i Tryz.mixed okP hS (σ:=Nat×(Nat→Int)) (fun s=>s.1≤ns∧carry sz ns (seqP sz ns p)=carry sz s.1 s.2∧okP' sz s.2 ns) (fun s=>s.1)
   (fun s=>⟨mkTs [(1,.yl 2),(2,.ptr 4 0),(4,.msl 5 1 none ns false),(5,int p),(6,int (lastI s.1))] 49,[A (p+1),B (p+1),C (p+1),D (p+1),.var [isl ns sz,isl no od],arrI ns s.2],[3]⟩) (ns,seqP sz ns p) ⟨by simp,rfl,g1⟩ ?_ ?_
  ·refine le_mk rfl ⟨Like.refl _,Like.refl _,Like.refl _,Like.refl _,lk_v ?_,trivial⟩ (.cons (.refl _) (.cons (.refl _) (.cons (.refl _) (.cons (.refl _) (.cons (.refl _) (.cons (LikeO.arrI rfl fun j hj=>by rw[hu j hj]) (.nil _))))))) (by simp;omega) (.inr rfl) rfl
   rw[lastI_eq]
   clear hy hF hsq hnx hyp hN;subst hS;rfl
  ·rintro⟨k,w⟩ ⟨hk,hc,hw⟩ M hM
   simp only at hk hc hw hM
   cases k with
   |zero=>
    have hend:=n2 hc
    cbv
    split
    ·rename_i h;exfalso;clear hy hF hsq hnx hyp hN hM;subst hS;simp[std] at h
    cbv
    split
    ·cbv
     exact⟨[3],by simp,hF (h1:=[A (p+1),B (p+1),C (p+1),D (p+1)]) (.cons (.refl _) (.cons (.refl _) (.cons (.refl _) (.cons (.refl _) (.nil _))))) (Like.refl _) (by simp) (.inl ⟨rfl,hlow (p+1)⟩) ⟨rfl,p+1,by rw[hend],rfl⟩⟩
    ·rename_i h;exfalso;clear hy hF hsq hnx hyp hN hM;subst hS;simp[std] at h
   |succ k=>
    rw[carry] at hc
    have hszk:=hs k (by omega)
    have hwk:=hw k (by omega)
    cbv
    split
    rotate_left
    ·rename_i h;exfalso;clear hy hF hsq hnx hyp hN hM;subst hS;simp[std] at h<;>omega
    cbv
    refine req_i hS (by clear hy hF hsq hnx hyp hN hM;subst hS;simp[std];omega) ?_
    refine req_i hS (by clear hy hF hsq hnx hyp hN hM;subst hS;simp[std];omega) ?_
    refine req_i hS (by clear hy hF hsq hnx hyp hN hM;subst hS;simp[std];omega) ?_
    simp only[nat,ett,Int.ofNat_eq_natCast,Int.toNat_natCast]
    refine req_i hS (by clear hy hF hsq hnx hyp hN hM;subst hS;exact wrap64 (by simp[std];omega) (by simp[std];omega)) ?_
    split
    ·have he:w k=sz k-1:=by clear hy hF hsq hnx hyp hN hM;subst hS;simp[std] at*;assumption
     rw[if_pos he] at hc
     cbv
     refine req_i hS (by clear hy hF hsq hnx hyp hN hM;subst hS;simp[std];omega) ?_
     simp only[nat,ett,Int.ofNat_eq_natCast,Int.toNat_natCast]
     refine req_i hS (by clear hy hF hsq hnx hyp hN hM;subst hS;simp[std];omega) ?_
     refine req_i hS (by clear hy hF hsq hnx hyp hN hM;subst hS;exact wrap64 (by simp[std];omega) (by simp[std];omega)) ?_
     refine hM (k,setAt w k 0) _ ⟨by simp;omega,hc,fun j hj=> ?_⟩ (by simp) (le_mk rfl ⟨Like.refl _,Like.refl _,Like.refl _,Like.refl _,lk_v ?_,trivial⟩ (.cons (.refl _) (.cons (.refl _) (.cons (.refl _) (.cons (.refl _) (.cons (.refl _) (.cons (LikeO.arrr rfl fun j hj=> ?_) (.nil _))))))) (by simp;omega) (.inr rfl) rfl)
     ·simp only[setAt]
      split
      ·rename_i e;subst e;omega
      ·exact hw j hj
     ·rw[lastI_eq]
      clear hy hF hsq hnx hyp hN hM;subst hS;simp[std]
     ·clear hy hF hsq hnx hyp hN hM;subst hS
      simp only[std,setAt]
      split
      ·exact .one (.int rfl)
      ·exact .refl _
    ·have he:w k≠sz k-1:=by clear hy hF hsq hnx hyp hN hM;subst hS;simp[std] at*;assumption
     rw[if_neg he] at hc
     obtain⟨q1,q2⟩:=n1 _ hc
     cbv
     split
     ·rename_i h;exfalso;clear hy hF hsq hnx hyp hN hM;subst hS;simp[std] at h<;>omega
     cbv
     refine req_i hS (by clear hy hF hsq hnx hyp hN hM;subst hS;simp[std];omega) ?_
     simp only[nat,ett,Int.ofNat_eq_natCast,Int.toNat_natCast]
     refine req_i hS (by clear hy hF hsq hnx hyp hN hM;subst hS;simp[std];omega) ?_
     refine req_i hS (by clear hy hF hsq hnx hyp hN hM;subst hS;exact wrap64 (by simp[std];omega) (by simp[std];omega)) ?_
     refine req_i hS (by clear hy hF hsq hnx hyp hN hM;subst hS;simp[std];omega) ?_
     refine req_i hS (by clear hy hF hsq hnx hyp hN hM;subst hS;simp[std];omega) ?_
     refine req_i hS (by clear hy hF hsq hnx hyp hN hM;subst hS;exact wrap64 (by simp[std];omega) (by simp[std];omega)) ?_
     refine hN (p+1,setAt w k (w k+1)) _ ⟨q2,fun j hj=>by rw[q1]⟩ (by simp;omega) (le_mk rfl ⟨Like.refl _,Like.refl _,Like.refl _,lk_v ?_,trivial⟩ (.cons (.refl _) (.cons (.refl _) (.cons (.refl _) (.cons (.refl _) (.cons (.refl _) (.cons (LikeO.arrI rfl fun j hj=> ?_) (.nil _))))))) (by simp;omega) (.inr rfl) rfl)
     ·clear hy hF hsq hnx hyp hN hM;subst hS;simp[std]
     ·clear hy hF hsq hnx hyp hN hM;subst hS
      simp only[std,setAt]
      split<;>rfl
end Go.Proofs.Tryz.Run
set_option linter.unusedSimpArgs false
set_option linter.unusedVariables false
namespace Go.Proofs.Tryz.Run
open Go Go.Vf Go.Proofs
open Go.Proofs.YtpcokdalcafgdaaGreat
theorem has89 {ns no:Nat}(sz od:Nat→Int)(d:DiR)(hd:d.ns≤1000000∧d.no≤1000000)(r:Bool)(hr:r=true↔L d.ns d.sz=L ns sz∧L d.no d.od=L no od):
 PureF Tryz.prog true 89 [.agg [isl ns sz,isl no od],d.av] (bool r):=by
 obtain⟨z,hz⟩: ∃z:Bool,z=true↔L d.ns d.sz=L ns sz:=by classical exact⟨decide _,decide_eq_true_iff⟩
 obtain⟨z2,hz2⟩: ∃z:Bool,z=true↔L d.no d.od=L no od:=by classical exact⟨decide _,decide_eq_true_iff⟩
 have h1:=equal122 hd.1 d.sz sz z hz
 have h2:=equal122 hd.2 d.od od z2 hz2
 rw[←hz,←hz2] at hr
 clear hz hz2 hd
 obtain⟨ns',sz',no',od',ne,en,nn,var,nk,kid,root⟩:=d
 refine pure_bool (pureF_of_fn Tryz.mixed okP ok89 _ rfl fun E Sg hb hS=> ?_)
 cbv
 refine callb_i hS (bool z) (by subst hS;exact h1) ?_
 cases z
 ·cbv
  exact lk_ff hr fun h=>Bool.noConfusion h.1
 cbv
 refine callb_i hS (bool z2) (by subst hS;exact h2) ?_
 cbv
 refine lk_bool ?_
 cases r<;>cases z2<;>simp at hr⊢
def frH (ns no:Nat)(sz od:Nat→Int):List AObj:=[.var [.fn 89 [.agg [isl ns sz,isl no od]] []]]
theorem is121 {ns no:Nat}(sz od:Nat→Int)(d:DiR)(hd:d.ns≤1000000∧d.no≤1000000)(r:Bool)(hr:r=true↔ ¬(L d.ns d.sz=L ns sz∧L d.no d.od=L no od)):
 ACall Tryz.prog 121 [d.av,.ptr 0 0] (frH ns no sz od) (ro (frH ns no sz od) (bool r)):=by
 have h1:=has89 (ns:=ns) (no:=no) sz od d hd (!r) (by
  cases r
  ·exact⟨fun _=>Classical.byContradiction fun h=>Bool.noConfusion (hr.2 h),fun _=>rfl⟩
  ·exact⟨fun h=>Bool.noConfusion h,fun h=>absurd h (hr.1 rfl)⟩)
 clear hr hd
 obtain⟨ns',sz',no',od',ne,en,nn,var,nk,kid,root⟩:=d
 refine acall_ro Tryz.mixed okP ok121 _ rfl fun E Sg hb hS=> ?_
 simp only[frH,List.length_cons,List.length_nil] at hb
 cbv
 refine call_ro hS (ACall.of_pure rfl h1) ?_
 cases r<;>cbv<;>exact ro_leaf (lk_bool rfl) (.cons (.refl _) (.nil _)) (.inl ⟨rfl,rfl⟩)
set_option maxHeartbeats 4000000 in
theorem index162p {n:Nat}(hn:n≤1000000)(l:Nat→DiR)(H:List AObj)(gid:FuncId)(a:Nat)(p:Nat→Bool)
 (hp: ∀i,i<n→ACall Tryz.prog gid [(l i).av,.ptr a 0] H (ro H (bool (p i)))) (r:Int) (hr:firstIs n p r):
 ACall Tryz.prog 162 [dsl n l,.fn gid [] [.ptr a 0]] H (ro H (int r)):=by
 refine acall_ro Tryz.mixed okP ok162 _ rfl fun E Sg hb hS=> ?_
 have ett: ∀z,Sg.toNat z=z.toNat:=by subst hS;exact fun _=>rfl
 cbv
 refine loop_i Tryz.mixed okP hS (fun i=>i≤n∧ ∀j,j<i→p j=false) (fun i=>n-i)
  (fun i=>⟨mkTs [(0,dsl n l),(1,.fn gid [] [.ptr a 0]),(7,int n),(8,int i)] 19,H,[]⟩) 0 ⟨by omega,by omega⟩ ?_ ?_
 ·exact le_mk rfl ⟨Like.refl _,Like.refl _,lk_v (by subst hS;rfl),lk_l rfl,trivial⟩ (.same _) (by omega) (.inr rfl) rfl
 ·intro i hi N hN
  have hin:=hp i
  clear hp
  cbv
  split
  ·cbv
   have hlt:i<n:=by clear hin hN hr;subst hS;simp[std] at*;omega
   have hin:=hin hlt
   generalize hz:p i=z at hin
   refine req_i hS (by clear hin hN hr;subst hS;simp[std];omega) ?_
   simp only[nat,ett,Int.ofNat_eq_natCast,Int.toNat_natCast]
   refine call_ro hS (r:=bool z) (by subst hS;exact hin) ?_
   cases z
   ·cbv
    refine req_i hS (by clear hin hN hr;subst hS;exact wrap64 (by simp[std];omega) (by simp[std];omega)) ?_
    refine hN (i+1) _ ⟨by omega,fun j hj=> ?_⟩ (by omega) (le_mk rfl ⟨Like.refl _,Like.refl _,Like.refl _,lk_v ?_,trivial⟩ (.same _) (by omega) (.inr rfl) rfl)
    ·by_cases e:j=i
     ·subst e;exact hz
     ·exact hi.2 j (by omega)
    ·clear hin hN hr;subst hS;simp[std]
   ·cbv
    exact ro_leaf (lk_v (hr.2 i hlt hz hi.2).symm) (.same _) (.inr rfl)
  ·have hni:n≤i:=by clear hin hN hr;subst hS;simp[std] at*;omega
   cbv
   exact ro_leaf (lk_l (hr.1 fun j hj=>hi.2 j (by omega)).symm) (.same _) (.inr rfl)
theorem contains120p {n:Nat}(hn:n≤1000000)(l:Nat→DiR)(H:List AObj)(gid:FuncId)(a:Nat)(p:Nat→Bool)
 (hp: ∀i,i<n→ACall Tryz.prog gid [(l i).av,.ptr a 0] H (ro H (bool (p i)))) (r:Bool) (hr:r=true↔ ∃i,i<n∧p i=true):
 ACall Tryz.prog 120 [dsl n l,.fn gid [] [.ptr a 0]] H (ro H (bool r)):=by
 obtain⟨z,hz,hz1,hz2⟩: ∃z,firstIs n p z∧(0≤z→ ∃i,i<n∧p i=true)∧((∃i,i<n∧p i=true)→0≤z):=firstIs_ex n p
 have hin:=index162p hn l H gid a p hp z hz
 have hzr:0≤z↔r=true:=⟨fun h=>hr.2 (hz1 h),fun h=>hz2 (hr.1 h)⟩
 clear hp hz hz1 hz2 hr
 refine acall_ro Tryz.mixed okP ok120 _ rfl fun E Sg hb hS=> ?_
 cbv
 refine call_ro hS hin ?_
 cbv
 refine ro_leaf (lk_bool ?_) (.same _) (.inr rfl)
 clear hin
 subst hS
 simp[std]
 cases r
 ·simp at hzr⊢;omega
 ·simpa using hzr
theorem every88 {ns no:Nat}(sz od:Nat→Int){n:Nat}(hn:n≤1000000)(l:Nat→DiR)(hd: ∀i,i<n→(l i).ns≤1000000∧(l i).no≤1000000)(r:Bool)
 (hr:r=true↔ ∀i,i<n→L (l i).ns (l i).sz=L ns sz∧L (l i).no (l i).od=L no od):
 ACall Tryz.prog 88 [dsl n l,.fn 89 [.agg [isl ns sz,isl no od]] []] [] (ro [] (bool r)):=by
 obtain⟨p,hp⟩: ∃p:Nat→Bool,∀i,p i=true↔ ¬(L (l i).ns (l i).sz=L ns sz∧L (l i).no (l i).od=L no od):=by classical exact⟨fun i=>decide (¬_),fun i=>decide_eq_true_iff⟩
 have hin:=contains120p hn l (frH ns no sz od) 121 0 p (fun i hi=>is121 sz od (l i) (hd i hi) (p i) (hp i)) (!r) (all_turn hp hr)
 clear hr hp hd
 refine acall_ro Tryz.mixed okP ok88 _ rfl fun E Sg hb hS=> ?_
 simp only[List.length_nil] at hb
 cbv
 refine call_ro hS hin ?_
 cases r<;>cbv<;>exact ro_leaf (lk_bool rfl) (.nil _) (.inl ⟨rfl,rfl⟩)
end Go.Proofs.Tryz.Run
