/- The program's test that all diagrams of a family have the frame. Plans as data; how many cells and plans they have (size, ThinPlan). Plans: ThinPlan, Deep, IsPlan. Plans that have their form: IsPlan. Conditions: none. -/
import Derived.Test.YtbglklaocjifhaaGreatESg
open Go.Proofs.Tryz renaming prog->AA
open Go.Proofs.YtbglklaocjifhaaGreat.Tryz renaming mixed->AB
open Bool renaming noConfusion->AC,true->AD,false->AG
open List renaming length_cons->AE,length_nil->AF
set_option linter.unusedSimpArgs false
set_option linter.unusedVariables false
set_option maxHeartbeats 0
namespace Go.Proofs.Tryz.Run
open Go Go.Vf Go.Proofs
open Go.Proofs.YtbglklaocjifhaaGreat
theorem i7e {ns no:Nat}(sz od:Nat->Int)(d:DiR)(hd:d.ns<=1000000/\d.no<=1000000)(r:Bool)(hr:r=AD↔L d.ns d.sz=L ns sz/\L d.no d.od=L no od):
 a0j AA AD 135 [.agg [isl ns sz,isl no od],d.av] (bool r):=by
 obtain⟨z,hz⟩: ∃z:Bool,z=AD↔L d.ns d.sz=L ns sz:=by classical exact⟨decide _,decide_eq_true_iff⟩
 obtain⟨z2,hz2⟩: ∃z:Bool,z=AD↔L d.no d.od=L no od:=by classical exact⟨decide _,decide_eq_true_iff⟩
 have h1:=h4z hd.1 d.sz sz z hz;have h2:=h4z hd.2 d.od od z2 hz2;rw[<-hz,<-hz2] at hr;clear hz hz2 hd;obtain⟨ns',sz',no',od',ne,en,nn,var,nk,kid,root⟩:=d;refine a1e (a0k AB okP f2g _ rfl fun E Sg hb hS=> ?_);cbv;refine a0v hS (bool z) (by subst hS;exact h1) ?_;cases z
 ·cbv;exact e8z hr fun h=>AC h.1
 cbv;refine a0v hS (bool z2) (by subst hS;exact h2) ?_;cbv;refine a0s ?_;cases r<;>cases z2<;>simp at hr⊢
theorem i1n {n:Nat}(hn:n<=1000000)(l:Nat->DiR)(H':List a0f)(gid:FuncId)(a:Nat)(p:Nat->Bool)
 (hp: ∀i,i<n->a1h AA gid [(l i).av,.ptr a 0] (.arr 5 n (fun i=>(l i).row)::H') (ro (.arr 5 n (fun i=>(l i).row)::H') (bool (p i)))) (r:Int) (hr:a6z n p r):
 a1h AA 205 [.msl 0 5 none n AG,.fn gid [] [.ptr a 0]] (.arr 5 n (fun i=>(l i).row)::H') (ro (.arr 5 n (fun i=>(l i).row)::H') (int r)):=by
 refine a2y AB okP e9r _ rfl fun E Sg hb hS=> ?_;have ett: ∀z,Sg.toNat z=z.toNat:=by subst hS;exact fun _=>rfl
 cbv;refine a7r AB okP hS (fun i=>i<=n/\ ∀j,j<i->p j=AG) (fun i=>n-i)
  (fun i=>⟨b5r [(0,.msl 0 5 none n AG),(1,.fn gid [] [.ptr a 0]),(7,int n),(8,int i)] 19,.arr 5 n (fun i=>(l i).row)::H',[]⟩) 0 ⟨by omega,by omega⟩ ?_ ?_
 ·exact a4c rfl ⟨a0x.refl _,a0x.refl _,b0a (by subst hS;rfl),a6c rfl,trivial⟩ (.same _) (by omega) (.inr rfl) rfl
 ·intro i hi N hN;have hin:=hp i;clear hp;cbv;split
  ·cbv;have hlt:i<n:=by clear hin hN hr;subst hS;simp[std] at*;omega
   have hin:=hin hlt;generalize hz:p i=z at hin;refine a1g hS (by clear hin hN hr;subst hS;simp[std];omega) ?_;refine a1g hS (by clear hin hN hr;subst hS;simp[std,nat];omega) ?_;simp only[nat,ett,Int.ofNat_eq_natCast,Int.toNat_natCast];refine a3v hS (r:=bool z) (by subst hS;exact hin) ?_;cases z
   ·cbv;refine a1g hS (by clear hin hN hr;subst hS;exact b6g (by simp[std];omega) (by simp[std];omega)) ?_;refine hN (i+1) _ ⟨by omega,fun j hj=> ?_⟩ (by omega) (a4c rfl ⟨a0x.refl _,a0x.refl _,a0x.refl _,b0a ?_,trivial⟩ (.same _) (by omega) (.inr rfl) rfl)
    ·by_cases e:j=i
     ·subst e;exact hz
     ·exact hi.2 j (by omega)
    ·clear hin hN hr;subst hS;simp[std]
   ·cbv;exact a2s (b0a (hr.2 i hlt hz hi.2).symm) (.same _) (.inr rfl)
  ·have hni:n<=i:=by clear hin hN hr;subst hS;simp[std] at*;omega
   cbv;exact a2s (a6c (hr.1 fun j hj=>hi.2 j (by omega)).symm) (.same _) (.inr rfl)
theorem h8d {n:Nat}(hn:n<=1000000)(l:Nat->DiR)(H':List a0f)(gid:FuncId)(a:Nat)(p:Nat->Bool)
 (hp: ∀i,i<n->a1h AA gid [(l i).av,.ptr a 0] (.arr 5 n (fun i=>(l i).row)::H') (ro (.arr 5 n (fun i=>(l i).row)::H') (bool (p i)))) (r:Bool) (hr:r=AD↔ ∃i,i<n/\p i=AD):
 a1h AA 174 [.msl 0 5 none n AG,.fn gid [] [.ptr a 0]] (.arr 5 n (fun i=>(l i).row)::H') (ro (.arr 5 n (fun i=>(l i).row)::H') (bool r)):=by
 obtain⟨z,hz,hz1,hz2⟩: ∃z,a6z n p z/\(0<=z-> ∃i,i<n/\p i=AD)/\((∃i,i<n/\p i=AD)->0<=z):=a9i n p;have hin:=i1n hn l H' gid a p hp z hz;have hzr:0<=z↔r=AD:=⟨fun h=>hr.2 (hz1 h),fun h=>hz2 (hr.1 h)⟩;clear hp hz hz1 hz2 hr;refine a2y AB okP e8e _ rfl fun E Sg hb hS=> ?_;cbv;refine a3v hS hin ?_;cbv;refine a2s (a0s ?_) (.same _) (.inr rfl);clear hin;subst hS;simp[std];cases r
 ·simp at hzr⊢;omega
 ·simpa using hzr
def i7b (ns no:Nat)(sz od:Nat->Int)(n:Nat)(l:Nat->DiR):List a0f:=[.arr 5 n (fun i=>(l i).row),.var [.fn 135 [.agg [isl ns sz,isl no od]] []]]
theorem i5o {ns no:Nat}(sz od:Nat->Int)(d:DiR)(hd:d.ns<=1000000/\d.no<=1000000)(n:Nat)(l:Nat->DiR)(r:Bool)(hr:r=AD↔ ¬(L d.ns d.sz=L ns sz/\L d.no d.od=L no od)):
 a1h AA 175 [d.av,.ptr 1 0] (i7b ns no sz od n l) (ro (i7b ns no sz od n l) (bool r)):=by
 have h1:=i7e (ns:=ns) (no:=no) sz od d hd (!r) (by
  cases r
  ·exact⟨fun _=>Classical.byContradiction fun h=>AC (hr.2 h),fun _=>rfl⟩
  ·exact⟨fun h=>AC h,fun h=>absurd h (hr.1 rfl)⟩)
 clear hr hd;obtain⟨ns',sz',no',od',ne,en,nn,var,nk,kid,root⟩:=d;refine a2y AB okP e9v _ rfl fun E Sg hb hS=> ?_;simp only[i7b,AE,AF] at hb;cbv;refine a3v hS (a1h.of_pure rfl h1) ?_;cases r<;>cbv<;>exact a2s (a0s rfl) (.cons (.refl _) (.cons (.refl _) (.nil _))) (.inl ⟨rfl,rfl⟩)
theorem i1m {ns no:Nat}(sz od:Nat->Int){n:Nat}(hn:n<=1000000)(l:Nat->DiR)(hd: ∀i,i<n->(l i).ns<=1000000/\(l i).no<=1000000)(r:Bool)
 (hr:r=AD↔ ∀i,i<n->L (l i).ns (l i).sz=L ns sz/\L (l i).no (l i).od=L no od):
 a1h AA 136 [.msl 0 5 none n AG,.fn 135 [.agg [isl ns sz,isl no od]] []] [.arr 5 n (fun i=>(l i).row)] (ro [.arr 5 n (fun i=>(l i).row)] (bool r)):=by
 obtain⟨p,hp⟩: ∃p:Nat->Bool,∀i,p i=AD↔ ¬(L (l i).ns (l i).sz=L ns sz/\L (l i).no (l i).od=L no od):=by classical exact⟨fun i=>decide (¬_),fun i=>decide_eq_true_iff⟩
 have hin:=h8d hn l [.var [.fn 135 [.agg [isl ns sz,isl no od]] []]] 175 1 p (fun i hi=>i5o sz od (l i) (hd i hi) n l (p i) (hp i)) (!r) (d2b hp hr);clear hr hp hd;refine a2y AB okP e7o _ rfl fun E Sg hb hS=> ?_;simp only[AE,AF] at hb;cbv;refine a3v hS hin ?_;cases r<;>cbv<;>exact a2s (a0s rfl) (.cons (.refl _) (.nil _)) (.inl ⟨rfl,rfl⟩)
inductive PlR where
 |none
 |mk (look:Int) (nc:Nat) (c:Nat->VaR) (nn:Nat) (nx:Nat->PlR)
def PlR.look:PlR->Int| .none=>0| .mk l _ _ _ _=>l
def PlR.nc:PlR->Nat| .none=>0| .mk _ n _ _ _=>n
def PlR.c:PlR->Nat->VaR| .none=>fun _=>⟨0,0⟩| .mk _ _ c _ _=>c
def PlR.nn:PlR->Nat| .none=>0| .mk _ _ _ n _=>n
def PlR.nx:PlR->Nat->PlR| .none=>fun _=> .none| .mk _ _ _ _ f=>f
def d4k:List DV:=[.int .i64 (.v 0),.sl 2 0 fun _=>[],.sl 3 0 fun _=>[]]
def PlR.row:PlR->List DV
 | .none=>[.int .i64 (.v 0),.sl 2 0 fun _=>(VaR.mk 0 0).row,.sl 3 0 fun _=>d4k]
 | .mk l nc c nn nx=>[.int .i64 (.v l),.sl 2 nc fun i=>(c i).row,.sl 3 nn fun i=>if i<nn then (nx i).row else d4k]
def PlR.av:PlR->AV
 | .none=> .agg [int 0,vsl 0 fun _=>⟨0,0⟩,.d (.sl 3 0 fun _=>d4k)]
 | .mk l nc c nn nx=> .agg [int l,vsl nc c,.d (.sl 3 nn fun i=>if i<nn then (nx i).row else d4k)]
theorem PlR.rowE (q:PlR):q.row=[.int .i64 (.v q.look),.sl 2 q.nc fun j=>(q.c j).row,.sl 3 q.nn fun j=>if j<q.nn then (q.nx j).row else d4k]:=by
 cases q with
 |none=>simp[PlR.row,PlR.look,PlR.nc,PlR.c,PlR.nn]
 |mk=>rfl
theorem PlR.avE (q:PlR):q.av= .agg [int q.look,.d (.sl 2 q.nc fun j=>(q.c j).row),.d (.sl 3 q.nn fun j=>if j<q.nn then (q.nx j).row else d4k)]:=by
 cases q with
 |none=>simp[PlR.av,PlR.look,PlR.nc,PlR.c,PlR.nn,vsl]
 |mk=>rfl
def PlR.ok:PlR->Prop
 | .none=>True
 | .mk l nc c nn nx=>c5t l/\nc<=140737488355328/\nn<=140737488355328/\(∀i,i<nc->(0<=(c i).fault/\(c i).fault<=255)/\c5t (c i).n)/\ ∀i,i<nn->(nx i).ok
end Go.Proofs.Tryz.Run
