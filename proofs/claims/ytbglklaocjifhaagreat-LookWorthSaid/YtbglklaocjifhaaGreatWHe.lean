/- The program's test that all diagrams of a family have the frame. Plans as data; how many cells and plans they have (size, ThinPlan). Plans: ThinPlan, Deep, IsPlan. Plans that have their form: IsPlan. Conditions: none. -/
import Derived.Test.YtbglklaocjifhaaGreatWSg
open Int renaming ofNat_eq_natCast->AA,ofNat->AD,toNat_natCast->AI
open Go.Proofs.Tryz renaming prog->AB
open Go.Proofs.YtbglklaocjifhaaGreat.Tryz renaming mixed->AC
open Go.Vf.a0x renaming refl->AE
open Bool renaming noConfusion->AF,true->AG,false->AK
open List renaming length_cons->AH,length_nil->AJ
set_option linter.unusedSimpArgs false
set_option linter.unusedVariables false
set_option maxHeartbeats 0
namespace Go.Proofs.Tryz.Run
open Go Go.Vf Go.Proofs
open Go.Proofs.YtbglklaocjifhaaGreat
theorem i7e {ns no:Nat}(sz od:Nat->Int)(d:DiR)(hd:d.ns<=1000000/\d.no<=1000000)(r:Bool)(hr:r=AG↔L d.ns d.sz=L ns sz/\L d.no d.od=L no od):
 a0j AB AG 135 [.agg [isl ns sz,isl no od],d.av] (bool r):=by
 obtain⟨z,hz⟩: ∃z:Bool,z=AG↔L d.ns d.sz=L ns sz:=by classical exact⟨decide _,decide_eq_true_iff⟩
 obtain⟨z2,hz2⟩: ∃z:Bool,z=AG↔L d.no d.od=L no od:=by classical exact⟨decide _,decide_eq_true_iff⟩
 have h1:=h4z hd.1 d.sz sz z hz;have h2:=h4z hd.2 d.od od z2 hz2;rw[<-hz,<-hz2] at hr;clear hz hz2 hd;obtain⟨ns',sz',no',od',ne,en,nn,var,nk,kid,root⟩:=d;refine a1e (a0k AC okP f2g _ rfl fun E Sg hb hS=> ?_);cbv;refine a0v hS (bool z) (by subst hS;exact h1) ?_;cases z
 ·cbv;exact e8z hr fun h=>AF h.1
 cbv;refine a0v hS (bool z2) (by subst hS;exact h2) ?_;cbv;refine a0s ?_;cases r<;>cases z2<;>simp at hr⊢
theorem i1n {n:Nat}(hn:n<=1000000)(l:Nat->DiR)(H':List a0f)(gid:FuncId)(a:Nat)(p:Nat->Bool)
 (hp: ∀i,i<n->a1h AB gid [(l i).av,.ptr a 0] (.arr 5 n (fun i=>(l i).row)::H') (ro (.arr 5 n (fun i=>(l i).row)::H') (bool (p i)))) (r:Int) (hr:a6z n p r):
 a1h AB 205 [.msl 0 5 none n AK,.fn gid [] [.ptr a 0]] (.arr 5 n (fun i=>(l i).row)::H') (ro (.arr 5 n (fun i=>(l i).row)::H') (int r)):=by
 refine a2y AC okP e9r _ rfl fun E Sg hb hS=> ?_;have ett: ∀z,Sg.toNat z=z.toNat:=by subst hS;exact fun _=>rfl
 cbv;refine a7r AC okP hS (fun i=>i<=n/\ ∀j,j<i->p j=AK) (fun i=>n-i)
  (fun i=>⟨b5r [(0,.msl 0 5 none n AK),(1,.fn gid [] [.ptr a 0]),(7,int n),(8,int i)] 19,.arr 5 n (fun i=>(l i).row)::H',[]⟩) 0 ⟨by omega,by omega⟩ ?_ ?_
 ·exact a4c rfl ⟨AE _,AE _,b0a (by subst hS;rfl),a6c rfl,trivial⟩ (.same _) (by omega) (.inr rfl) rfl
 ·intro i hi N hN;have hin:=hp i;clear hp;cbv;split
  ·cbv;have hlt:i<n:=by clear hin hN hr;subst hS;simp[std] at*;omega
   have hin:=hin hlt;generalize hz:p i=z at hin;refine a1g hS (by clear hin hN hr;subst hS;simp[std];omega) ?_;refine a1g hS (by clear hin hN hr;subst hS;simp[std,nat];omega) ?_;simp only[nat,ett,AA,AI];refine a3v hS (r:=bool z) (by subst hS;exact hin) ?_;cases z
   ·cbv;refine a1g hS (by clear hin hN hr;subst hS;exact b6g (by simp[std];omega) (by simp[std];omega)) ?_;refine hN (i+1) _ ⟨by omega,fun j hj=> ?_⟩ (by omega) (a4c rfl ⟨AE _,AE _,AE _,b0a ?_,trivial⟩ (.same _) (by omega) (.inr rfl) rfl)
    ·by_cases e:j=i
     ·subst e;exact hz
     ·exact hi.2 j (by omega)
    ·clear hin hN hr;subst hS;simp[std]
   ·cbv;exact a2s (b0a (hr.2 i hlt hz hi.2).symm) (.same _) (.inr rfl)
  ·have hni:n<=i:=by clear hin hN hr;subst hS;simp[std] at*;omega
   cbv;exact a2s (a6c (hr.1 fun j hj=>hi.2 j (by omega)).symm) (.same _) (.inr rfl)
theorem h8d {n:Nat}(hn:n<=1000000)(l:Nat->DiR)(H':List a0f)(gid:FuncId)(a:Nat)(p:Nat->Bool)
 (hp: ∀i,i<n->a1h AB gid [(l i).av,.ptr a 0] (.arr 5 n (fun i=>(l i).row)::H') (ro (.arr 5 n (fun i=>(l i).row)::H') (bool (p i)))) (r:Bool) (hr:r=AG↔ ∃i,i<n/\p i=AG):
 a1h AB 174 [.msl 0 5 none n AK,.fn gid [] [.ptr a 0]] (.arr 5 n (fun i=>(l i).row)::H') (ro (.arr 5 n (fun i=>(l i).row)::H') (bool r)):=by
 obtain⟨z,hz,hz1,hz2⟩: ∃z,a6z n p z/\(0<=z-> ∃i,i<n/\p i=AG)/\((∃i,i<n/\p i=AG)->0<=z):=a9i n p;have hin:=i1n hn l H' gid a p hp z hz;have hzr:0<=z↔r=AG:=⟨fun h=>hr.2 (hz1 h),fun h=>hz2 (hr.1 h)⟩;clear hp hz hz1 hz2 hr;refine a2y AC okP e8e _ rfl fun E Sg hb hS=> ?_;cbv;refine a3v hS hin ?_;cbv;refine a2s (a0s ?_) (.same _) (.inr rfl);clear hin;subst hS;simp[std];cases r
 ·simp at hzr⊢;omega
 ·simpa using hzr
def i7b (ns no:Nat)(sz od:Nat->Int)(n:Nat)(l:Nat->DiR):List a0f:=[.arr 5 n (fun i=>(l i).row),.var [.fn 135 [.agg [isl ns sz,isl no od]] []]]
theorem i5o {ns no:Nat}(sz od:Nat->Int)(d:DiR)(hd:d.ns<=1000000/\d.no<=1000000)(n:Nat)(l:Nat->DiR)(r:Bool)(hr:r=AG↔ ¬(L d.ns d.sz=L ns sz/\L d.no d.od=L no od)):
 a1h AB 175 [d.av,.ptr 1 0] (i7b ns no sz od n l) (ro (i7b ns no sz od n l) (bool r)):=by
 have h1:=i7e (ns:=ns) (no:=no) sz od d hd (!r) (by
  cases r
  ·exact⟨fun _=>Classical.byContradiction fun h=>AF (hr.2 h),fun _=>rfl⟩
  ·exact⟨fun h=>AF h,fun h=>absurd h (hr.1 rfl)⟩)
 clear hr hd;obtain⟨ns',sz',no',od',ne,en,nn,var,nk,kid,root⟩:=d;refine a2y AC okP e9v _ rfl fun E Sg hb hS=> ?_;simp only[i7b,AH,AJ] at hb;cbv;refine a3v hS (a1h.of_pure rfl h1) ?_;cases r<;>cbv<;>exact a2s (a0s rfl) (.cons (.refl _) (.cons (.refl _) (.nil _))) (.inl ⟨rfl,rfl⟩)
theorem i1m {ns no:Nat}(sz od:Nat->Int){n:Nat}(hn:n<=1000000)(l:Nat->DiR)(hd: ∀i,i<n->(l i).ns<=1000000/\(l i).no<=1000000)(r:Bool)
 (hr:r=AG↔ ∀i,i<n->L (l i).ns (l i).sz=L ns sz/\L (l i).no (l i).od=L no od):
 a1h AB 136 [.msl 0 5 none n AK,.fn 135 [.agg [isl ns sz,isl no od]] []] [.arr 5 n (fun i=>(l i).row)] (ro [.arr 5 n (fun i=>(l i).row)] (bool r)):=by
 obtain⟨p,hp⟩: ∃p:Nat->Bool,∀i,p i=AG↔ ¬(L (l i).ns (l i).sz=L ns sz/\L (l i).no (l i).od=L no od):=by classical exact⟨fun i=>decide (¬_),fun i=>decide_eq_true_iff⟩
 have hin:=h8d hn l [.var [.fn 135 [.agg [isl ns sz,isl no od]] []]] 175 1 p (fun i hi=>i5o sz od (l i) (hd i hi) n l (p i) (hp i)) (!r) (d2b hp hr);clear hr hp hd;refine a2y AC okP e7o _ rfl fun E Sg hb hS=> ?_;simp only[AH,AJ] at hb;cbv;refine a3v hS hin ?_;cases r<;>cbv<;>exact a2s (a0s rfl) (.cons (.refl _) (.nil _)) (.inl ⟨rfl,rfl⟩)
inductive PlR where
 |none
 |mk (look:Int) (nc:Nat) (c:Nat->VaR) (nn:Nat) (nx:Nat->PlR)
def PlR.look:PlR->Int| .none=>0| .mk l _ _ _ _=>l
def PlR.nc:PlR->Nat| .none=>0| .mk _ n _ _ _=>n
def PlR.c:PlR->Nat->VaR| .none=>fun _=>⟨0,0⟩| .mk _ _ c _ _=>c
def PlR.nn:PlR->Nat| .none=>0| .mk _ _ _ n _=>n
def PlR.nx:PlR->Nat->PlR| .none=>fun _=> .none| .mk _ _ _ _ f=>f
def d4k:List DV:=[.int .i64 (.v 0),.sl 2 0 fun _=>[],.sl 3 0 fun _=>[]]
def PlR.row:PlR->List DV
 | .none=>[.int .i64 (.v 0),.sl 2 0 fun _=>(VaR.mk 0 0).row,.sl 3 0 fun _=>d4k]
 | .mk l nc c nn nx=>[.int .i64 (.v l),.sl 2 nc fun i=>(c i).row,.sl 3 nn fun i=>if i<nn then (nx i).row else d4k]
def PlR.av:PlR->AV
 | .none=> .agg [int 0,vsl 0 fun _=>⟨0,0⟩,.d (.sl 3 0 fun _=>d4k)]
 | .mk l nc c nn nx=> .agg [int l,vsl nc c,.d (.sl 3 nn fun i=>if i<nn then (nx i).row else d4k)]
theorem PlR.rowE (q:PlR):q.row=[.int .i64 (.v q.look),.sl 2 q.nc fun j=>(q.c j).row,.sl 3 q.nn fun j=>if j<q.nn then (q.nx j).row else d4k]:=by
 cases q with
 |none=>simp[PlR.row,PlR.look,PlR.nc,PlR.c,PlR.nn]
 |mk=>rfl
theorem PlR.avE (q:PlR):q.av= .agg [int q.look,.d (.sl 2 q.nc fun j=>(q.c j).row),.d (.sl 3 q.nn fun j=>if j<q.nn then (q.nx j).row else d4k)]:=by
 cases q with
 |none=>simp[PlR.av,PlR.look,PlR.nc,PlR.c,PlR.nn,vsl]
 |mk=>rfl
theorem PlR.kids (p:PlR): ∃(lk:Nat->Int) (nc nn:Nat->Nat) (C E:Nat->Nat->List DV),(∀i,i<p.nn->(p.nx i).row=[.int .i64 (.v (lk i)),.sl 2 (nc i) (C i),.sl 3 (nn i) (E i)])/\
 (∀i,i<p.nn->(p.nx i).av= .agg [int (lk i),.d (.sl 2 (nc i) (C i)),.d (.sl 3 (nn i) (E i))])/\p.av= .agg [int p.look,vsl p.nc p.c,.d (.sl 3 p.nn fun i=>[.int .i64 (.v (lk i)),.sl 2 (nc i) (C i),.sl 3 (nn i) (E i)])]:=by
 refine⟨fun i=>if i<p.nn then (p.nx i).look else 0,fun i=>if i<p.nn then (p.nx i).nc else 0,fun i=>if i<p.nn then (p.nx i).nn else 0,fun i j=>if i<p.nn then ((p.nx i).c j).row else [],
  fun i j=>if i<p.nn then (if j<(p.nx i).nn then ((p.nx i).nx j).row else d4k) else [],fun i hi=> ?_,fun i hi=> ?_,?_⟩
 ·simp only[if_pos hi];exact PlR.rowE _
 ·simp only[if_pos hi];exact PlR.avE _
 ·rw[PlR.avE p];have:(fun j=>if j<p.nn then (p.nx j).row else d4k)=fun i=>[.int .i64 (.v (if i<p.nn then (p.nx i).look else 0)),.sl 2 (if i<p.nn then (p.nx i).nc else 0) (fun j=>if i<p.nn then ((p.nx i).c j).row else []),.sl 3 (if i<p.nn then (p.nx i).nn else 0) (fun j=>if i<p.nn then (if j<(p.nx i).nn then ((p.nx i).nx j).row else d4k) else [])]:=funext fun i=>by
   by_cases hi:i<p.nn
   ·simp only[if_pos hi];exact PlR.rowE _
   ·simp only[if_neg hi];rfl
  rw[this];rfl
def PlR.ok:PlR->Prop
 | .none=>True
 | .mk l nc c nn nx=>c5t l/\nc<=140737488355328/\nn<=140737488355328/\(∀i,i<nc->(0<=(c i).fault/\(c i).fault<=255)/\c5t (c i).n)/\ ∀i,i<nn->(nx i).ok
theorem PlR.ok_iff (p:PlR):p.ok↔c5t p.look/\p.nc<=140737488355328/\p.nn<=140737488355328/\(∀i,i<p.nc->(0<=(p.c i).fault/\(p.c i).fault<=255)/\c5t (p.c i).n)/\ ∀i,i<p.nn->(p.nx i).ok:=by
 cases p with
 |none=>exact⟨fun _=>⟨⟨by decide,by decide⟩,by decide,by decide,fun i hi=>absurd hi (Nat.not_lt_zero i),fun i hi=>absurd hi (Nat.not_lt_zero i)⟩,fun _=>trivial⟩
 |mk=>exact Iff.rfl
def b2o (f:Nat->Nat):Nat->Nat
 |0=>0
 |n+1=>max (b2o f n) (f n)
theorem c0n {f:Nat->Nat}{B n:Nat}(h: ∀i,i<n->f i<=B):b2o f n<=B:=by
 induction n with
 |zero=>exact Nat.zero_le _
 |succ n ih=>have:=ih fun i hi=>h i (by omega);have:=h n (by omega);simp only[b2o];omega
def PlR.deep:Nat->PlR->Nat
 |0,_=>0
 |lv+1,p=>b2o (fun i=>1+PlR.deep lv (p.nx i)) p.nn
theorem c8d (lv:Nat)(hlv:lv<=6)(p:PlR)(hp:p.ok)(rr:Nat->Nat)(hrr: ∀i,i<p.nn->0<lv->a0j AB AG 26 [(p.nx i).av,int ((lv:Int)-1)] (int (rr i))/\rr i<=6)(r:Nat)(hr:r=if 0<lv then b2o (fun i=>1+rr i) p.nn else 0):
 a0j AB AG 26 [p.av,int lv] (int r):=by
 obtain⟨lk,ncs,nns,C,E,hrow,hav,hpav⟩:=p.kids;obtain⟨_,h1,h2,_,_⟩:=p.ok_iff.1 hp;rw[hpav];simp+contextual only[hav] at hrr;clear hpav hav hrow hp;obtain⟨l,hl⟩: ∃l,p.look=l:=⟨_,rfl⟩;obtain⟨nc,hnc⟩: ∃l,p.nc=l:=⟨_,rfl⟩;obtain⟨nn,hnn⟩: ∃l,p.nn=l:=⟨_,rfl⟩;obtain⟨c,hc⟩: ∃l,p.c=l:=⟨_,rfl⟩;rw[hl,hnc,hnn,hc];rw[hnc] at h1;rw[hnn] at h2 hr hrr;clear hl hnc hnn hc;obtain⟨G,hG⟩: ∃G:Nat->Nat,∀i,G i=b2o (fun i=>1+rr i) i:=⟨_,fun _=>rfl⟩;have hG0:G 0=0:=hG 0;have hGs: ∀i,G (i+1)=max (G i) (1+rr i):=fun i=>by rw[hG,hG,b2o]
 rw[<-hG] at hr;clear hG;refine a4e (a0k AC okP h2k _ rfl fun E0 Sg hb hS=> ?_);have e:=b2k hS;cbv;refine a7r AC okP hS (fun i=>i<=nn/\(lv=0->i=0)) (fun i=>nn-i)
  (fun i=>⟨b5r [(1,int lv),(2,.ptr 0 0),(5,int (G i)),(6,int i)] 30,[.var [int l,vsl nc c,.d (.sl 3 nn fun i=>[.int .i64 (.v (lk i)),.sl 2 (ncs i) (C i),.sl 3 (nns i) (E i)])]],[]⟩) 0 ⟨by omega,fun _=>rfl⟩ ?_ ?_
 ·exact a4c rfl ⟨AE _,AE _,a6c (by rw[hG0];rfl),a6c rfl,trivial⟩ (.same _) (by omega) (.inr rfl) rfl
 ·rintro i ⟨hi,hz⟩ N hN;cbv;split
  ·rename_i h;have hlt:i<nn:=d3r hS h;cbv;split
   ·rename_i h;have h4:0<lv:=Int.ofNat_lt.1 (b3h hS h);cbv;simp only[nat,e.toNat,AA,AI];refine a1g hS (a5p hS hlt) ?_;refine a1g hS (a9o hS (by omega)) ?_;obtain⟨g1,g2⟩:=hrr i hlt h4;cbv;have g4:a0j AB AG 26 [.agg [int (lk i),.d (.sl 2 (ncs i) (C i)),.d (.sl 3 (nns i) (E i))],int (Sg.isub (AD lv) (AD 1))] (int (rr i)):=by rw[e.isub];exact g1
    refine a0v hS (int (rr i)) g4 ?_;have em:Sg.isel (Sg.ilt (AD (G i)) (Sg.iadd (AD 1) (AD (rr i)))) (Sg.iadd (AD 1) (AD (rr i))) (AD (G i))=((G (i+1):Nat):Int):=by rw[e.iadd,e.ilt,e.isel,hGs];simp only[AA,decide_eq_true_eq];split<;>omega
    cbv;refine a1g hS (a4p hS (by simp only[AA];omega)) ?_;refine a1g hS (a4p hS (by simp only[AA];omega)) ?_;exact hN (i+1) _ ⟨by omega,by omega⟩ (by omega) (a4c rfl ⟨AE _,AE _,b0a em,b2s hS,trivial⟩ (.same _) (by omega) (.inr rfl) rfl)
   ·rename_i h;have h4:lv<=0:=Int.ofNat_le.1 (b3r hS h);cbv;have h0:=hz (by omega);exact b0a (by rw[hr,if_neg (by omega),h0,hG0])
  ·rename_i h;have hlt:nn<=i:=d3c hS h;cbv;have h0:i=nn:=by omega
   exact b0a (by
    rw[hr];by_cases h:0<lv
    ·rw[if_pos h,h0]
    ·rw[if_neg h,hz (by omega),hG0])
theorem e2k: ∀(lv:Nat),lv<=6-> ∀p:PlR,p.ok->a0j AB AG 26 [p.av,int lv] (int (PlR.deep lv p))/\PlR.deep lv p<=lv:=by
 intro lv
 induction lv with
 |zero=>intro _ p hp;exact⟨c8d 0 (by omega) p hp (fun _=>0) (fun i _ h=>absurd h (by omega)) _ rfl,Nat.le_refl _⟩
 |succ lv ih=>
  intro hlv p hp;obtain⟨_,h1,h2,_,h4⟩:=p.ok_iff.1 hp;have es:((lv+1:Nat):Int)-1=lv:=by omega
  refine⟨c8d (lv+1) hlv p hp (fun i=>PlR.deep lv (p.nx i)) (fun i hi _=> ?_) _ (by rw[if_pos (by omega)];rfl),?_⟩
  ·rw[es];have:=ih (by omega) (p.nx i) (h4 i hi);exact⟨this.1,by omega⟩
  ·exact c0n fun i hi=>by have:=(ih (by omega) (p.nx i) (h4 i hi)).2;omega
end Go.Proofs.Tryz.Run
