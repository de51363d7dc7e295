/- The program's test that all diagrams of a family have the frame. Plans as data; how many cells and plans they have (size, ThinPlan). Plans: ThinPlan, Deep, IsPlan. Plans that have their form: IsPlan. Conditions: none. -/
import Derived.Test.YtbglklaocjifhaaGreatBHb
open Int renaming ofNat_eq_natCast->AA,ofNat->AC,toNat_natCast->AG,ofNat_lt->AI,ofNat_le->AJ
open Go.Proofs.Tryz renaming prog->AB
open Go.Vf.a0x renaming refl->AD
open Go.Proofs.YtbglklaocjifhaaGreat.Tryz renaming mixed->AE
open Bool renaming true->AF,noConfusion->AH,false->AK
open List renaming length_cons->AL,length_nil->AM
set_option linter.unusedSimpArgs false
set_option linter.unusedVariables false
set_option maxHeartbeats 0
namespace Go.Proofs.Tryz.Run
open Go Go.Vf Go.Proofs
open Go.Proofs.YtbglklaocjifhaaGreat
theorem i7e {ns no:Nat}(sz od:Nat->Int)(d:DiR)(hd:d.ns<=1000000/\d.no<=1000000)(r:Bool)(hr:r=AF↔L d.ns d.sz=L ns sz/\L d.no d.od=L no od):
 a0j AB AF 135 [.agg [isl ns sz,isl no od],d.av] (bool r):=by
 obtain⟨z,hz⟩: ∃z:Bool,z=AF↔L d.ns d.sz=L ns sz:=by classical exact⟨decide _,decide_eq_true_iff⟩
 obtain⟨z2,hz2⟩: ∃z:Bool,z=AF↔L d.no d.od=L no od:=by classical exact⟨decide _,decide_eq_true_iff⟩
 have h1:=h4z hd.1 d.sz sz z hz;have h2:=h4z hd.2 d.od od z2 hz2;rw[<-hz,<-hz2] at hr;clear hz hz2 hd;obtain⟨ns',sz',no',od',ne,en,nn,var,nk,kid,root⟩:=d;refine a1e (a0k AE okP f2g _ rfl fun E Sg hb hS=> ?_);cbv;refine a0v hS (bool z) (by subst hS;exact h1) ?_;cases z
 ·cbv;exact e8z hr fun h=>AH h.1
 cbv;refine a0v hS (bool z2) (by subst hS;exact h2) ?_;cbv;refine a0s ?_;cases r<;>cases z2<;>simp at hr⊢
theorem i1n {n:Nat}(hn:n<=1000000)(l:Nat->DiR)(H':List a0f)(gid:FuncId)(a:Nat)(p:Nat->Bool)
 (hp: ∀i,i<n->a1h AB gid [(l i).av,.ptr a 0] (.arr 5 n (fun i=>(l i).row)::H') (ro (.arr 5 n (fun i=>(l i).row)::H') (bool (p i)))) (r:Int) (hr:a6z n p r):
 a1h AB 205 [.msl 0 5 none n AK,.fn gid [] [.ptr a 0]] (.arr 5 n (fun i=>(l i).row)::H') (ro (.arr 5 n (fun i=>(l i).row)::H') (int r)):=by
 refine a2y AE okP e9r _ rfl fun E Sg hb hS=> ?_;have ett: ∀z,Sg.toNat z=z.toNat:=by subst hS;exact fun _=>rfl
 cbv;refine a7r AE okP hS (fun i=>i<=n/\ ∀j,j<i->p j=AK) (fun i=>n-i)
  (fun i=>⟨b5r [(0,.msl 0 5 none n AK),(1,.fn gid [] [.ptr a 0]),(7,int n),(8,int i)] 19,.arr 5 n (fun i=>(l i).row)::H',[]⟩) 0 ⟨by omega,by omega⟩ ?_ ?_
 ·exact a4c rfl ⟨AD _,AD _,b0a (by subst hS;rfl),a6c rfl,trivial⟩ (.same _) (by omega) (.inr rfl) rfl
 ·intro i hi N hN;have hin:=hp i;clear hp;cbv;split
  ·cbv;have hlt:i<n:=by clear hin hN hr;subst hS;simp[std] at*;omega
   have hin:=hin hlt;generalize hz:p i=z at hin;refine a1g hS (by clear hin hN hr;subst hS;simp[std];omega) ?_;refine a1g hS (by clear hin hN hr;subst hS;simp[std,nat];omega) ?_;simp only[nat,ett,AA,AG];refine a3v hS (r:=bool z) (by subst hS;exact hin) ?_;cases z
   ·cbv;refine a1g hS (by clear hin hN hr;subst hS;exact b6g (by simp[std];omega) (by simp[std];omega)) ?_;refine hN (i+1) _ ⟨by omega,fun j hj=> ?_⟩ (by omega) (a4c rfl ⟨AD _,AD _,AD _,b0a ?_,trivial⟩ (.same _) (by omega) (.inr rfl) rfl)
    ·by_cases e:j=i
     ·subst e;exact hz
     ·exact hi.2 j (by omega)
    ·clear hin hN hr;subst hS;simp[std]
   ·cbv;exact a2s (b0a (hr.2 i hlt hz hi.2).symm) (.same _) (.inr rfl)
  ·have hni:n<=i:=by clear hin hN hr;subst hS;simp[std] at*;omega
   cbv;exact a2s (a6c (hr.1 fun j hj=>hi.2 j (by omega)).symm) (.same _) (.inr rfl)
theorem h8d {n:Nat}(hn:n<=1000000)(l:Nat->DiR)(H':List a0f)(gid:FuncId)(a:Nat)(p:Nat->Bool)
 (hp: ∀i,i<n->a1h AB gid [(l i).av,.ptr a 0] (.arr 5 n (fun i=>(l i).row)::H') (ro (.arr 5 n (fun i=>(l i).row)::H') (bool (p i)))) (r:Bool) (hr:r=AF↔ ∃i,i<n/\p i=AF):
 a1h AB 174 [.msl 0 5 none n AK,.fn gid [] [.ptr a 0]] (.arr 5 n (fun i=>(l i).row)::H') (ro (.arr 5 n (fun i=>(l i).row)::H') (bool r)):=by
 obtain⟨z,hz,hz1,hz2⟩: ∃z,a6z n p z/\(0<=z-> ∃i,i<n/\p i=AF)/\((∃i,i<n/\p i=AF)->0<=z):=a9i n p;have hin:=i1n hn l H' gid a p hp z hz;have hzr:0<=z↔r=AF:=⟨fun h=>hr.2 (hz1 h),fun h=>hz2 (hr.1 h)⟩;clear hp hz hz1 hz2 hr;refine a2y AE okP e8e _ rfl fun E Sg hb hS=> ?_;cbv;refine a3v hS hin ?_;cbv;refine a2s (a0s ?_) (.same _) (.inr rfl);clear hin;subst hS;simp[std];cases r
 ·simp at hzr⊢;omega
 ·simpa using hzr
def i7b (ns no:Nat)(sz od:Nat->Int)(n:Nat)(l:Nat->DiR):List a0f:=[.arr 5 n (fun i=>(l i).row),.var [.fn 135 [.agg [isl ns sz,isl no od]] []]]
theorem i5o {ns no:Nat}(sz od:Nat->Int)(d:DiR)(hd:d.ns<=1000000/\d.no<=1000000)(n:Nat)(l:Nat->DiR)(r:Bool)(hr:r=AF↔ ¬(L d.ns d.sz=L ns sz/\L d.no d.od=L no od)):
 a1h AB 175 [d.av,.ptr 1 0] (i7b ns no sz od n l) (ro (i7b ns no sz od n l) (bool r)):=by
 have h1:=i7e (ns:=ns) (no:=no) sz od d hd (!r) (by
  cases r
  ·exact⟨fun _=>Classical.byContradiction fun h=>AH (hr.2 h),fun _=>rfl⟩
  ·exact⟨fun h=>AH h,fun h=>absurd h (hr.1 rfl)⟩)
 clear hr hd;obtain⟨ns',sz',no',od',ne,en,nn,var,nk,kid,root⟩:=d;refine a2y AE okP e9v _ rfl fun E Sg hb hS=> ?_;simp only[i7b,AL,AM] at hb;cbv;refine a3v hS (a1h.of_pure rfl h1) ?_;cases r<;>cbv<;>exact a2s (a0s rfl) (.cons (.refl _) (.cons (.refl _) (.nil _))) (.inl ⟨rfl,rfl⟩)
theorem i1m {ns no:Nat}(sz od:Nat->Int){n:Nat}(hn:n<=1000000)(l:Nat->DiR)(hd: ∀i,i<n->(l i).ns<=1000000/\(l i).no<=1000000)(r:Bool)
 (hr:r=AF↔ ∀i,i<n->L (l i).ns (l i).sz=L ns sz/\L (l i).no (l i).od=L no od):
 a1h AB 136 [.msl 0 5 none n AK,.fn 135 [.agg [isl ns sz,isl no od]] []] [.arr 5 n (fun i=>(l i).row)] (ro [.arr 5 n (fun i=>(l i).row)] (bool r)):=by
 obtain⟨p,hp⟩: ∃p:Nat->Bool,∀i,p i=AF↔ ¬(L (l i).ns (l i).sz=L ns sz/\L (l i).no (l i).od=L no od):=by classical exact⟨fun i=>decide (¬_),fun i=>decide_eq_true_iff⟩
 have hin:=h8d hn l [.var [.fn 135 [.agg [isl ns sz,isl no od]] []]] 175 1 p (fun i hi=>i5o sz od (l i) (hd i hi) n l (p i) (hp i)) (!r) (d2b hp hr);clear hr hp hd;refine a2y AE okP e7o _ rfl fun E Sg hb hS=> ?_;simp only[AL,AM] at hb;cbv;refine a3v hS hin ?_;cases r<;>cbv<;>exact a2s (a0s rfl) (.cons (.refl _) (.nil _)) (.inl ⟨rfl,rfl⟩)
inductive PlR where
 |none
 |mk (look:Int) (nc:Nat) (c:Nat->VaR) (nn:Nat) (nx:Nat->PlR)
def PlR.look:PlR->Int| .none=>0| .mk l _ _ _ _=>l
def PlR.nc:PlR->Nat| .none=>0| .mk _ n _ _ _=>n
def PlR.c:PlR->Nat->VaR| .none=>fun _=>⟨0,0⟩| .mk _ _ c _ _=>c
def PlR.nn:PlR->Nat| .none=>0| .mk _ _ _ n _=>n
def PlR.nx:PlR->Nat->PlR| .none=>fun _=> .none| .mk _ _ _ _ f=>f
def d4k:List DV:=[.int .i64 (.v 0),.sl 2 0 fun _=>[],.sl 3 0 fun _=>[]]
def PlR.row:PlR->List DV
 | .none=>[.int .i64 (.v 0),.sl 2 0 fun _=>(VaR.mk 0 0).row,.sl 3 0 fun _=>d4k]
 | .mk l nc c nn nx=>[.int .i64 (.v l),.sl 2 nc fun i=>(c i).row,.sl 3 nn fun i=>if i<nn then (nx i).row else d4k]
def PlR.av:PlR->AV
 | .none=> .agg [int 0,vsl 0 fun _=>⟨0,0⟩,.d (.sl 3 0 fun _=>d4k)]
 | .mk l nc c nn nx=> .agg [int l,vsl nc c,.d (.sl 3 nn fun i=>if i<nn then (nx i).row else d4k)]
theorem PlR.rowE (q:PlR):q.row=[.int .i64 (.v q.look),.sl 2 q.nc fun j=>(q.c j).row,.sl 3 q.nn fun j=>if j<q.nn then (q.nx j).row else d4k]:=by
 cases q with
 |none=>simp[PlR.row,PlR.look,PlR.nc,PlR.c,PlR.nn]
 |mk=>rfl
theorem PlR.avE (q:PlR):q.av= .agg [int q.look,.d (.sl 2 q.nc fun j=>(q.c j).row),.d (.sl 3 q.nn fun j=>if j<q.nn then (q.nx j).row else d4k)]:=by
 cases q with
 |none=>simp[PlR.av,PlR.look,PlR.nc,PlR.c,PlR.nn,vsl]
 |mk=>rfl
theorem PlR.kids (p:PlR): ∃(lk:Nat->Int) (nc nn:Nat->Nat) (C E:Nat->Nat->List DV),(∀i,i<p.nn->(p.nx i).row=[.int .i64 (.v (lk i)),.sl 2 (nc i) (C i),.sl 3 (nn i) (E i)])/\
 (∀i,i<p.nn->(p.nx i).av= .agg [int (lk i),.d (.sl 2 (nc i) (C i)),.d (.sl 3 (nn i) (E i))])/\p.av= .agg [int p.look,vsl p.nc p.c,.d (.sl 3 p.nn fun i=>[.int .i64 (.v (lk i)),.sl 2 (nc i) (C i),.sl 3 (nn i) (E i)])]:=by
 refine⟨fun i=>if i<p.nn then (p.nx i).look else 0,fun i=>if i<p.nn then (p.nx i).nc else 0,fun i=>if i<p.nn then (p.nx i).nn else 0,fun i j=>if i<p.nn then ((p.nx i).c j).row else [],
  fun i j=>if i<p.nn then (if j<(p.nx i).nn then ((p.nx i).nx j).row else d4k) else [],fun i hi=> ?_,fun i hi=> ?_,?_⟩
 ·simp only[if_pos hi];exact PlR.rowE _
 ·simp only[if_pos hi];exact PlR.avE _
 ·rw[PlR.avE p];have:(fun j=>if j<p.nn then (p.nx j).row else d4k)=fun i=>[.int .i64 (.v (if i<p.nn then (p.nx i).look else 0)),.sl 2 (if i<p.nn then (p.nx i).nc else 0) (fun j=>if i<p.nn then ((p.nx i).c j).row else []),.sl 3 (if i<p.nn then (p.nx i).nn else 0) (fun j=>if i<p.nn then (if j<(p.nx i).nn then ((p.nx i).nx j).row else d4k) else [])]:=funext fun i=>by
   by_cases hi:i<p.nn
   ·simp only[if_pos hi];exact PlR.rowE _
   ·simp only[if_neg hi];rfl
  rw[this];rfl
def PlR.ok:PlR->Prop
 | .none=>True
 | .mk l nc c nn nx=>c5t l/\nc<=140737488355328/\nn<=140737488355328/\(∀i,i<nc->(0<=(c i).fault/\(c i).fault<=255)/\c5t (c i).n)/\ ∀i,i<nn->(nx i).ok
theorem PlR.ok_iff (p:PlR):p.ok↔c5t p.look/\p.nc<=140737488355328/\p.nn<=140737488355328/\(∀i,i<p.nc->(0<=(p.c i).fault/\(p.c i).fault<=255)/\c5t (p.c i).n)/\ ∀i,i<p.nn->(p.nx i).ok:=by
 cases p with
 |none=>exact⟨fun _=>⟨⟨by decide,by decide⟩,by decide,by decide,fun i hi=>absurd hi (Nat.not_lt_zero i),fun i hi=>absurd hi (Nat.not_lt_zero i)⟩,fun _=>trivial⟩
 |mk=>exact Iff.rfl
def b9p (f:Nat->Nat):Nat->Nat
 |0=>0
 |n+1=>b9p f n+f n
def PlR.cnt:Nat->PlR->Nat
 |0,p=>p.nc+p.nn
 |lv+1,p=>p.nc+p.nn+b9p (fun i=>PlR.cnt lv (p.nx i)) p.nn
def c4o (lv:Nat)(rr:Nat->Int)(nn:Nat):Nat->Nat->Int->Int
 |0,_,n=>n
 |k+1,i,n=>if i<nn/\n<300/\0<lv then c4o lv rr nn k (i+1) (n+rr i) else n
theorem a5n {lv:Nat}{rr:Nat->Int}{nn k i:Nat}{n:Int}(h: ¬(i<nn/\n<300/\0<lv)):c4o lv rr nn k i n=n:=by
 cases k with
 |zero=>rfl
 |succ k=>rw[c4o,if_neg h]
theorem c9z {lv:Nat}{rr:Nat->Int}{nn:Nat}{B:Int}{f:Nat->Nat}(hr: ∀i,i<nn->0<lv->0<=rr i/\rr i<=B/\(rr i<300->rr i=f i)/\(300<=rr i->300<=f i))(hB:0<=B)(a:Nat)(B2:Int)(hB2:300+B<=B2)(ha:(a:Int)<=B2)(hlv:0<lv):
 ∀(k i:Nat) (n:Int),k+i=nn->0<=n->n<=B2->(n<300->n=a+b9p f i)->(300<=n->300<=a+b9p f i)->
 0<=c4o lv rr nn k i n/\c4o lv rr nn k i n<=B2/\(c4o lv rr nn k i n<300->c4o lv rr nn k i n=a+b9p f nn)/\(300<=c4o lv rr nn k i n->300<=a+b9p f nn):=by
 have mono: ∀i j,i<=j->b9p f i<=b9p f j:=fun i j hij=>by
  induction hij with
  |refl=>exact Nat.le_refl _
  |step h ih=>exact Nat.le_trans ih (by simp[b9p])
 intro k
 induction k with
 |zero=>
  intro i n hk h0 h1 h2 h3;have:i=nn:=by omega
  subst this;exact⟨h0,h1,h2,h3⟩
 |succ k ih=>
  intro i n hk h0 h1 h2 h3;have hi:i<nn:=by omega
  by_cases hc:n<300
  ·rw[c4o,if_pos ⟨hi,hc,hlv⟩];obtain⟨r0,r1,r2,r3⟩:=hr i hi hlv;have e:=h2 hc;have hp:b9p f (i+1)=b9p f i+f i:=rfl;refine ih (i+1) (n+rr i) (by omega) (by omega) (by omega) (fun h=> ?_) (fun h=> ?_)
   ·rw[hp];have:=r2 (by omega);omega
   ·rw[hp];by_cases h4:rr i<300
    ·have:=r2 h4;omega
    ·have:=r3 (by omega);omega
  ·rw[a5n (by omega)];refine⟨h0,h1,fun h=>absurd h hc,fun h=> ?_⟩;have:=h3 h;have:=mono i nn (by omega);omega
theorem c7x (lv:Nat)(hlv:lv<=6)(p:PlR)(hp:p.ok)(rr:Nat->Int)(hrr: ∀i,i<p.nn->0<lv->a0j AB AF 77 [(p.nx i).av,int ((lv:Int)-1)] (int (rr i))/\0<=rr i/\rr i<=281474976713656)(r:Int)(hr:c4o lv rr p.nn p.nn 0 ((p.nc:Int)+p.nn)=r):
 a0j AB AF 77 [p.av,int lv] (int r):=by
 obtain⟨lk,ncs,nns,C,E,hrow,hav,hpav⟩:=p.kids;obtain⟨_,h1,h2,_,_⟩:=p.ok_iff.1 hp;rw[hpav];simp+contextual only[hav] at hrr;clear hpav hav hrow hp;obtain⟨l,hl⟩: ∃l,p.look=l:=⟨_,rfl⟩;obtain⟨nc,hnc⟩: ∃l,p.nc=l:=⟨_,rfl⟩;obtain⟨nn,hnn⟩: ∃l,p.nn=l:=⟨_,rfl⟩;obtain⟨c,hc⟩: ∃l,p.c=l:=⟨_,rfl⟩;rw[hl,hnc,hnn,hc];rw[hnc] at h1 hr;rw[hnn] at h2 hr hrr;clear hl hnc hnn hc;refine a4e (a0k AE okP g7g _ rfl fun E0 Sg hb hS=> ?_);have e:=b2k hS;cbv;refine a1g hS (a4p hS (by simp only[e.ofNat];omega)) ?_;refine a7r AE okP hS (σ:=Nat×Int) (fun s=>s.1<=nn/\c4o lv rr nn (nn-s.1) s.1 s.2=r/\0<=s.2/\s.2<=281474976713956) (fun s=>nn-s.1)
  (fun s=>⟨b5r [(1,int lv),(2,.ptr 0 0),(5,int s.2),(6,int s.1)] 40,[.var [int l,vsl nc c,.d (.sl 3 nn fun i=>[.int .i64 (.v (lk i)),.sl 2 (ncs i) (C i),.sl 3 (nns i) (E i)])]],[]⟩) (0,(nc:Int)+nn) ⟨by simp,by simpa using hr,by simp;omega,by simp;omega⟩ ?_ ?_
 ·exact a4c rfl ⟨AD _,AD _,b0a (by simp only[e.iadd,e.ofNat]),a6c rfl,trivial⟩ (.same _) (by omega) (.inr rfl) rfl
 ·rintro⟨i,n⟩ ⟨hi,hz,h0,hB⟩ N hN;simp only at hi hz h0 hB hN;cbv;split
  ·rename_i h;have hlt:i<nn:=d3r hS h;cbv;split
   ·rename_i h;have h3:n<300:=b3h hS h;cbv;split
    ·rename_i h;have h4:0<lv:=AI.1 (b3h hS h);cbv;simp only[nat,e.toNat,AA,AG];refine a1g hS (a5p hS hlt) ?_;refine a1g hS (a9o hS (by omega)) ?_;obtain⟨g1,g2,g3⟩:=hrr i hlt h4;cbv;have g4:a0j AB AF 77 [.agg [int (lk i),.d (.sl 2 (ncs i) (C i)),.d (.sl 3 (nns i) (E i))],int (Sg.isub (AC lv) (AC 1))] (int (rr i)):=by rw[e.isub];exact g1
     refine a0v hS (int (rr i)) g4 ?_;cbv;refine a1g hS (a4p hS (by omega)) ?_;refine a1g hS (a4p hS (by simp only[AA];omega)) ?_;cbv;refine hN (i+1,n+rr i) _ ⟨by omega,?_,by omega,by omega⟩ (by omega) (a4c rfl ⟨AD _,AD _,b0a (e.iadd _ _),b2s hS,trivial⟩ (.same _) (by omega) (.inr rfl) rfl);have hk:nn-i=nn-(i+1)+1:=by omega
     rw[hk,c4o,if_pos ⟨hlt,h3,h4⟩] at hz;exact hz
    ·rename_i h;have h4:lv<=0:=AJ.1 (b3r hS h);cbv;rw[a5n (by omega)] at hz;exact b0a hz
   ·rename_i h;have h3:300<=n:=b3r hS h;cbv;rw[a5n (by omega)] at hz;exact b0a hz
  ·rename_i h;have hlt:nn<=i:=d3c hS h;cbv;rw[a5n (by omega)] at hz;exact b0a hz
theorem e3e: ∀(lv:Nat),lv<=6-> ∀p:PlR,p.ok-> ∃r:Int,a0j AB AF 77 [p.av,int lv] (int r)/\0<=r/\r<=281474976710656+300*lv/\(r<300->r=PlR.cnt lv p)/\(300<=r->300<=PlR.cnt lv p):=by
 intro lv
 induction lv with
 |zero=>intro _ p hp;obtain⟨_,h1,h2,_,_⟩:=p.ok_iff.1 hp;have hs:c4o 0 (fun _=>0) p.nn p.nn 0 ((p.nc:Int)+p.nn)=(p.nc:Int)+p.nn:=a5n (by omega);refine⟨_,c7x 0 (by omega) p hp (fun _=>0) (fun i _ h=>absurd h (by omega)) _ rfl,?_⟩;rw[hs];exact⟨by omega,by omega,fun _=>by simp[PlR.cnt],fun h=>by simp only[PlR.cnt];omega⟩
 |succ lv ih=>
  intro hlv p hp;obtain⟨_,h1,h2,_,h4⟩:=p.ok_iff.1 hp;have hi: ∀i,∃r:Int,i<p.nn->a0j AB AF 77 [(p.nx i).av,int lv] (int r)/\0<=r/\r<=281474976710656+300*lv/\(r<300->r=PlR.cnt lv (p.nx i))/\(300<=r->300<=PlR.cnt lv (p.nx i)):=fun i=>by
   by_cases h:i<p.nn
   ·obtain⟨r,hr⟩:=ih (by omega) (p.nx i) (h4 i h);exact⟨r,fun _=>hr⟩
   ·exact⟨0,fun h'=>absurd h' h⟩
  obtain⟨rr,hrr⟩:=Classical.axiomOfChoice hi;have es:((lv+1:Nat):Int)-1=lv:=by omega
  refine⟨_,c7x (lv+1) hlv p hp rr (fun i hi _=> ?_) _ rfl,?_⟩
  ·rw[es];obtain⟨a1,a2,a3,_⟩:=hrr i hi;exact⟨a1,a2,by omega⟩
  ·have:=c9z (lv:=lv+1) (rr:=rr) (nn:=p.nn) (B:=281474976710656+300*lv) (f:=fun i=>PlR.cnt lv (p.nx i)) (fun i hi _=>(hrr i hi).2) (by omega) (p.nc+p.nn) (281474976710656+300*(lv+1:Nat)) (by omega) (by omega) (by omega) p.nn 0 ((p.nc:Int)+p.nn) (by omega) (by omega) (by omega) (fun h=>by simp[b9p]) (fun h=>by simp only[b9p];omega);simpa only[PlR.cnt,Int.natCast_add] using this
theorem e4c (p:PlR)(hp:p.ok)(r:Bool)(hr:r=AF↔PlR.cnt 6 p<300):a0j AB AF 23 [p.av] (bool r):=by
 obtain⟨lk,ncs,nns,C,E,hrow,hav,hpav⟩:=p.kids;obtain⟨r0,h0,h1,h2,h3,h4⟩:=e3e 6 (by omega) p hp;have hr2:decide (r0<300)=r:=by
  by_cases h:r0<300
  ·have:=h3 h;rw[decide_eq_true h];exact (hr.2 (by omega)).symm
  ·have:=h4 (by omega);rw[decide_eq_false h];cases r with
   |false=>rfl
   |true=>have:=hr.1 rfl;omega
 rw[hpav] at h0⊢;clear hpav hav hrow hr;obtain⟨l,hl⟩: ∃l,p.look=l:=⟨_,rfl⟩;obtain⟨nc,hnc⟩: ∃l,p.nc=l:=⟨_,rfl⟩;obtain⟨nn,hnn⟩: ∃l,p.nn=l:=⟨_,rfl⟩;obtain⟨c,hc⟩: ∃l,p.c=l:=⟨_,rfl⟩;rw[hl,hnc,hnn,hc] at h0⊢;refine a1e (a0k AE okP h1w _ rfl fun E0 Sg hb hS=> ?_);have e:=b2k hS;cbv;refine a0v hS (int r0) h0 ?_;cbv;exact a0s ((e.ilt _ _).trans hr2)
def b2o (f:Nat->Nat):Nat->Nat
 |0=>0
 |n+1=>max (b2o f n) (f n)
theorem c0n {f:Nat->Nat}{B n:Nat}(h: ∀i,i<n->f i<=B):b2o f n<=B:=by
 induction n with
 |zero=>exact Nat.zero_le _
 |succ n ih=>have:=ih fun i hi=>h i (by omega);have:=h n (by omega);simp only[b2o];omega
def PlR.deep:Nat->PlR->Nat
 |0,_=>0
 |lv+1,p=>b2o (fun i=>1+PlR.deep lv (p.nx i)) p.nn
theorem c8d (lv:Nat)(hlv:lv<=6)(p:PlR)(hp:p.ok)(rr:Nat->Nat)(hrr: ∀i,i<p.nn->0<lv->a0j AB AF 26 [(p.nx i).av,int ((lv:Int)-1)] (int (rr i))/\rr i<=6)(r:Nat)(hr:r=if 0<lv then b2o (fun i=>1+rr i) p.nn else 0):
 a0j AB AF 26 [p.av,int lv] (int r):=by
 obtain⟨lk,ncs,nns,C,E,hrow,hav,hpav⟩:=p.kids;obtain⟨_,h1,h2,_,_⟩:=p.ok_iff.1 hp;rw[hpav];simp+contextual only[hav] at hrr;clear hpav hav hrow hp;obtain⟨l,hl⟩: ∃l,p.look=l:=⟨_,rfl⟩;obtain⟨nc,hnc⟩: ∃l,p.nc=l:=⟨_,rfl⟩;obtain⟨nn,hnn⟩: ∃l,p.nn=l:=⟨_,rfl⟩;obtain⟨c,hc⟩: ∃l,p.c=l:=⟨_,rfl⟩;rw[hl,hnc,hnn,hc];rw[hnc] at h1;rw[hnn] at h2 hr hrr;clear hl hnc hnn hc;obtain⟨G,hG⟩: ∃G:Nat->Nat,∀i,G i=b2o (fun i=>1+rr i) i:=⟨_,fun _=>rfl⟩;have hG0:G 0=0:=hG 0;have hGs: ∀i,G (i+1)=max (G i) (1+rr i):=fun i=>by rw[hG,hG,b2o]
 rw[<-hG] at hr;clear hG;refine a4e (a0k AE okP h2k _ rfl fun E0 Sg hb hS=> ?_);have e:=b2k hS;cbv;refine a7r AE okP hS (fun i=>i<=nn/\(lv=0->i=0)) (fun i=>nn-i)
  (fun i=>⟨b5r [(1,int lv),(2,.ptr 0 0),(5,int (G i)),(6,int i)] 30,[.var [int l,vsl nc c,.d (.sl 3 nn fun i=>[.int .i64 (.v (lk i)),.sl 2 (ncs i) (C i),.sl 3 (nns i) (E i)])]],[]⟩) 0 ⟨by omega,fun _=>rfl⟩ ?_ ?_
 ·exact a4c rfl ⟨AD _,AD _,a6c (by rw[hG0];rfl),a6c rfl,trivial⟩ (.same _) (by omega) (.inr rfl) rfl
 ·rintro i ⟨hi,hz⟩ N hN;cbv;split
  ·rename_i h;have hlt:i<nn:=d3r hS h;cbv;split
   ·rename_i h;have h4:0<lv:=AI.1 (b3h hS h);cbv;simp only[nat,e.toNat,AA,AG];refine a1g hS (a5p hS hlt) ?_;refine a1g hS (a9o hS (by omega)) ?_;obtain⟨g1,g2⟩:=hrr i hlt h4;cbv;have g4:a0j AB AF 26 [.agg [int (lk i),.d (.sl 2 (ncs i) (C i)),.d (.sl 3 (nns i) (E i))],int (Sg.isub (AC lv) (AC 1))] (int (rr i)):=by rw[e.isub];exact g1
    refine a0v hS (int (rr i)) g4 ?_;have em:Sg.isel (Sg.ilt (AC (G i)) (Sg.iadd (AC 1) (AC (rr i)))) (Sg.iadd (AC 1) (AC (rr i))) (AC (G i))=((G (i+1):Nat):Int):=by rw[e.iadd,e.ilt,e.isel,hGs];simp only[AA,decide_eq_true_eq];split<;>omega
    cbv;refine a1g hS (a4p hS (by simp only[AA];omega)) ?_;refine a1g hS (a4p hS (by simp only[AA];omega)) ?_;exact hN (i+1) _ ⟨by omega,by omega⟩ (by omega) (a4c rfl ⟨AD _,AD _,b0a em,b2s hS,trivial⟩ (.same _) (by omega) (.inr rfl) rfl)
   ·rename_i h;have h4:lv<=0:=AJ.1 (b3r hS h);cbv;have h0:=hz (by omega);exact b0a (by rw[hr,if_neg (by omega),h0,hG0])
  ·rename_i h;have hlt:nn<=i:=d3c hS h;cbv;have h0:i=nn:=by omega
   exact b0a (by
    rw[hr];by_cases h:0<lv
    ·rw[if_pos h,h0]
    ·rw[if_neg h,hz (by omega),hG0])
theorem e2k: ∀(lv:Nat),lv<=6-> ∀p:PlR,p.ok->a0j AB AF 26 [p.av,int lv] (int (PlR.deep lv p))/\PlR.deep lv p<=lv:=by
 intro lv
 induction lv with
 |zero=>intro _ p hp;exact⟨c8d 0 (by omega) p hp (fun _=>0) (fun i _ h=>absurd h (by omega)) _ rfl,Nat.le_refl _⟩
 |succ lv ih=>
  intro hlv p hp;obtain⟨_,h1,h2,_,h4⟩:=p.ok_iff.1 hp;have es:((lv+1:Nat):Int)-1=lv:=by omega
  refine⟨c8d (lv+1) hlv p hp (fun i=>PlR.deep lv (p.nx i)) (fun i hi _=> ?_) _ (by rw[if_pos (by omega)];rfl),?_⟩
  ·rw[es];have:=ih (by omega) (p.nx i) (h4 i hi);exact⟨this.1,by omega⟩
  ·exact c0n fun i hi=>by have:=(ih (by omega) (p.nx i) (h4 i hi)).2;omega
def PlR.good (d:Nat)(p:PlR)(b:Nat->Prop):Prop:=
 -1<=p.look/\p.look<4/\p.nn=p.nc/\(p.look= -1->p.nc=0)/\(p.look≠ -1->0<d/\0<p.nc/\ ∀i,i<p.nc->a1i (p.c i)/\(0<i->vlt (p.c (i-1)) (p.c i))/\b i)
def PlR.isP:Nat->PlR->Prop
 |0,p=>PlR.good 0 p fun _=>True
 |d+1,p=>PlR.good (d+1) p fun i=>PlR.isP d (p.nx i)
theorem b6f (d:Nat)(hd:d<=4)(p:PlR)(hp:p.ok)(b:Nat->Bool)(hrr: ∀i,i<p.nn->0<d->a0j AB AF 24 [(p.nx i).av,int ((d:Int)-1)] (bool (b i)))(r:Bool)(hr:r=AF↔p.good d fun i=>b i=AF):
 a0j AB AF 24 [p.av,int d] (bool r):=by
 classical
 obtain⟨lk,ncs,nns,C,E,hrow,hav,hpav⟩:=p.kids;obtain⟨_,h1,h2,hc0,_⟩:=p.ok_iff.1 hp;rw[hpav];simp+contextual only[hav] at hrr;clear hpav hav hrow hp;simp only[PlR.good] at hr;obtain⟨l,hl⟩: ∃l,p.look=l:=⟨_,rfl⟩;obtain⟨nc,hnc⟩: ∃l,p.nc=l:=⟨_,rfl⟩;obtain⟨nn,hnn⟩: ∃l,p.nn=l:=⟨_,rfl⟩;obtain⟨c,hc⟩: ∃l,p.c=l:=⟨_,rfl⟩;obtain⟨F,hF⟩: ∃F:Nat->Int,∀i,(c i).fault=F i:=⟨_,fun _=>rfl⟩;obtain⟨M,hM⟩: ∃M:Nat->Int,∀i,(c i).n=M i:=⟨_,fun _=>rfl⟩;have hcc: ∀i,c i=⟨F i,M i⟩:=fun i=>by rw[<-hF,<-hM]
 have hrw: ∀i,(c i).row=[.int .u8 (.v (F i)),.int .i64 (.v (M i))]:=fun i=>by rw[VaR.row,hF,hM]
 rw[hl,hnc,hnn,hc];rw[hl,hnc,hnn,hc] at hr;rw[hnc,hc] at hc0;rw[hnc] at h1;rw[hnn] at h2 hrr;simp only[hcc] at hr hc0;have hck: ∀i,i<nc->a0j AB AF 78 [.agg [u8 (F i),int (M i)]] (bool (decide (a1i ⟨F i,M i⟩))):=fun i hi=>g6y ⟨F i,M i⟩ (hc0 i hi).1.1 _ decide_eq_true_iff;have hlt: ∀i j,a0j AB AF 79 [.agg [u8 (F i),int (M i)],.agg [u8 (F j),int (M j)]] (bool (decide (vlt ⟨F i,M i⟩ ⟨F j,M j⟩))):=fun i j=>e2y ⟨F i,M i⟩ ⟨F j,M j⟩ _ decide_eq_true_iff;obtain⟨ck,hckd⟩: ∃ck:Nat->Bool,∀i,ck i=decide (a1i ⟨F i,M i⟩):=⟨_,fun _=>rfl⟩;obtain⟨lt,hltd⟩: ∃lt:Nat->Nat->Bool,∀i j,lt i j=decide (vlt ⟨F i,M i⟩ ⟨F j,M j⟩):=⟨_,fun _ _=>rfl⟩;simp only[<-hckd,<-hltd] at hck hlt;have hr2:r=AF↔ -1<=l/\l<4/\nn=nc/\(l= -1->nc=0)/\(l≠ -1->0<d/\0<nc/\ ∀i,i<nc->ck i=AF/\(0<i->lt (i-1) i=AF)/\b i=AF):=by rw[hr];simp only[hckd,hltd,decide_eq_true_eq]
 have hv:vsl nc c= .d (.sl 2 nc fun i=>[.int .u8 (.v (F i)),.int .i64 (.v (M i))]):=by simp only[vsl];congr 2;exact funext hrw
 rw[hv];clear hr hl hnc hnn hc hF hM hcc hrw hckd hltd hc0 hv;refine a1e (a0k AE okP g7x _ rfl fun E0 Sg hb hS=> ?_);have e:=b2k hS;have hfl: ∀z:Bool,r=z->a0x (.d (.bool z)) (.d (.bool r)):=fun z h=>a0s h.symm;have hF:(¬(-1<=l/\l<4/\nn=nc/\(l= -1->nc=0)/\(l≠ -1->0<d/\0<nc/\ ∀i,i<nc->ck i=AF/\(0<i->lt (i-1) i=AF)/\b i=AF)))->a0x (.d (.bool AK)) (.d (.bool r)):=fun h=>by rw[<-hr2] at h;exact a0s (by cases r<;>simp_all)
 have hT:(-1<=l/\l<4/\nn=nc/\(l= -1->nc=0)/\(l≠ -1->0<d/\0<nc/\ ∀i,i<nc->ck i=AF/\(0<i->lt (i-1) i=AF)/\b i=AF))->a0x (.d (.bool AF)) (.d (.bool r)):=fun h=>a0s (hr2.2 h).symm;clear hfl;cbv;split
 ·rename_i h;have h:l< -1:=b3h hS h;cbv;exact hF (by omega)
 rename_i h;have h5: -1<=l:=b3r hS h;cbv;split
 ·rename_i h;have h:4<=l:=e3n hS h;cbv;exact hF (by omega)
 rename_i h;have h6:l<4:=e3g hS h;cbv;split
 ·rename_i h;have h:nn≠nc:=fun h'=>e8q hS h (by rw[h']);cbv;exact hF (by omega)
 rename_i h;have h7:nn=nc:=by have:=e8o hS h;simp only[e.ofNat] at this;omega
 cbv;split
 ·rename_i h;have h8:l= -1:=e2h hS h;cbv;by_cases h9:nc=0
  ·have:Sg.ieq (Sg.ofNat nc) (AC 0)=AF:=by rw[e.ieq,e.ofNat,h9];rfl
   exact (a0s this).trans (hT ⟨h5,h6,h7,fun _=>h9,fun h=>absurd h8 h⟩)
  ·have:Sg.ieq (Sg.ofNat nc) (AC 0)=AK:=by rw[e.ieq,e.ofNat];simp;omega
   exact (a0s this).trans (hF (fun h=>h9 (h.2.2.2.1 h8)))
 rename_i h;have h8:l≠ -1:=c8k hS h;cbv;split
 ·rename_i h;have h9:d=0:=by have:(d:Int)=0:=e2h hS h;omega
  cbv;exact hF (fun h=>by have:=(h.2.2.2.2 h8).1;omega)
 rename_i h;have h9:0<d:=by have:(d:Int)≠0:=c8k hS h;omega
 cbv;split
 ·rename_i h;have h10:nc=0:=by have:Sg.ofNat nc=0:=e2h hS h;rw[e.ofNat] at this;omega
  cbv;exact hF (fun h=>by have:=(h.2.2.2.2 h8).2.1;omega)
 rename_i h;have h10:0<nc:=by have:Sg.ofNat nc≠0:=c8k hS h;rw[e.ofNat] at this;omega
 cbv;refine a7r AE okP hS (fun i=>i<=nc/\ ∀j,j<i->ck j=AF/\(0<j->lt (j-1) j=AF)/\b j=AF) (fun i=>nc-i)
  (fun i=>⟨b5r [(1,int d),(2,.ptr 0 0),(4,bool AK),(5,int i)] 82,[.var [int l,.d (.sl 2 nc fun i=>[.int .u8 (.v (F i)),.int .i64 (.v (M i))]),.d (.sl 3 nn fun i=>[.int .i64 (.v (lk i)),.sl 2 (ncs i) (C i),.sl 3 (nns i) (E i)])]],[]⟩) 0 ⟨by omega,fun j hj=>absurd hj (by omega)⟩ ?_ ?_
 ·exact a4c rfl ⟨AD _,AD _,AD _,a6c rfl,trivial⟩ (.same _) (by omega) (.inr rfl) rfl
 rintro i ⟨hi,hz⟩ N hN;cbv;split
 ·rename_i h;have hlt0:i<nc:=d3r hS h;cbv;simp only[nat,e.toNat,AA,AG];refine a1g hS (a5p hS hlt0) ?_;have hck1:=hck i hlt0;generalize hcz:ck i=z at hck1;cbv;refine a0v hS (bool z) hck1 ?_;cases z with
  |false=>cbv;exact hF (fun h=>by have:=((h.2.2.2.2 h8).2.2 i hlt0).1;rw[hcz] at this;cases this)
  |true=>
   cbv;split
   ·rename_i h;have h11:0<i:=AI.1 (b3h hS h);cbv;have e1:Sg.toNat (Sg.isub (AC i) (AC 1))=i-1:=by rw[e.isub,e.toNat];simp only[AA];omega
    have e2:Sg.toNat (AC i)=i:=by rw[e.toNat];rfl
    simp only[nat,e1,e2];refine a1g hS (a9o hS (by simp only[AA];omega)) ?_;refine a1g hS (d4s hS (by simp only[AA];omega)) ?_;refine a1g hS (a5p hS hlt0) ?_;have hlt1:=hlt (i-1) i;generalize hlz:lt (i-1) i=z at hlt1;cbv;refine a0v hS (bool z) hlt1 ?_;cases z with
    |false=>cbv;exact hF (fun h=>by have:=((h.2.2.2.2 h8).2.2 i hlt0).2.1 h11;rw[hlz] at this;cases this)
    |true=>
     cbv;have e2:Sg.toNat (AC i)=i:=by rw[e.toNat];rfl
     simp only[nat,e2];refine a1g hS (a9o hS (by simp only[AA];omega)) ?_;refine a1g hS (a5p hS (by omega)) ?_;have g1:=hrr i (by omega) h9;generalize hbz:b i=y at g1;cbv;have g4:a0j AB AF 24 [.agg [int (lk i),.d (.sl 2 (ncs i) (C i)),.d (.sl 3 (nns i) (E i))],int (Sg.isub (AC d) (AC 1))] (bool y):=by rw[e.isub];exact g1
     refine a0v hS (bool y) g4 ?_;cases y with
     |false=>cbv;exact hF (fun h=>by have:=((h.2.2.2.2 h8).2.2 i hlt0).2.2;rw[hbz] at this;cases this)
     |true=>
      cbv;refine a1g hS (a4p hS (by simp only[AA];omega)) ?_;exact hN (i+1) _ ⟨by omega,fun j hj=>by
       by_cases e:j=i
       ·rw[e];exact⟨hcz,fun h=>hlz,hbz⟩
       ·exact hz j (by omega)⟩ (by omega) (a4c rfl ⟨AD _,AD _,AD _,b2s hS,trivial⟩ (.same _) (by omega) (.inr rfl) rfl)
   ·rename_i h;have h11:i<=0:=AJ.1 (b3r hS h);cbv;have e2:Sg.toNat (AC i)=i:=by rw[e.toNat];rfl
    simp only[nat,e2];refine a1g hS (a9o hS (by simp only[AA];omega)) ?_;refine a1g hS (a5p hS (by omega)) ?_;have g1:=hrr i (by omega) h9;generalize hbz:b i=y at g1;cbv;have g4:a0j AB AF 24 [.agg [int (lk i),.d (.sl 2 (ncs i) (C i)),.d (.sl 3 (nns i) (E i))],int (Sg.isub (AC d) (AC 1))] (bool y):=by rw[e.isub];exact g1
    refine a0v hS (bool y) g4 ?_;cases y with
    |false=>cbv;exact hF (fun h=>by have:=((h.2.2.2.2 h8).2.2 i hlt0).2.2;rw[hbz] at this;cases this)
    |true=>
     cbv;refine a1g hS (a4p hS (by simp only[AA];omega)) ?_;exact hN (i+1) _ ⟨by omega,fun j hj=>by
      by_cases e:j=i
      ·rw[e];exact⟨hcz,fun h=>absurd h (by omega),hbz⟩
      ·exact hz j (by omega)⟩ (by omega) (a4c rfl ⟨AD _,AD _,AD _,b2s hS,trivial⟩ (.same _) (by omega) (.inr rfl) rfl)
 ·rename_i h;have hlt0:nc<=i:=d3c hS h;cbv;exact hT ⟨h5,h6,h7,fun h=>absurd h h8,fun _=>⟨h9,h10,fun j hj=>hz j (by omega)⟩⟩
theorem d1b: ∀(d:Nat),d<=4-> ∀p:PlR,p.ok-> ∀r:Bool,(r=AF↔p.isP d)->a0j AB AF 24 [p.av,int d] (bool r):=by
 classical
 intro d
 induction d with
 |zero=>intro _ p hp r hr;refine b6f 0 (by omega) p hp (fun _=>AF) (fun i _ h=>absurd h (by omega)) r ?_;rw[hr];simp only[PlR.isP,PlR.good]
 |succ d ih=>
  intro hd p hp r hr;obtain⟨_,h1,h2,_,h4⟩:=p.ok_iff.1 hp;have es:((d+1:Nat):Int)-1=d:=by omega
  refine b6f (d+1) hd p hp (fun i=>decide ((p.nx i).isP d)) (fun i hi _=> ?_) r ?_
  ·rw[es];exact ih (by omega) (p.nx i) (h4 i hi) _ decide_eq_true_iff
  ·rw[hr];simp only[PlR.isP,decide_eq_true_eq]
end Go.Proofs.Tryz.Run
