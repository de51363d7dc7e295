/- A plan's depth: depth, Depth, Form. A plan's depth: law of form and depth. Depth and Form of a plan. The walk of LookForms. Conditions: none. -/
import Derived.Test.YtbglklaocjifhaaGreatWLr
import Derived.Test.YtbglklaocjifhaaGreatWNb
import Derived.Test.YtbglklaocjifhaaGreatWNe
import Derived.Test.YtbglklaocjifhaaGreatWQd
import Derived.Test.YtbglklaocjifhaaGreatWQf
import Derived.Test.YtbglklaocjifhaaGreatWQi
import Derived.Test.YtbglklaocjifhaaGreatWSd
import Derived.Test.YtbglklaocjifhaaGreatWHb
import Derived.Test.YtbglklaocjifhaaGreatWHe
import Derived.Test.YtbglklaocjifhaaGreatWHh
set_option linter.unusedSimpArgs false
set_option linter.unusedVariables false
set_option maxHeartbeats 0
namespace Go.Proofs.Tryz.Run
open Go Go.Vf Go.Proofs
open Go.Proofs.YtbglklaocjifhaaGreat
theorem d3f (lv:Nat)(hlv:lv<=4)(l:Int)(nc:Nat)(F M:Nat->Int)(nn:Nat)(lk:Nat->Int)(ncs nns:Nat->Nat)(C E:Nat->Nat->List DV)(hnc:nc<=1000000)(hnn:nn<=1000000)(h0: ∀i,i<nc->0<=F i)
 (ca:Bool) (hca:ca=true↔ ∀i,i<nc->a1i ⟨F i,M i⟩/\(0<i->vlt ⟨F (i-1),M (i-1)⟩ ⟨F i,M i⟩))
 (ck:Bool) (hck:ck=(decide (-1<=l/\l<4)&&decide (0<=l\/nc+nn=0)&&decide (l<0\/0<nc/\nn=nc)&&ca))
 (dd:Nat->Nat) (zz:Nat->Bool) (hrr: ∀i,i<nn->0<lv->a0j Tryz.prog true 83 [.agg [int (lk i),.d (.sl 2 (ncs i) (C i)),.d (.sl 3 (nns i) (E i))],int ((lv:Int)-1)] (.tuple [int (dd i),bool (zz i)])/\dd i<=4)
 (r:Nat) (z:Bool) (hz:z=true↔ck=true/\(l<0\/0<lv/\ ∀i,i<nn->zz i=true)) (hr:r=if z=true then (if l<0 then 0 else b2o dd nn+1) else 0):
 a0j Tryz.prog true 83 [j5e l nc F M nn fun i=>[.int .i64 (.v (lk i)),.sl 2 (ncs i) (C i),.sl 3 (nns i) (E i)],int lv] (.tuple [int r,bool z]):=by
 have q:=d8w (l:=l) (nc:=nc) (F:=F) (M:=M) (nn:=nn) (E:=fun i=>[.int .i64 (.v (lk i)),.sl 2 (ncs i) (C i),.sl 3 (nns i) (E i)]) _ _ _ ca (d2m _ decide_eq_true_iff) (d7e hnc hnn _ decide_eq_true_iff) (b9x _ decide_eq_true_iff) (c5n hnc h0 ca hca) ck hck
 clear hca hck h0
 obtain⟨G,hG⟩: ∃G:Nat->Nat,∀i,G i=b2o dd i:=⟨_,fun _=>rfl⟩
 have hG0:G 0=0:=hG 0
 have hGs: ∀i,G (i+1)=max (G i) (dd i):=fun i=>by rw[hG,hG,b2o]
 have hGb: ∀i,i<=nn->0<lv->G i<=4:=fun i hi h=>by rw[hG];exact c0n fun j hj=>(hrr j (by omega) h).2
 rw[<-hG] at hr
 clear hG
 refine b4i (fun x hx=>by simp at hx;rcases hx with rfl|rfl<;>trivial) (a0k Tryz.mixed okP f5l _ rfl fun E0 Sg hb hS=> ?_)
 have e:=b2k hS
 cbv
 refine a3v hS q ?_
 have hFz:z=false->a0x (.tuple [.d (.int .i64 (.l (Int.ofNat 0))),bool false]) (.tuple [int r,bool z]):=fun h=>by
  rw[h] at hr
  exact a3x.tuple (.cons (a6c (by rw[hr];rfl)) (.cons (a0s h.symm) .nil))
 have hTz: ∀k:Int,z=true->(k=if l<0 then (0:Int) else (G nn:Int)+1)->a0x (.tuple [int k,bool true]) (.tuple [int r,bool z]):=fun k h hk=>by
  rw[if_pos h] at hr
  refine a3x.tuple (.cons (b0a ?_) (.cons (a0s h.symm) .nil))
  rw[hr,hk]
  split<;>rfl
 cases ck with
 |false=>
  have hz':z=false:=by
   cases z
   ·rfl
   ·exact absurd (hz.1 rfl).1 Bool.noConfusion
  cbv
  exact hFz hz'
 |true=>
  cbv
  split
  ·rename_i h
   have h5:l<0:=b3h hS h
   cbv
   have h6:=hz.2 ⟨rfl,.inl h5⟩
   rw[if_pos h6,if_pos h5] at hr
   exact a3x.tuple (.cons (a6c (by rw[hr])) (.cons (a0s h6.symm) .nil))
  rename_i h
  have h5:0<=l:=b3r hS h
  cbv
  split
  ·rename_i h
   have h6:lv=0:=by have:(lv:Int)=0:=e2h hS h;omega
   have hz':z=false:=by
    cases z
    ·rfl
    ·have:=(hz.1 rfl).2;omega
   cbv
   exact hFz hz'
  rename_i h
  have h6:0<lv:=by have:(lv:Int)≠0:=c8k hS h;omega
  cbv
  refine a7r Tryz.mixed okP hS (fun i=>i<=nn/\ ∀j,j<i->zz j=true) (fun i=>nn-i)
   (fun i=>⟨b5r [(1,int lv),(2,.ptr 0 0),(4,int (G i)),(28,.d (.sl 3 nn fun i=>[.int .i64 (.v (lk i)),.sl 2 (ncs i) (C i),.sl 3 (nns i) (E i)])),(29,int nn),(30,int i)] 50,[plO l nc F M nn fun i=>[.int .i64 (.v (lk i)),.sl 2 (ncs i) (C i),.sl 3 (nns i) (E i)]],[]⟩) 0 ⟨by omega,by omega⟩ ?_ ?_
  ·exact a4c rfl ⟨a0x.refl _,a0x.refl _,a6c (by rw[hG0];rfl),a0x.refl _,b0a (e.ofNat _),a6c rfl,trivial⟩ (.same _) (by omega) (.inr rfl) rfl
  rintro i ⟨hi,hj⟩ N hN
  cbv
  split
  ·rename_i h
   have hlt:i<nn:=Int.ofNat_lt.1 (b3h hS h)
   cbv
   simp only[nat,e.toNat,Int.ofNat_eq_natCast,Int.toNat_natCast]
   refine a1g hS (a5p hS hlt) ?_
   refine a1g hS (a9o hS (by omega)) ?_
   obtain⟨g1,g2⟩:=hrr i hlt h6
   have g4:a0j Tryz.prog true 83 [.agg [int (lk i),.d (.sl 2 (ncs i) (C i)),.d (.sl 3 (nns i) (E i))],int (Sg.isub (Int.ofNat lv) (Int.ofNat 1))] (.tuple [int (dd i),bool (zz i)]):=by rw[e.isub];exact g1
   generalize hzi:zz i=y at g4
   cbv
   refine a0v hS _ g4 ?_
   cases y with
   |false=>
    have hz':z=false:=by
     cases z
     ·rfl
     ·have:=(hz.1 rfl).2
      rcases this with h|h
      ·omega
      ·have:=h.2 i hlt;rw[hzi] at this;cases this
    cbv
    exact hFz hz'
   |true=>
    have em:Sg.isel (Sg.ilt (Int.ofNat (G i)) (Int.ofNat (dd i))) (Int.ofNat (dd i)) (Int.ofNat (G i))=((G (i+1):Nat):Int):=by
     rw[e.ilt,e.isel,hGs]
     simp only[Int.ofNat_eq_natCast,decide_eq_true_eq]
     split<;>omega
    cbv
    refine a1g hS (a4p hS (by simp only[Int.ofNat_eq_natCast];omega)) ?_
    exact hN (i+1) _ ⟨by omega,fun j hj'=>by
     by_cases e:j=i
     ·rw[e];exact hzi
     ·exact hj j (by omega)⟩ (by omega) (a4c rfl ⟨a0x.refl _,a0x.refl _,b0a em,a0x.refl _,a0x.refl _,b2s hS,trivial⟩ (.cons (.refl _) (.nil _)) (by omega) (.inl ⟨rfl,rfl⟩) rfl)
  ·rename_i h
   have hlt:nn<=i:=Int.ofNat_le.1 (b3r hS h)
   have hin:i=nn:=by omega
   have hgb:=hGb i hi h6
   cbv
   refine a1g hS (a4p hS (by simp only[Int.ofNat_eq_natCast];omega)) ?_
   subst hin
   exact hTz _ (hz.2 ⟨rfl,.inr ⟨h6,hj⟩⟩) (by rw[if_neg (by omega)];exact e.iadd _ _)
def PlR.slim:Nat->PlR->Prop
 |0,p=>p.nc<=300/\p.nn<=300
 |lv+1,p=>p.nc<=300/\p.nn<=300/\ ∀i,i<p.nn->PlR.slim lv (p.nx i)
theorem PlR.slim_cut: ∀(k:Nat) (p:PlR),PlR.cnt k p<300-> ∀lv,PlR.slim lv (PlR.cut k p):=by
 intro k
 induction k with
 |zero=>
  intro p h lv
  have:=p.cnt_ge 0
  cases lv with
  |zero=>exact⟨show p.nc<=300 by omega,show 0<=300 by omega⟩
  |succ lv=>exact⟨show p.nc<=300 by omega,show 0<=300 by omega,fun i hi=>absurd hi (Nat.not_lt_zero i)⟩
 |succ k ih=>
  intro p h lv
  have:=p.cnt_ge (k+1)
  cases lv with
  |zero=>exact⟨show p.nc<=300 by omega,show p.nn<=300 by omega⟩
  |succ lv=>exact⟨show p.nc<=300 by omega,show p.nn<=300 by omega,fun i hi=>ih (p.nx i) (by have:=PlR.cnt_kid (lv:=k) (p:=p) hi;omega) lv⟩
theorem PlR.ok_cut: ∀(k:Nat) (p:PlR),p.ok->(PlR.cut k p).ok:=by
 intro k
 induction k with
 |zero=>
  intro p h
  obtain⟨a,b,c,d,e⟩:=p.ok_iff.1 h
  exact (PlR.ok_iff _).2 ⟨a,b,show 0<=140737488355328 by omega,d,fun i hi=>absurd hi (Nat.not_lt_zero i)⟩
 |succ k ih=>
  intro p h
  obtain⟨a,b,c,d,e⟩:=p.ok_iff.1 h
  exact (PlR.ok_iff _).2 ⟨a,b,c,d,fun i hi=>ih (p.nx i) (e i hi)⟩
theorem PlR.isP_cut: ∀(d k:Nat) (p:PlR),d<k->((PlR.cut k p).isP d↔p.isP d):=by
 intro d
 induction d with
 |zero=>
  intro k p h
  cases k with
  |zero=>omega
  |succ k=>exact Iff.rfl
 |succ d ih=>
  intro k p h
  cases k with
  |zero=>omega
  |succ k=>
   simp only[PlR.isP,PlR.good]
   have: ∀i,((PlR.cut (k+1) p).nx i).isP d↔(p.nx i).isP d:=fun i=>ih k (p.nx i) (by omega)
   simp only[this]
   exact Iff.rfl
theorem c9u {f g:Nat->Nat}{n:Nat}(h: ∀i,i<n->f i=g i):b2o f n=b2o g n:=by
 induction n with
 |zero=>rfl
 |succ n ih=>rw[b2o,b2o,ih fun i hi=>h i (by omega),h n (by omega)]
theorem d3y {f:Nat->Nat}{n:Nat}(h:0<n):b2o (fun i=>1+f i) n=b2o f n+1:=by
 induction n with
 |zero=>omega
 |succ n ih=>
  simp only[b2o]
  cases n with
  |zero=>simp only[b2o];omega
  |succ n=>have:=ih (by omega);omega
theorem PlR.deep_cut: ∀(d k:Nat) (p:PlR),d<=k->PlR.deep d (PlR.cut k p)=PlR.deep d p:=by
 intro d
 induction d with
 |zero=>intro k p h;rfl
 |succ d ih=>
  intro k p h
  cases k with
  |zero=>omega
  |succ k=>
   simp only[PlR.deep]
   exact c9u fun i hi=>by rw[show (PlR.cut (k+1) p).nx i=PlR.cut k (p.nx i) from rfl,ih k (p.nx i) (by omega)]
theorem PlR.parts (p:PlR)(E:Nat->List DV)(h:p.av= .agg [int p.look,vsl p.nc p.c,.d (.sl 3 p.nn E)]):p.av=j5e p.look p.nc (fun i=>(p.c i).fault) (fun i=>(p.c i).n) p.nn E:=h
theorem c1u (lv:Nat)(hlv:lv<=4)(p:PlR)(hp:p.ok)(h1:p.nc<=300)(h2:p.nn<=300)(dd:Nat->Nat)(zz:Nat->Bool)
 (hrr: ∀i,i<p.nn->0<lv->a0j Tryz.prog true 83 [(p.nx i).av,int ((lv:Int)-1)] (.tuple [int (dd i),bool (zz i)])/\dd i<=4)
 (r:Nat) (z:Bool) (hz:z=true↔p.good lv fun i=>zz i=true) (hr:r=if z=true then (if p.look<0 then 0 else b2o dd p.nn+1) else 0):
 a0j Tryz.prog true 83 [p.av,int lv] (.tuple [int r,bool z]):=by
 classical
 obtain⟨lk,ncs,nns,C,E,hrow,hav,hpav⟩:=p.kids
 obtain⟨_,_,_,hc0,_⟩:=p.ok_iff.1 hp
 rw[p.parts _ hpav]
 simp+contextual only[hav] at hrr
 refine d3f lv hlv p.look p.nc (fun i=>(p.c i).fault) (fun i=>(p.c i).n) p.nn lk ncs nns C E (by omega) (by omega) (fun i hi=>(hc0 i hi).1.1) _ decide_eq_true_iff _ rfl dd zz hrr r z ?_ hr
 rw[hz]
 simp only[PlR.good,Bool.and_eq_true,decide_eq_true_eq]
 constructor
 ·rintro⟨a1,a2,a3,a4,a5⟩
  by_cases h:p.look= -1
  ·have h0:=a4 h
   exact⟨⟨⟨⟨⟨a1,a2⟩,.inr (by omega)⟩,.inl (by omega)⟩,fun i hi=>absurd hi (by omega)⟩,.inl (by omega)⟩
  ·obtain⟨b1,b2,b3⟩:=a5 h
   exact⟨⟨⟨⟨⟨a1,a2⟩,.inl (by omega)⟩,.inr ⟨b2,a3⟩⟩,fun i hi=>⟨(b3 i hi).1,(b3 i hi).2.1⟩⟩,.inr ⟨b1,fun i hi=>(b3 i (by omega)).2.2⟩⟩
 ·rintro⟨⟨⟨⟨⟨a1,a2⟩,b⟩,c⟩,d⟩,e⟩
  by_cases h:p.look= -1
  ·have h0:p.nc+p.nn=0:=by omega
   exact⟨a1,a2,by omega,fun _=>by omega,fun h'=>absurd h h'⟩
  ·have hl: ¬p.look<0:=by omega
   obtain⟨c1,c2⟩:=c.resolve_left hl
   obtain⟨e1,e2⟩:=e.resolve_left hl
   exact⟨a1,a2,c2,fun h'=>absurd h' h,fun _=>⟨e1,c1,fun i hi=>⟨(d i hi).1,(d i hi).2,e2 i (by omega)⟩⟩⟩
theorem d8m: ∀(lv:Nat),lv<=4-> ∀p:PlR,p.ok->PlR.slim lv p-> ∀(r:Nat) (z:Bool),(z=true↔p.isP lv)->(r=if z=true then PlR.deep (lv+1) p else 0)->a0j Tryz.prog true 83 [p.av,int lv] (.tuple [int r,bool z])/\r<=lv:=by
 classical
 intro lv
 induction lv with
 |zero=>
  intro _ p hp hs r z hz hr
  have hr0:r=0:=by
   rw[hr]
   split
   ·rename_i h
    obtain⟨a1,a2,a3,a4,a5⟩:=hz.1 h
    by_cases h:p.look= -1
    ·have h0:=a4 h
     simp only[PlR.deep]
     rw[show p.nn=0 by omega];rfl
    ·exact absurd (a5 h).1 (by omega)
   ·rfl
  refine⟨c1u 0 (by omega) p hp hs.1 hs.2 (fun _=>0) (fun _=>true) (fun i _ h=>absurd h (by omega)) r z ?_ ?_,by omega⟩
  ·rw[hz]
   simp only[PlR.isP,PlR.good]
  ·rw[hr0]
   split
   ·rename_i h
    obtain⟨a1,a2,a3,a4,a5⟩:=hz.1 h
    by_cases h:p.look= -1
    ·rw[if_pos (by omega)]
    ·exact absurd (a5 h).1 (by omega)
   ·rfl
 |succ lv ih=>
  intro hlv p hp hs r z hz hr
  obtain⟨_,_,_,_,h4⟩:=p.ok_iff.1 hp
  have es:((lv+1:Nat):Int)-1=lv:=by omega
  have kid:=fun i (hi:i<p.nn)=>ih (by omega) (p.nx i) (h4 i hi) (hs.2.2 i hi) (if (p.nx i).isP lv then PlR.deep (lv+1) (p.nx i) else 0) (decide ((p.nx i).isP lv)) decide_eq_true_iff (by simp only[decide_eq_true_eq])
  have hd:z=true->r=if p.look<0 then 0 else b2o (fun i=>if (p.nx i).isP lv then PlR.deep (lv+1) (p.nx i) else 0) p.nn+1:=fun h=>by
   rw[if_pos h] at hr
   obtain⟨a1,a2,a3,a4,a5⟩:=hz.1 h
   rw[hr,PlR.deep]
   by_cases h:p.look= -1
   ·have h0:=a4 h
    rw[if_pos (by omega),show p.nn=0 by omega];rfl
   ·obtain⟨b1,b2,b3⟩:=a5 h
    rw[if_neg (by omega),d3y (by omega)]
    congr 1
    exact c9u fun i hi=>by rw[if_pos (b3 i (by omega)).2.2]
  have hr2:r=if z=true then (if p.look<0 then 0 else b2o (fun i=>if (p.nx i).isP lv then PlR.deep (lv+1) (p.nx i) else 0) p.nn+1) else 0:=by
   by_cases h:z=true
   ·rw[if_pos h];exact hd h
   ·rw[if_neg h] at hr⊢;exact hr
  refine⟨c1u (lv+1) hlv p hp hs.1 hs.2.1 _ _ (fun i hi _=>by rw[es];exact⟨(kid i hi).1,by have:=(kid i hi).2;omega⟩) r z ?_ hr2,?_⟩
  ·rw[hz]
   simp only[PlR.isP,decide_eq_true_eq]
  ·rw[hr2]
   split
   ·split
    ·omega
    ·have:=c0n (f:=fun i=>if (p.nx i).isP lv then PlR.deep (lv+1) (p.nx i) else 0) (B:=lv) (n:=p.nn) fun i hi=>(kid i hi).2
     omega
   ·omega
theorem d4e (l:Int)(nc nn:Nat)(c E:Nat->List DV)(r:Int)(z:Bool)(h:a0j Tryz.prog true 83 [.agg [int l,.d (.sl 2 nc c),.d (.sl 3 nn E)],int 4] (.tuple [int r,bool z]))(hr:z=false->r=0):
 a0j Tryz.prog true 37 [.agg [int l,.d (.sl 2 nc c),.d (.sl 3 nn E)]] (.tuple [int r,int (if z=true then 0 else 4)]):=by
 obtain⟨k,hk⟩: ∃k:Int,k=if z=true then 0 else 4:=⟨_,rfl⟩
 rw[<-hk]
 refine b4i (fun x hx=>by simp at hx;rcases hx with rfl|rfl<;>trivial) (a0k Tryz.mixed okP f5n _ rfl fun E0 Sg hb hS=> ?_)
 cbv
 refine a0v hS _ h ?_
 cases z with
 |false=>
  cbv
  exact a3x.tuple (.cons (a6c (by rw[hr rfl];rfl)) (.cons (a6c (by rw[hk];rfl)) .nil))
 |true=>
  cbv
  exact a3x.tuple (.cons (.refl _) (.cons (a6c (by rw[hk];rfl)) .nil))
theorem d6j (l:Int)(nc nn:Nat)(c E:Nat->List DV)(r k:Int)(h:a0j Tryz.prog true 37 [.agg [int l,.d (.sl 2 nc c),.d (.sl 3 nn E)]] (.tuple [int r,int k])):
 a0j Tryz.prog true 35 [.agg [int l,.d (.sl 2 nc c),.d (.sl 3 nn E)]] (int k):=by
 refine a4e (a0k Tryz.mixed okP g0z _ rfl fun E0 Sg hb hS=> ?_)
 cbv
 refine a0v hS _ h ?_
 cbv
 exact a0x.refl _
theorem c8q (p:PlR)(hp:p.ok)(hc:PlR.cnt 6 p<300)(z:Bool)(hz:z=true↔p.isP 4)(r:Int)(hr:r=if z=true then (PlR.deep 5 p:Int) else 0):
 a0j Tryz.prog true 37 [(PlR.cut 6 p).av] (.tuple [int r,int (if z=true then 0 else 4)]):=by
 have h:=(d8m 4 (by omega) (PlR.cut 6 p) (PlR.ok_cut 6 p hp) (PlR.slim_cut 6 p hc 4) (if z=true then PlR.deep 5 (PlR.cut 6 p) else 0) z (hz.trans (PlR.isP_cut 4 6 p (by omega)).symm) rfl).1
 rw[PlR.deep_cut 5 6 p (by omega)] at h
 rw[PlR.avE] at h⊢
 have e:(((if z=true then PlR.deep 5 p else 0:Nat)):Int)=r:=by rw[hr];split<;>rfl
 rw[e] at h
 exact d4e _ _ _ _ _ r z h (fun h'=>by rw[hr,h'];rfl)
theorem e0r (p:PlR)(hp:p.ok)(hc:PlR.cnt 6 p<300)(z:Bool)(hz:z=true↔p.isP 4):
 a0j Tryz.prog true 35 [(PlR.cut 6 p).av] (int (if z=true then 0 else 4)):=by
 have h:=c8q p hp hc z hz _ rfl
 rw[PlR.avE] at h⊢
 exact d6j _ _ _ _ _ _ _ h
end Go.Proofs.Tryz.Run
