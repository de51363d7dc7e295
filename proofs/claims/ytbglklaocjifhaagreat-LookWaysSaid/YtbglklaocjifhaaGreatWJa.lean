/- The looks of a place in a plan, by the reference. Conditions: none. -/
import Derived.Test.YtbglklaocjifhaaGreatWLr
import Derived.Test.YtbglklaocjifhaaGreatWNb
import Derived.Test.YtbglklaocjifhaaGreatWNe
import Derived.Test.YtbglklaocjifhaaGreatWPm0
import Derived.Test.YtbglklaocjifhaaGreatWQd
import Derived.Test.YtbglklaocjifhaaGreatWQf
import Derived.Test.YtbglklaocjifhaaGreatWQi
import Derived.Test.YtbglklaocjifhaaGreatWSd
import Derived.Test.YtbglklaocjifhaaGreatWHe
import Derived.Test.YtbglklaocjifhaaGreatWHr
import Derived.Test.YtbglklaocjifhaaGreatWOg
import Derived.Test.YtbglklaocjifhaaGreatWHt
import Derived.Test.YtbglklaocjifhaaGreatWHy
set_option linter.unusedSimpArgs false
set_option linter.unusedVariables false
set_option maxHeartbeats 0
set_option maxRecDepth 100000
namespace Go.Proofs.Tryz.Run
open Go Go.Vf Go.Proofs
open Go.Proofs.YtbglklaocjifhaaGreat
theorem j5t {nl T:Nat}{X:Nat->Nat->VaR}{G:Nat->Bool}{pl:Nat}(hpl:pl<T)(hT:T<=1000000)(hnl:nl<=6)(p:PlR)(hp:p.ok)(hnn:p.nn=p.nc)(hlk: -1<=p.look)
 (N:Nat->Nat) (W:Nat->Nat->Int) (Z:Nat->Bool) (hN: ∀i,N i<=10)
 (hrr: ∀i,i<p.nn->p.look≠ -1->a0j Tryz.prog false 44 [.agg (knC nl T X G),int pl,(p.nx i).av] (.tuple [isl (N i) (W i),bool (Z i)]))
 (n:Nat) (w:Nat->Int) (z:Bool) (r1:p.look= -1->n=0/\z=true) (r2:(nl:Int)<=p.look->n=0/\z=false)
 (r3: ∀l:Nat,p.look=l->l<nl-> ∀i,i<p.nc->p.c i=X l pl->(∀j,j<i->p.c j≠X l pl)->n=N i+1/\w 0=l/\(∀j,j<N i->w (j+1)=W i j)/\z=Z i)
 (r4: ∀l:Nat,p.look=l->l<nl->(∀j,j<p.nc->p.c j≠X l pl)->n=0/\z=false):
 a0j Tryz.prog false 44 [.agg (knC nl T X G),int pl,p.av] (.tuple [isl n w,bool z]):=by
 obtain⟨lk,ncs,nns,C,E,hrow,hav,hpav⟩:=p.kids
 obtain⟨hlo,h1,h2,hc0,_⟩:=p.ok_iff.1 hp
 rw[hpav]
 simp+contextual only[hav] at hrr
 clear hpav hav hrow hp
 obtain⟨l,hl⟩: ∃l,p.look=l:=⟨_,rfl⟩
 obtain⟨nc,hnc⟩: ∃l,p.nc=l:=⟨_,rfl⟩
 obtain⟨c,hc⟩: ∃l,p.c=l:=⟨_,rfl⟩
 obtain⟨F,hF⟩: ∃F:Nat->Int,∀i,(c i).fault=F i:=⟨_,fun _=>rfl⟩
 obtain⟨M,hM⟩: ∃M:Nat->Int,∀i,(c i).n=M i:=⟨_,fun _=>rfl⟩
 obtain⟨XF,hXF⟩: ∃F:Nat->Nat->Int,∀i j,(X i j).fault=F i j:=⟨_,fun _ _=>rfl⟩
 obtain⟨XM,hXM⟩: ∃M:Nat->Nat->Int,∀i j,(X i j).n=M i j:=⟨_,fun _ _=>rfl⟩
 have heq: ∀i k j,c i=X k j↔F i=XF k j/\M i=XM k j:=fun i k j=>by
  rw[<-hF,<-hM,<-hXF,<-hXM]
  cases c i;cases X k j;simp
 have hv:vsl nc c= .d (.sl 2 nc fun i=>[.int .u8 (.v (F i)),.int .i64 (.v (M i))]):=by
  simp only[vsl];congr 2;exact funext fun i=>by rw[VaR.row,hF,hM]
 have hk:(.agg (knC nl T X G):AV)= .agg [.d (.sl 1 nl fun i=>[.sl 2 T fun p=>[.int .u8 (.v (XF i p)),.int .i64 (.v (XM i p))]]),.d (.sl 1 T fun p=>[.bool (G p)])]:=by
  simp only[knC,VaR.row,hXF,hXM]
 rw[hnn,hnc] at hrr
 rw[hl,hnc,hnn,hnc,hc,hv,hk]
 rw[hl] at r1 r2 hrr hlk
 rw[hk] at hrr
 simp only[hl,hnc,hc,heq,ne_eq] at r3 r4
 rw[hnc] at h1
 clear hl hnc hc hF hM hXF hXM heq hv hk hc0 hlo hnn h2
 refine a0k Tryz.mixed okP j6g _ rfl fun E0 Sg hb hS=> ?_
 have e:=b2k hS
 have hfail:n=0/\z=false->a3x [.d .nil,bool false] [isl n w,bool z]:=fun h=>by
  rw[h.1,h.2];exact .cons a0x.nil0 (.cons (.refl _) .nil)
 cbv
 split
 ·rename_i h
  have h5:l= -1:=e2h hS h
  cbv
  obtain⟨h6,h7⟩:=r1 h5
  exact a3x.tuple (by rw[h6,h7];exact .cons a0x.nil0 (.cons (.refl _) .nil))
 rename_i h
 have h5:l≠ -1:=c8k hS h
 obtain⟨L,rfl⟩: ∃L:Nat,l=L:=⟨l.toNat,by omega⟩
 cbv
 refine a7r Tryz.mixed okP hS (fun i=>i<=nc/\((L<nl)-> ∀j,j<i-> ¬(F j=XF L pl/\M j=XM L pl))) (fun i=>nc-i)
  (fun i=>⟨b5r [(1,int pl),(3,.ptr 0 0),(5,.ptr 1 0),(8,int i)] 61,[.var [.d (.sl 1 nl fun i=>[.sl 2 T fun p=>[.int .u8 (.v (XF i p)),.int .i64 (.v (XM i p))]]),.d (.sl 1 T fun p=>[.bool (G p)])],.var [int L,.d (.sl 2 nc fun i=>[.int .u8 (.v (F i)),.int .i64 (.v (M i))]),.d (.sl 3 nc fun i=>[.int .i64 (.v (lk i)),.sl 2 (ncs i) (C i),.sl 3 (nns i) (E i)])]],[]⟩) 0 ⟨by omega,fun _ j hj=>absurd hj (by omega)⟩ ?_ ?_
 ·exact a4c rfl ⟨a0x.refl _,a0x.refl _,a0x.refl _,a6c rfl,trivial⟩ (.same _) (by simp;omega) (.inr rfl) rfl
 rintro i ⟨hi,hz⟩ K hK
 cbv
 split
 rotate_left
 ·rename_i hg
  have hL:nl<=L:=d3c hS hg
  cbv
  obtain⟨h6,h7⟩:=r2 (Int.ofNat_le.2 hL)
  exact a3x.tuple (by rw[h6,h7];exact .cons a0x.nil0 (.cons (.refl _) .nil))
 ·rename_i hg
  have hL:L<nl:=d3r hS hg
  cbv
  simp only[hg]
  cbv
  split
  ·rename_i h
   have hlt:i<nc:=d3r hS h
   cbv
   have en: ∀k:Nat,nat Sg (IX.v (Int.ofNat k))=k:=fun k=>by simp only[nat,e.toNat,Int.ofNat_eq_natCast,Int.toNat_natCast]
   have en2: ∀k:Nat,nat Sg (IX.v (k:Int))=k:=en
   simp only[nat,e.toNat,Int.ofNat_eq_natCast,Int.toNat_natCast]
   refine a1g hS (a5p hS hlt) (a1g hS (a5p hS hL) (a1g hS (a5p hS hpl) ?_))
   simp only[e.band,e.ieq]
   split
   ·rename_i h
    have hE:F i=XF L pl/\M i=XM L pl:=by simpa using h
    obtain⟨h6,h7,h8,h9⟩:=r3 L rfl hL i hlt hE (hz hL)
    have hcall:=hrr i hlt h5
    have hNi:=hN i
    cbv
    simp only[nat,e.toNat,Int.ofNat_eq_natCast,Int.toNat_natCast]
    refine a1g hS (a5p hS hlt) ?_
    refine a0v hS _ hcall ?_
    cbv
    repeat (first|refine a1g hS (c3d hS) ?_|refine a1g hS trivial ?_|refine a1g hS (f1i hS (by omega)) ?_)
    refine a1g hS (e8l hS (Nat.le_refl _)) ?_
    refine a3x.tuple (.cons (a0x.sl' (by simp only[e.nadd,h6];omega) fun j hj=> ?_) (.cons (by rw[h9];exact .refl _) .nil))
    simp only[e.nadd] at hj
    simp only[e.app]
    cases j with
    |zero=>rw[if_pos (by omega),h7];rfl
    |succ j=>rw[if_neg (by omega),h8 j (by omega)];rfl
   ·rename_i h
    have hE: ¬(F i=XF L pl/\M i=XM L pl):=by simpa using h
    cbv
    refine a1g hS (a4p hS (by simp only[Int.ofNat_eq_natCast];omega)) ?_
    refine hK (i+1) _ ⟨by omega,fun hL j hj=> ?_⟩ (by omega) (a4c rfl ⟨a0x.refl _,a0x.refl _,a0x.refl _,b2s hS,trivial⟩ (.same _) (by simp;omega) (.inr rfl) rfl)
    by_cases ej:j=i
    ·rw[ej];exact hE
    ·exact hz hL j (by omega)
  ·rename_i h
   have hin:nc<=i:=d3c hS h
   cbv
   obtain⟨h6,h7⟩:=r4 L rfl hL fun j hj=>hz hL j (by omega)
   exact a3x.tuple (by rw[h6,h7];exact .cons a0x.nil0 (.cons (.refl _) .nil))
def fnd (c:Nat->VaR)(v:VaR):Nat->Option Nat
 |0=>none
 |n+1=>match fnd c v n with
  |some i=>some i
  |none=>if c n=v then some n else none
theorem j4s {c:Nat->VaR}{v:VaR}: ∀{n:Nat},(∀j,j<n->c j≠v)->fnd c v n=none
 |0,_=>rfl
 |n+1,h=>by rw[fnd,j4s fun j hj=>h j (by omega)];simp only[if_neg (h n (by omega))]
theorem j4t {c:Nat->VaR}{v:VaR}{i:Nat}: ∀{n:Nat},i<n->c i=v->(∀j,j<i->c j≠v)->fnd c v n=some i
 |0,h,_,_=>absurd h (by omega)
 |n+1,h,hc,hj=>by
  by_cases e:i=n
  ·subst e;rw[fnd,j4s hj];simp only[if_pos hc]
  ·rw[fnd,j4t (by omega) hc hj]
theorem j5m {c:Nat->VaR}{v:VaR}{i:Nat}: ∀{n:Nat},fnd c v n=some i->i<n/\c i=v/\ ∀j,j<i->c j≠v:=fun {n} h=>by
 by_cases hn: ∀j,j<n->c j≠v
 ·rw[j4s hn] at h;cases h
 ·have: ∃j,j<n/\c j=v:=by
   apply Classical.byContradiction
   intro h'
   exact hn fun j hj e=>h' ⟨j,hj,e⟩
  obtain⟨j,hj,hv⟩:=this
  have: ∃m,m<n/\c m=v/\ ∀q,q<m->c q≠v:=by
   clear h hn
   induction j using Nat.strongRecOn with
   |ind j ih=>
    by_cases h1: ∃q,q<j/\c q=v
    ·obtain⟨q,h2,h3⟩:=h1
     exact ih q h2 (by omega) h3
    ·exact⟨j,hj,hv,fun q hq e=>h1 ⟨q,hq,e⟩⟩
  obtain⟨m,h1,h2,h3⟩:=this
  rw[j4t h1 h2 h3] at h
  cases h
  exact⟨h1,h2,h3⟩
def PlR.wayO (nl:Nat)(V:Nat->VaR):Nat->PlR->List Int×Bool
 |0,_=>([],true)
 |d+1,p=>if p.look= -1 then ([],true) else if (nl:Int)<=p.look then ([],false) else
  match fnd p.c (V p.look.toNat) p.nc with
  | .none=>([],false)
  | .some i=>(p.look::(PlR.wayO nl V d (p.nx i)).1,(PlR.wayO nl V d (p.nx i)).2)
theorem PlR.wayO_len (nl:Nat)(V:Nat->VaR): ∀(d:Nat) (p:PlR),(p.wayO nl V d).1.length<=d
 |0,_=>by simp[PlR.wayO]
 |d+1,p=>by
  rw[PlR.wayO]
  split
  ·simp
  split
  ·simp
  split
  ·simp
  ·simp only[List.length_cons]
   have:=PlR.wayO_len nl V d (p.nx ‹_›)
   omega
def ilA (l:List Int):AV:=isl l.length fun j=>l.getD j 0
theorem j6c {nl T:Nat}{X:Nat->Nat->VaR}{G:Nat->Bool}{pl:Nat}(hpl:pl<T)(hT:T<=1000000)(hnl:nl<=6): ∀(d:Nat),d<=4-> ∀p:PlR,p.ok->p.isP d->
 a0j Tryz.prog false 44 [.agg (knC nl T X G),int pl,p.av] (.tuple [ilA (p.wayO nl (fun l=>X l pl) d).1,bool (p.wayO nl (fun l=>X l pl) d).2])
 |0,_,p,hp,h=>by
  obtain⟨h1,h2,h3,h4,h5⟩:=h
  have h6:p.look= -1:=Classical.byContradiction fun h=>absurd (h5 h).1 (by omega)
  exact j5t hpl hT hnl p hp h3 h1 (fun _=>0) (fun _ _=>0) (fun _=>true) (fun _=>by omega) (fun _ _ h=>absurd h6 h) _ _ _ (fun _=>⟨rfl,rfl⟩) (fun h=>absurd h (by omega)) (fun l h=>absurd h (by omega)) (fun l h=>absurd h (by omega))
 |d+1,hd,p,hp,h=>by
  obtain⟨h1,h2,h3,h4,h5⟩:=h
  have hk:=(p.ok_iff.1 hp).2.2.2.2
  refine j5t hpl hT hnl p hp h3 h1 (fun i=>((p.nx i).wayO nl (fun l=>X l pl) d).1.length) (fun i j=>((p.nx i).wayO nl (fun l=>X l pl) d).1.getD j 0) (fun i=>((p.nx i).wayO nl (fun l=>X l pl) d).2) (fun i=>by have:=PlR.wayO_len nl (fun l=>X l pl) d (p.nx i);omega)
   (fun i hi hl=>j6c hpl hT hnl d (by omega) (p.nx i) (hk i hi) ((h5 hl).2.2 i (by omega)).2.2) _ _ _ (fun h=> ?_) (fun h=> ?_) (fun l h hl i hi hc hj=> ?_) (fun l h hl hj=> ?_)
  ·rw[PlR.wayO,if_pos h];exact⟨rfl,rfl⟩
  ·rw[PlR.wayO,if_neg (by omega),if_pos h];exact⟨rfl,rfl⟩
  ·have e1:p.look.toNat=l:=by omega
   have e2:p.wayO nl (fun l=>X l pl) (d+1)=(p.look::((p.nx i).wayO nl (fun l=>X l pl) d).1,((p.nx i).wayO nl (fun l=>X l pl) d).2):=by
    rw[PlR.wayO,if_neg (by omega),if_neg (by omega),e1,j4t hi hc hj]
   rw[e2]
   exact⟨by simp,by simpa using h,fun j hj=>by simp,rfl⟩
  ·have e1:p.look.toNat=l:=by omega
   have e2:p.wayO nl (fun l=>X l pl) (d+1)=([],false):=by
    rw[PlR.wayO,if_neg (by omega),if_neg (by omega),e1,j4s hj]
   rw[e2]
   exact⟨rfl,rfl⟩
end Go.Proofs.Tryz.Run
