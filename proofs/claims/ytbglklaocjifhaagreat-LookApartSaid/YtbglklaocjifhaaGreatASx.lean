/- The list of the cells of all places of a diagram. The program's list of a diagram. Conditions: none. -/
import Derived.Test.YtbglklaocjifhaaGreatALr
import Derived.Test.YtbglklaocjifhaaGreatANa
import Derived.Test.YtbglklaocjifhaaGreatANb
import Derived.Test.YtbglklaocjifhaaGreatANc
import Derived.Test.YtbglklaocjifhaaGreatAPm0
import Derived.Test.YtbglklaocjifhaaGreatAQd
import Derived.Test.YtbglklaocjifhaaGreatAQf
import Derived.Test.YtbglklaocjifhaaGreatAQh
import Derived.Test.YtbglklaocjifhaaGreatAQi
import Derived.Test.YtbglklaocjifhaaGreatASd
import Derived.Test.YtbglklaocjifhaaGreatASg
import Derived.Test.YtbglklaocjifhaaGreatASq
import Derived.Test.YtbglklaocjifhaaGreatASv
set_option linter.unusedSimpArgs false
set_option linter.unusedVariables false
set_option maxHeartbeats 0
namespace Go.Proofs.Tryz.Run
open Go Go.Vf Go.Proofs
open Go.Proofs.YtbglklaocjifhaaGreat
def DiR.cell (d:DiR)(i:Nat):VaR:=d.en (-1-h5d d (h5j d.sz d.ns i) d.root).toNat
def i7m:a0c×a0c:=match g9y with| .seq _ (.seq (.seq _ (.block _ (.range _ _ a b))) _)=>(a,b)|_=>(.ret,.ret)
def i3j:a0f:= .loop .ready (b5r [(1,.ptr 0 0),(2,.ptr 1 0)] 22) [8,9] (fun ca cb=>comp Tryz.prog g1f.A ca=some i7m.1/\comp Tryz.prog g1f.A cb=some i7m.2)
def DiR.lcs (d:DiR):List AV:=[isl d.ns d.sz,isl d.no d.od,isl d.ns d.sz,isl d.no d.od,vsl d.ne d.en,bsl d.nn d.var d.nk d.kid,int d.root]
theorem i0e {d:DiR}(hl:h3x d){pl u:Nat->Int}(hpu: ∀j,j<d.ns->pl j=u j)(hp:i3i d pl)(hu:i3i d u)(k:Int)(hk:h4k d.ne k d.nn):h5d d pl k=h5d d u k:=by
 have: ∀(m:Nat) (k:Int),k<m->k<d.nn->h5d d pl k=h5d d u k:=by
  intro m
  induction m with
  |zero=>
   intro k hm hn
   rw[h4c (by omega),h4c (by omega)]
  |succ m ih=>
   intro k hm hn
   by_cases h0:k<0
   ·rw[h4c h0,h4c h0]
   ·obtain⟨i,rfl⟩: ∃i:Nat,k=i:=⟨k.toNat,by omega⟩
    have hi:i<d.nn:=by omega
    have h1:=(h5q hl hp hi)
    rw[h4x hl hp hi,h4x hl hu hi,hpu _ (by have:=h1.1;omega)]
    have h2:=h1.2.2
    rw[hpu _ (by have:=h1.1;omega)] at h2
    have hlt:d.kid i (u (d.var i).toNat).toNat<i:=by
     rcases Int.lt_or_le (d.kid i (u (d.var i).toNat).toNat) 0 with h|h
     ·omega
     ·exact h2.1 h
    exact ih _ (by omega) (by omega)
 rcases Int.lt_or_le k 0 with h|h
 ·rw[h4c h,h4c h]
 ·exact this (k.toNat+1) k (by omega) (hk.1 h)
theorem i4f (d:DiR)(hl:h3x d)(hf:d.fit)(hs: ∀j,j<d.ns->1<=d.sz j/\d.sz j<=12){T:Nat}(hT:(T:Int)=h4d d.sz d.ns)(hp:T<=2000):
 a0j Tryz.prog false 203 [d.lav] (vsl T d.cell):=by
 have hway:=fun pl h=>i6j d hl hf pl h
 have hne:=hf.ne
 have hns:=hf.ns
 refine a0k Tryz.mixed okP e9k _ rfl fun E Sg hb hS=> ?_
 have ett: ∀z,Sg.toNat z=z.toNat:=by subst hS;exact fun _=>rfl
 cbv
 refine i0x hS rfl ?_
 have hc:=(a1h.nilH (args:=[.agg [isl d.ns d.sz,isl d.no d.od],.yl 2]) (args':=[.agg [isl d.ns d.sz,isl d.no d.od],.yl 2]) (h:=[.var d.lcs,.var [.d .nil],i3j]) (h2:=[.var d.lcs,.var [.msl 3 2 none 0 false],i3j]) 2 (fun i=>(d.cell i).row) (i0o d.sz d.od (no:=d.no) hns hs (by rw[<-hT];exact Int.ofNat_le.2 hp) (fun _=> .var d.lcs) (fun p=> .var [.msl 3 2 none p false]) (fun _=>i3j) (fun p=> .arr 2 p fun i=>(d.cell i).row) (fun p=>rfl) ?_) ⟨.inl rfl,.inl rfl,trivial⟩ ⟨.inl rfl,.inr ⟨_,_,rfl,rfl,.inr ⟨rfl,rfl⟩,trivial⟩,.inl rfl,trivial⟩).pgs
 ·refine (a1h.mono ?_ (hc.heap (.cons (a9v.refl _) (.cons (a9v.refl _) (.cons (a9v.loop ?_ fun a b h=>h) (.nil _)))) rfl))
  ·rintro pg v h' ⟨pg1,⟨rfl,q,hq,rfl⟩,rfl⟩
   obtain rfl:q=T:=Int.ofNat.inj (hq.trans hT.symm)
   clear hc
   cbv
   refine⟨fun h=>(nomatch h),_,_,_,_,rfl,?_⟩
   cbv
   exact a1g hS (by subst hS;exact Nat.le_refl _) (a0x.refl _)
  ·exact d2w rfl ⟨a0x.refl _,a0x.refl _,trivial⟩
 ·intro p u hp1 hu
  have hpl:i3i d u:=fun j hj=>by rw[hu j hj];exact (h5s (n:=d.ns) (fun j hj=>(hs j hj).1) p hp1).1 j hj
  obtain⟨hw1,hw2⟩:=hway u hpl
  have hwe:h5d d (h5j d.sz d.ns p) d.root=h5d d u d.root:=i0e hl (fun j hj=>(hu j hj).symm) (fun j hj=>by rw[<-hu j hj];exact hpl j hj) hpl _ (h4g hl.2.2)
  refine b5d.cut (b9t Tryz.mixed okP (A:=g1f.A) rfl (fun _ _ h=>h) rfl fun ro E Sg hS=> ?_)
  have ett: ∀z,Sg.toNat z=z.toNat:=by subst hS;exact fun _=>rfl
  clear hway
  cbv
  refine⟨fun h=>(nomatch h),_,_,_,rfl,?_⟩
  cbv
  refine a1g hS (by subst hS;exact Nat.le_refl _) ?_
  have hix:0<= -1-h5d d u d.root/\ -1-h5d d u d.root<d.ne:=⟨by have:=hw1.1;omega,hw1.2 (by have:=hw1.1;omega)⟩
  obtain⟨W,hW⟩: ∃W,-1-h5d d u d.root=W:=⟨_,rfl⟩
  have hcell:d.cell p=d.en W.toNat:=by rw[<-hW];exact congrArg (fun z=>d.en (-1-z).toNat) hwe
  rw[hW] at hw2 hix
  have hpT:p<T:=by have h:=hp1;rw[<-hT] at h;exact Int.ofNat_lt.1 h
  refine a0v hS _ hw2 ?_
  cbv
  refine a1g hS (by subst hS;rfl) (a1g hS (by subst hS;rfl) (a1g hS (by clear hw2;subst hS;exact hix) (a1g hS (by subst hS;rfl) (a1g hS trivial (a1g hS (by clear hw2;subst hS;simp[std];omega) ?_)))))
  refine⟨fun h=>(nomatch h),_,_,_,rfl,[3],?_,?_⟩
  ·exact fun m _ h=>h
  ·cbv
   refine⟨[.var d.lcs,.var [.msl 3 2 none (p+1) false],i3j,.arr 2 (p+1) fun i=>(d.cell i).row,.var [isl d.ns d.sz,isl d.no d.od],arrI d.ns u],.d (.bool true),?_,a0x.refl _,by simp,.inr ?_,rfl,rfl,rfl⟩
   ·refine .cons (a9v.refl _) (.cons (a9v.var (.cons ?_ .nil)) (.cons (a9v.loop (d2w rfl ⟨a0x.refl _,a0x.refl _,trivial⟩) fun a b h=>h) (.cons (a9v.arr' ?_ ?_) (.cons (a9v.refl _) (.cons (a9v.refl _) (.nil _))))))
    ·subst hS;exact a0x.refl _
    ·subst hS;rfl
    ·intro i hi
     subst hS
     simp only[std] at hi⊢
     by_cases h:i<p
     ·rw[if_pos h]
     ·obtain rfl:i=p:=by omega
      rw[if_neg (by omega),Nat.sub_self,hcell]
      rfl
   ·rfl
theorem i5u (d:DiR)(hf:d.fit)(h0: ∀i,i<d.ne->0<=(d.en i).fault)(hno:d.no<=12)(r:Int)(hr:h5o d=r)(v:AV)
 (hv:(r≠0/\v= .d .nil)\/(r=0/\ ∃T:Nat,(T:Int)=h4d d.sz d.ns/\v=vsl T d.cell)):a0j Tryz.prog false 170 [d.av] (.tuple [v,int r]):=by
 obtain⟨w,hw,ho⟩:=i1u d hf h0 hno r hr
 by_cases hz:r=0
 ·subst hz
  obtain⟨⟨k1,k2,k3⟩,k4⟩:(h4e d.ns d.no d.sz d.od=0/\d.nn<=6000/\h3x d)/\h5e d:=⟨h4q (h6x hr).1,(h6x hr).2⟩
  obtain⟨f1,f2,f3,f4⟩:=h4s k1
  obtain⟨_,T,hT,rfl⟩:=hv.resolve_left fun h=>h.1 rfl
  obtain rfl:=hw.resolve_right fun h=>h.1 k1
  have hl:=i4f d k3 hf f2 hT (Int.ofNat_le.1 (by rw[<-hT] at f3;exact f3))
  clear hw hv hr k1 k2 k3 k4 f1 f2 f3 f4
  refine a0k Tryz.mixed okP e9e _ rfl fun E Sg hb hS=> ?_
  cbv
  refine a0v hS _ ho ?_
  cbv
  split
  ·rename_i h;exfalso;clear ho hl;subst hS;simp[std] at h
  cbv
  refine a0v hS _ hl ?_
  cbv
  exact a3x.tuple (.cons (a0x.refl _) (.cons (a6c rfl) .nil))
 ·obtain⟨_,rfl⟩:=hv.resolve_right fun h=>hz h.1
  clear hv hr
  rcases hw with rfl|⟨_,rfl⟩<;>
  ·refine a0k Tryz.mixed okP e9e _ rfl fun E Sg hb hS=> ?_
   cbv
   refine a0v hS _ ho ?_
   cbv
   split
   rotate_left
   ·rename_i h;exfalso;clear ho;subst hS;simp[std,hz] at h
   cbv
   exact a3x.tuple (.cons (a0x.refl _) (.cons (b0a rfl) .nil))
end Go.Proofs.Tryz.Run
