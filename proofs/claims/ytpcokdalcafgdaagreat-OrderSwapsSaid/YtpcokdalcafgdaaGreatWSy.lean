/- The list of the cells of all places of a diagram. The program's list of a diagram. The program's open of a family. Conditions: none. -/
import Derived.Test.YtpcokdalcafgdaaGreatWLq
import Derived.Test.YtpcokdalcafgdaaGreatWNa
import Derived.Test.YtpcokdalcafgdaaGreatWNc
import Derived.Test.YtpcokdalcafgdaaGreatWLh
import Derived.Test.YtpcokdalcafgdaaGreatWNb
import Derived.Test.YtpcokdalcafgdaaGreatWOh
import Derived.Test.YtpcokdalcafgdaaGreatWPm0
import Derived.Test.YtpcokdalcafgdaaGreatWQd
import Derived.Test.YtpcokdalcafgdaaGreatWQf
import Derived.Test.YtpcokdalcafgdaaGreatWQh
import Derived.Test.YtpcokdalcafgdaaGreatWQi
import Derived.Test.YtpcokdalcafgdaaGreatWSd
import Derived.Test.YtpcokdalcafgdaaGreatWSg
import Derived.Test.YtpcokdalcafgdaaGreatWSq
import Derived.Test.YtpcokdalcafgdaaGreatWSv
set_option linter.unusedSimpArgs false
set_option linter.unusedVariables false
set_option maxHeartbeats 0
namespace Go.Proofs.Tryz.Run
open Go Go.Vf Go.Proofs
open Go.Proofs.YtpcokdalcafgdaaGreat
def DiR.cell (d:DiR)(i:Nat):VaR:=d.en (-1-wayE d (a9d d.sz d.ns i) d.root).toNat
def g1p:a2d×a2d:=match g4i with| .seq _ (.seq (.seq _ (.block _ (.range _ _ a b))) _)=>(a,b)|_=>(.ret,.ret)
def e0a:a0i:= .loop .ready (a2l [(1,.ptr 0 0),(2,.ptr 1 0)] 22) [8,9] (fun ca cb=>comp Tryz.prog e8v.A ca=some g1p.1/\comp Tryz.prog e8v.A cb=some g1p.2)
def DiR.lcs (d:DiR):List AV:=[isl d.ns d.sz,isl d.no d.od,isl d.ns d.sz,isl d.no d.od,vsl d.ne d.en,bsl d.nn d.var d.nk d.kid,int d.root]
theorem b7z {d:DiR}(hl:a1s d){pl u:Nat->Int}(hpu: ∀j,j<d.ns->pl j=u j)(hp:d2d d pl)(hu:d2d d u)(k:Int)(hk:a4g d.ne k d.nn):wayE d pl k=wayE d u k:=by
 have: ∀(m:Nat) (k:Int),k<m->k<d.nn->wayE d pl k=wayE d u k:=by
  intro m
  induction m with
  |zero=>
   intro k hm hn
   rw[a2j (by omega),a2j (by omega)]
  |succ m ih=>
   intro k hm hn
   by_cases h0:k<0
   ·rw[a2j h0,a2j h0]
   ·obtain⟨i,rfl⟩: ∃i:Nat,k=i:=⟨k.toNat,by omega⟩
    have hi:i<d.nn:=by omega
    have h1:=(a8b hl hp hi)
    rw[a5n hl hp hi,a5n hl hu hi,hpu _ (by have:=h1.1;omega)]
    have h2:=h1.2.2
    rw[hpu _ (by have:=h1.1;omega)] at h2
    have hlt:d.kid i (u (d.var i).toNat).toNat<i:=by
     rcases Int.lt_or_le (d.kid i (u (d.var i).toNat).toNat) 0 with h|h
     ·omega
     ·exact h2.1 h
    exact ih _ (by omega) (by omega)
 rcases Int.lt_or_le k 0 with h|h
 ·rw[a2j h,a2j h]
 ·exact this (k.toNat+1) k (by omega) (hk.1 h)
theorem e6y (d:DiR)(hl:a1s d)(hf:d.fit)(hs: ∀j,j<d.ns->1<=d.sz j/\d.sz j<=12){T:Nat}(hT:(T:Int)=prod d.sz d.ns)(hp:T<=2000):
 a0j Tryz.prog false 119 [d.lav] (vsl T d.cell):=by
 have hway:=fun pl h=>f0z d hl hf pl h
 have hne:=hf.ne
 have hns:=hf.ns
 refine a0d Tryz.mixed okP f2h _ rfl fun E Sg hb hS=> ?_
 have ett: ∀z,Sg.toNat z=z.toNat:=by subst hS;exact fun _=>rfl
 cbv
 refine c5d hS rfl ?_
 have hc:=(a0g.nilH (args:=[.agg [isl d.ns d.sz,isl d.no d.od],.yl 2]) (args':=[.agg [isl d.ns d.sz,isl d.no d.od],.yl 2]) (h:=[.var d.lcs,.var [.d .nil],e0a]) (h2:=[.var d.lcs,.var [.msl 3 2 none 0 false],e0a]) 2 (fun i=>(d.cell i).row) (d2w d.sz d.od (no:=d.no) hns hs (by rw[<-hT];exact Int.ofNat_le.2 hp) (fun _=> .var d.lcs) (fun p=> .var [.msl 3 2 none p false]) (fun _=>e0a) (fun p=> .arr 2 p fun i=>(d.cell i).row) (fun p=>rfl) ?_) ⟨.inl rfl,.inl rfl,trivial⟩ ⟨.inl rfl,.inr ⟨_,_,rfl,rfl,.inr ⟨rfl,rfl⟩,trivial⟩,.inl rfl,trivial⟩).pgs
 ·refine (a0g.mono ?_ (hc.heap (.cons (a0f.refl _) (.cons (a0f.refl _) (.cons (a0f.loop ?_ fun a b h=>h) (.nil _)))) rfl))
  ·rintro pg v h' ⟨pg1,⟨rfl,q,hq,rfl⟩,rfl⟩
   obtain rfl:q=T:=Int.ofNat.inj (hq.trans hT.symm)
   clear hc
   cbv
   refine⟨fun h=>(nomatch h),_,_,_,_,rfl,?_⟩
   cbv
   exact a0a hS (by subst hS;exact Nat.le_refl _) (a0b.refl _)
  ·exact a5e rfl ⟨a0b.refl _,a0b.refl _,trivial⟩
 ·intro p u hp1 hu
  have hpl:d2d d u:=fun j hj=>by rw[hu j hj];exact (a8e (n:=d.ns) (fun j hj=>(hs j hj).1) p hp1).1 j hj
  obtain⟨hw1,hw2⟩:=hway u hpl
  have hwe:wayE d (a9d d.sz d.ns p) d.root=wayE d u d.root:=b7z hl (fun j hj=>(hu j hj).symm) (fun j hj=>by rw[<-hu j hj];exact hpl j hj) hpl _ (a3f hl.2.2)
  refine a5s.cut (a7l Tryz.mixed okP (A:=e8v.A) rfl (fun _ _ h=>h) rfl fun ro E Sg hS=> ?_)
  have ett: ∀z,Sg.toNat z=z.toNat:=by subst hS;exact fun _=>rfl
  clear hway
  cbv
  refine⟨fun h=>(nomatch h),_,_,_,rfl,?_⟩
  cbv
  refine a0a hS (by subst hS;exact Nat.le_refl _) ?_
  have hix:0<= -1-wayE d u d.root/\ -1-wayE d u d.root<d.ne:=⟨by have:=hw1.1;omega,hw1.2 (by have:=hw1.1;omega)⟩
  obtain⟨W,hW⟩: ∃W,-1-wayE d u d.root=W:=⟨_,rfl⟩
  have hcell:d.cell p=d.en W.toNat:=by rw[<-hW];exact congrArg (fun z=>d.en (-1-z).toNat) hwe
  rw[hW] at hw2 hix
  have hpT:p<T:=by have h:=hp1;rw[<-hT] at h;exact Int.ofNat_lt.1 h
  refine a0e hS _ hw2 ?_
  cbv
  refine a0a hS (by subst hS;rfl) (a0a hS (by subst hS;rfl) (a0a hS (by clear hw2;subst hS;exact hix) (a0a hS (by subst hS;rfl) (a0a hS trivial (a0a hS (by clear hw2;subst hS;simp[std];omega) ?_)))))
  refine⟨fun h=>(nomatch h),_,_,_,rfl,[3],?_,?_⟩
  ·exact fun m _ h=>h
  ·cbv
   refine⟨[.var d.lcs,.var [.msl 3 2 none (p+1) false],e0a,.arr 2 (p+1) fun i=>(d.cell i).row,.var [isl d.ns d.sz,isl d.no d.od],arrI d.ns u],.d (.bool true),?_,a0b.refl _,by simp,.inr ?_,rfl,rfl,rfl⟩
   ·refine .cons (a0f.refl _) (.cons (a0f.var (.cons ?_ .nil)) (.cons (a0f.loop (a5e rfl ⟨a0b.refl _,a0b.refl _,trivial⟩) fun a b h=>h) (.cons (a0f.arr' ?_ ?_) (.cons (a0f.refl _) (.cons (a0f.refl _) (.nil _))))))
    ·subst hS;exact a0b.refl _
    ·subst hS;rfl
    ·intro i hi
     subst hS
     simp only[std] at hi⊢
     by_cases h:i<p
     ·rw[if_pos h]
     ·obtain rfl:i=p:=by omega
      rw[if_neg (by omega),Nat.sub_self,hcell]
      rfl
   ·rfl
theorem e4i (d:DiR)(hf:d.fit)(h0: ∀i,i<d.ne->0<=(d.en i).fault)(hno:d.no<=12)(r:Int)(hr:a7c d=r)(v:AV)
 (hv:(r≠0/\v= .d .nil)\/(r=0/\ ∃T:Nat,(T:Int)=prod d.sz d.ns/\v=vsl T d.cell)):a0j Tryz.prog false 87 [d.av] (.tuple [v,int r]):=by
 obtain⟨w,hw,ho⟩:=e8g d hf h0 hno r hr
 by_cases hz:r=0
 ·subst hz
  obtain⟨⟨k1,k2,k3⟩,k4⟩:(a2e d.ns d.no d.sz d.od=0/\d.nn<=6000/\a1s d)/\a8g d:=⟨a3z (b0w hr).1,(b0w hr).2⟩
  obtain⟨f1,f2,f3,f4⟩:=a1k k1
  obtain⟨_,T,hT,rfl⟩:=hv.resolve_left fun h=>h.1 rfl
  obtain rfl:=hw.resolve_right fun h=>h.1 k1
  have hl:=e6y d k3 hf f2 hT (Int.ofNat_le.1 (by rw[<-hT] at f3;exact f3))
  clear hw hv hr k1 k2 k3 k4 f1 f2 f3 f4
  refine a0d Tryz.mixed okP f7i _ rfl fun E Sg hb hS=> ?_
  cbv
  refine a0e hS _ ho ?_
  cbv
  split
  ·rename_i h;exfalso;clear ho hl;subst hS;simp[std] at h
  cbv
  refine a0e hS _ hl ?_
  cbv
  exact a1r.tuple (.cons (a0b.refl _) (.cons (a1m rfl) .nil))
 ·obtain⟨_,rfl⟩:=hv.resolve_right fun h=>hz h.1
  clear hv hr
  rcases hw with rfl|⟨_,rfl⟩<;>
  ·refine a0d Tryz.mixed okP f7i _ rfl fun E Sg hb hS=> ?_
   cbv
   refine a0e hS _ ho ?_
   cbv
   split
   rotate_left
   ·rename_i h;exfalso;clear ho;subst hS;simp[std,hz] at h
   cbv
   exact a1r.tuple (.cons (a0b.refl _) (.cons (a1f rfl) .nil))
def b9l (T:Nat->Nat)(e:Nat->Nat->List DV):Nat->AV
 |0=> .d .nil
 |k+1=> .d (.sl 1 (k+1) fun i=>[.sl 2 (T i) (e i)])
def c0p (n:Nat)(l:Nat->DiR)(T:Nat->Nat)(e:Nat->Nat->List DV)(k:Nat):AV:=
 .agg [isl (l 0).ns (l 0).sz,isl (l 0).no (l 0).od,dsl n l,b9l T e k]
def f1i (n:Nat)(l:Nat->DiR)(T:Nat->Nat)(e:Nat->Nat->List DV):Nat->St
 |0=>⟨a2l [(0,dsl n l),(2,.ptr 0 0),(23,dsl n l),(24,int n),(25,int 0)] 53,[.var [isl (l 0).ns (l 0).sz,isl (l 0).no (l 0).od,dsl n l,.d .nil]],[]⟩
 |i+1=>⟨a2l [(0,dsl n l),(2,.ptr 0 0),(23,dsl n l),(24,int n),(25,int ((i:Int)+1))] 53,[.var [isl (l 0).ns (l 0).sz,isl (l 0).no (l 0).od,dsl n l,.msl 2 1 none (i+1) false],.var [.any,.any,.any,.any,.any],.arr 1 (i+1) fun i=>[.sl 2 (T i) (e i)]],[2]⟩
theorem open54 (n:Nat)(hn:n<=1000000)(l:Nat->DiR)(hf: ∀i,i<n->(l i).fit)(h0: ∀i,i<n-> ∀j,j<(l i).ne->0<=((l i).en j).fault)(hno: ∀i,i<n->(l i).no<=12)
 (T:Nat->Nat) (hT: ∀i,i<n->a7c (l i)=0->(T i:Int)=prod (l i).sz (l i).ns) (e:Nat->Nat->List DV) (he: ∀i j,e i j=((l i).cell j).row) (r:Int) (hr:a6p n l r):
 ∃v,(∃a b c d:DV,v= .agg [.d a,.d b,.d c,.d d])/\(r=0->v=c0p n l T e n)/\a0j Tryz.prog false 54 [dsl n l] (.tuple [v,int r]):=by
 obtain⟨er,her⟩: ∃er:Nat->Int,∀i,a7c (l i)=er i:=⟨_,fun _=>rfl⟩
 obtain⟨S,hSm⟩: ∃S:Nat->Prop,∀i,b0l (l 0) (l i)=S i:=⟨_,fun _=>rfl⟩
 unfold a6p at hr
 rcases hr with⟨rfl,rfl⟩|⟨hpos,hr⟩
 ·refine⟨.agg [.d .nil,.d .nil,.d .nil,.d .nil],⟨_,_,_,_,rfl⟩,fun h=>(by cases h),?_⟩
  refine a0d Tryz.mixed okP f7y _ rfl fun E Sg hb hS=> ?_
  cbv
  split
  ·cbv
   exact a1r.tuple (.cons (a0b.refl _) (.cons (a1m rfl) .nil))
  ·rename_i h;exfalso;subst hS;simp[std] at h
 have h87: ∀i,i<n->(er i≠0->a0j Tryz.prog false 87 [(l i).av] (.tuple [.d .nil,int (er i)]))/\(er i=0->a0j Tryz.prog false 87 [(l i).av] (.tuple [.d (.sl 2 (T i) (e i)),int 0])):=fun i hi=>
  ⟨fun h=>e4i (l i) (hf i hi) (h0 i hi) (hno i hi) _ (her i) _ (.inl ⟨h,rfl⟩),fun h=>e4i (l i) (hf i hi) (h0 i hi) (hno i hi) 0 (by rw[her,h]) _ (.inr ⟨rfl,T i,hT i hi (by rw[her,h]),by
    rw[show e i=fun j=>((l i).cell j).row from funext (he i)];rfl⟩)⟩
 obtain⟨z,hz⟩: ∃z:Bool,z=true↔ ∀i,i<n->L (l i).ns (l i).sz=L (l 0).ns (l 0).sz/\L (l i).no (l i).od=L (l 0).no (l 0).od:=by classical exact⟨decide _,decide_eq_true_iff⟩
 have h88:=e7f (l 0).sz (l 0).od hn l (fun i hi=>⟨(hf i hi).ns,(hf i hi).no⟩) z hz
 have hzS:z=true↔ ∀i,1<=i->i<n->S i:=by
  rw[hz]
  simp only[<-hSm]
  refine⟨fun h i h1 hi=>⟨(h i hi).1.symm,(h i hi).2.symm⟩,fun h i hi=> ?_⟩
  cases i with
  |zero=>exact⟨rfl,rfl⟩
  |succ i=>exact⟨(h (i+1) (by omega) hi).1.symm,(h (i+1) (by omega) hi).2.symm⟩
 simp only[her,hSm] at hr
 obtain⟨k,hk,hkn,hke,hkz⟩: ∃k,(∀j,j<k->er j=0)/\k<=n/\(k<n->er k≠0/\er k=r)/\(k=n->(z=true->0=r)/\(z=false->2=r)):=by
  rcases hr with⟨i,a,b,c,d⟩|⟨a,b⟩
  ·exact⟨i,b,by omega,fun _=>⟨c,d.symm⟩,by omega⟩
  ·refine⟨n,a,by omega,by omega,fun _=>⟨fun h=> ?_,fun h=> ?_⟩⟩
   ·rcases b with⟨b1,b2⟩|⟨b1,b2⟩
    ·exact b2.symm
    ·exact absurd (hzS.1 h) b1
   ·rcases b with⟨b1,b2⟩|⟨b1,b2⟩
    ·rw[hzS.2 b1] at h;cases h
    ·exact b2.symm
 refine⟨c0p n l T e k,by cases k<;>exact⟨_,_,_,_,rfl⟩,fun h=> ?_,?_⟩
 ·have:k=n:=by
   rcases Nat.lt_or_ge k n with h1|h1
   ·exact absurd ((hke h1).2.trans h) (hke h1).1
   ·omega
  rw[this]
 clear hr hzS hz hT hno h0 hf her hSm he
 refine a0d Tryz.mixed okP f7y _ rfl fun E Sg hb hS=> ?_
 have ett: ∀z,Sg.toNat z=z.toNat:=by subst hS;exact fun _=>rfl
 cbv
 split
 ·rename_i h;exfalso;clear h87 h88;subst hS;simp[std] at h;omega
 cbv
 refine a0a hS (by clear h87 h88;subst hS;simp[std];omega) ?_
 refine a0a hS (by clear h87 h88;subst hS;simp[std];omega) ?_
 simp only[nat,ett,Int.ofNat_eq_natCast,Int.toNat_natCast]
 refine a0y Tryz.mixed okP hS (fun i=>i<=k) (fun i=>n-i) (f1i n l T e) 0 (by omega) ?_ ?_
 ·exact a0m rfl ⟨a0b.refl _,a0b.refl _,a0b.refl _,a1f (by subst hS;rfl),a1m rfl,trivial⟩ (.cons (.refl _) (.nil _)) (by simp;omega) (.inr rfl) rfl
 ·intro i hi N hN
  cases i with
  |zero=>
   cbv
   split
   rotate_left
   ·rename_i h;exfalso;clear h87 h88 hN;subst hS;simp[std] at h;omega
   cbv
   refine a0a hS (by clear h87 h88 hN;subst hS;simp[std];omega) ?_
   simp only[nat,ett,Int.ofNat_eq_natCast,Int.toNat_natCast]
   by_cases hz:er 0=0
   ·refine a0e hS _ ((h87 0 hpos).2 hz) ?_
    cbv
    split
    ·rename_i h;exfalso;clear h87 h88 hN;subst hS;simp[std] at h
    cbv
    have hk1:1<=k:=by
     rcases Nat.eq_zero_or_pos k with h|h
     ·rw[h] at hke;exact absurd hz (hke hpos).1
     ·exact h
    refine a0a hS (by clear h87 h88 hN;subst hS;simp[std]) (a0a hS (by clear h87 h88 hN;subst hS;exact a0h (by simp[std]) (by simp[std])) ?_)
    refine hN 1 _ hk1 (by omega) (a0m rfl ⟨a0b.refl _,a0b.refl _,a0b.refl _,a0b.refl _,a1f ?_,trivial⟩ (.cons (.refl _) (.cons (a0f.var (.cons (.any _) (.cons (.any _) (.cons (.any _) (.cons (.any _) (.cons (.any _) .nil)))))) (.cons (a0f.arr' rfl ?_) (.nil _)))) (by simp;omega) (.inr rfl) rfl)
    ·clear h87 h88 hN;subst hS;rfl
    ·intro j hj
     obtain rfl:j=0:=by omega
     rfl
   ·refine a0e hS _ ((h87 0 hpos).1 hz) ?_
    cbv
    split
    rotate_left
    ·rename_i h;exfalso;clear h87 h88 hN;subst hS;simp[std] at h;exact hz h
    obtain rfl:k=0:=by
     rcases Nat.eq_zero_or_pos k with h|h
     ·exact h
     ·exact absurd (hk 0 h) hz
    cbv
    exact a1r.tuple (.cons (a0b.refl _) (.cons (a1f (hke hpos).2) .nil))
  |succ i=>
   cbv
   split
   ·have hlt:i+1<n:=by rename_i h;clear h87 h88 hN;subst hS;simp[std] at h;omega
    cbv
    refine a0a hS (by clear h87 h88 hN;subst hS;simp[std];omega) ?_
    simp only[nat,ett,Int.ofNat_eq_natCast,Int.toNat_natCast,Nat.succ_eq_add_one]
    by_cases hz:er (i+1)=0
    ·refine a0e hS _ ((h87 _ hlt).2 hz) ?_
     cbv
     split
     ·rename_i h;exfalso;clear h87 h88 hN;subst hS;simp[std] at h
     cbv
     have hk1:i+2<=k:=by
      rcases Nat.lt_or_ge (i+1) k with h|h
      ·exact h
      ·obtain rfl:k=i+1:=by omega
       exact absurd hz (hke hlt).1
     refine a0a hS trivial (a0a hS (by clear h87 h88 hN;subst hS;simp[std];omega) (a0a hS (by clear h87 h88 hN;subst hS;exact a0h (by simp[std];omega) (by simp[std];omega)) ?_))
     refine hN (i+2) _ hk1 (by omega) (a0m rfl ⟨a0b.refl _,a0b.refl _,a0b.refl _,a0b.refl _,a1f ?_,trivial⟩ (.cons (a0f.var (.cons (a0b.refl _) (.cons (a0b.refl _) (.cons (a0b.refl _) (.cons ?_ .nil))))) (.cons (a0f.refl _) (.cons (a0f.arr' ?_ ?_) (.nil _)))) (by simp;omega) (.inl ⟨rfl,rfl⟩) rfl)
     ·clear h87 h88 hN;subst hS;simp[std]
     ·clear h87 h88 hN;subst hS;exact a0b.refl _
     ·clear h87 h88 hN;subst hS;rfl
     ·intro j hj
      clear h87 h88 hN
      subst hS
      simp only[std] at hj⊢
      by_cases h:j<i+1
      ·rw[if_pos h]
      ·obtain rfl:j=i+1:=by omega
       rw[if_neg (by omega),Nat.sub_self]
       rfl
    ·refine a0e hS _ ((h87 _ hlt).1 hz) ?_
     cbv
     split
     rotate_left
     ·rename_i h;exfalso;clear h87 h88 hN;subst hS;simp[std] at h;exact hz h
     obtain rfl:k=i+1:=by
      rcases Nat.lt_or_ge (i+1) k with h|h
      ·exact absurd (hk _ h) hz
      ·omega
     cbv
     refine a0a hS (by clear h87 h88 hN;subst hS;exact Nat.le_refl _) ?_
     exact a1r.tuple (.cons (a0b.refl _) (.cons (a1f (hke hlt).2) .nil))
   ·have hlt:i+1=n:=by rename_i h;clear h87 h88 hN;subst hS;simp[std] at h;omega
    obtain rfl:k=i+1:=by omega
    obtain⟨z1,z2⟩:=hkz hlt
    cbv
    refine a1a hS (a0g.frame h88 [] rfl rfl trivial) ?_
    rintro pg v H' ⟨pg0,v0,h0',⟨rfl,rfl,rfl⟩,rfl,rfl,rfl⟩
    cases z
    ·cbv
     refine a0a hS (by clear h87 h88 hN;subst hS;exact Nat.le_refl _) ?_
     exact a1r.tuple (.cons (a0b.refl _) (.cons (a1m (z2 rfl)) .nil))
    ·cbv
     refine a0a hS (by clear h87 h88 hN;subst hS;exact Nat.le_refl _) ?_
     exact a1r.tuple (.cons (a0b.refl _) (.cons (a1m (z1 rfl)) .nil))
end Go.Proofs.Tryz.Run
