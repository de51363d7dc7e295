/- A family in another order: the program's. Numbers within bounds, orders of frames. The program's Change of a family. A number of a list taken out, and put in. The reference's Moved. A family is equal to itself. Conditions: none. -/
import Derived.Test.YtpcokdalcafgdaaGreatWLq
import Derived.Test.YtpcokdalcafgdaaGreatWNa
import Derived.Test.YtpcokdalcafgdaaGreatWNc
import Derived.Test.YtpcokdalcafgdaaGreatWLh
import Derived.Test.YtpcokdalcafgdaaGreatWNb
import Derived.Test.YtpcokdalcafgdaaGreatWOh
import Derived.Test.YtpcokdalcafgdaaGreatWPm0
import Derived.Test.YtpcokdalcafgdaaGreatWQd
import Derived.Test.YtpcokdalcafgdaaGreatWQf
import Derived.Test.YtpcokdalcafgdaaGreatWQh
import Derived.Test.YtpcokdalcafgdaaGreatWQi
import Derived.Test.YtpcokdalcafgdaaGreatWSd
import Derived.Test.YtpcokdalcafgdaaGreatWSg
import Derived.Test.YtpcokdalcafgdaaGreatWSy
import Derived.Test.YtpcokdalcafgdaaGreatWUf
import Derived.Test.YtpcokdalcafgdaaGreatWUi
import Derived.Test.YtpcokdalcafgdaaGreatWXf
import Derived.Test.YtpcokdalcafgdaaGreatWXi
import Derived.Test.YtpcokdalcafgdaaGreatWXk
import Derived.Test.YtpcokdalcafgdaaGreatWXn
set_option linter.unusedSimpArgs false
set_option linter.unusedVariables false
set_option maxHeartbeats 0
set_option maxRecDepth 100000
namespace Go.Proofs.Tryz.Run
open Go Go.Vf Go.Proofs
open Go.Proofs.YtpcokdalcafgdaaGreat
def e1j (n:Nat)(l:Nat->DiR)(no:Nat)(od:Nat->Int)(T:Nat->Nat)(e:Nat->Nat->List DV):AV:=
 .agg [isl (l 0).ns (l 0).sz,isl no od,dsl n (chg l no od),b9l T e n]
section
variable {n:Nat} {l:Nat->DiR}
theorem in64 (h:a0x n l){no:Nat}{od:Nat->Int}(hfr:a2e (l 0).ns no (l 0).sz od=0)(T:Nat->Nat)(hT: ∀i,i<n->(T i:Int)=prod (l i).sz (l i).ns)(e:Nat->Nat->List DV)(he: ∀i j,e i j=((l i).cell j).row):
 a0j Tryz.prog false 64 [c0p n l T e n,isl no od] (e1j n l no od T e):=by
 have h95: ∀i,i<n->a0j Tryz.prog false 95 [isl (l 0).ns (l 0).sz,isl no od,.d (.sl 2 (T i) (e i))] (.tuple [(chg l no od i).av,int 0]):=fun i hi=>by
  have:=h.of95 hfr (i:=i) hi
  rw[<-hT i hi,Int.toNat_natCast] at this
  rw[show e i=fun j=>((l i).cell j).row from funext (he i)]
  exact this
 obtain⟨m,rfl⟩: ∃m,n=m+1:=⟨n-1,by have:=h.pos;omega⟩
 obtain⟨C,hC⟩: ∃C,chg l no od=C:=⟨_,rfl⟩
 unfold e1j
 simp only[hC] at h95⊢
 have hn8:=h.pos
 clear hfr h hC hT he
 obtain⟨w,hw⟩: ∃w,w=m+1:=⟨_,rfl⟩
 show a0j Tryz.prog false 64 [.agg [isl (l 0).ns (l 0).sz,isl (l 0).no (l 0).od,dsl (m+1) l,.d (.sl 1 (m+1) fun i=>[.sl 2 (T i) (e i)])],isl no od] (.agg [isl (l 0).ns (l 0).sz,isl no od,dsl (m+1) C,.d (.sl 1 (m+1) fun i=>[.sl 2 (T i) (e i)])])
 rw[<-hw] at h95 hn8⊢
 clear hw
 refine a0d Tryz.mixed okP g2b _ rfl fun E Sg hb hS=> ?_
 have ee:=a5x hS
 cbv
 refine b2v Tryz.mixed okP hS (fun i=>i<=w) (fun i=>w-i)
  (fun i=>⟨a2l [(1,isl no od),(2,.ptr 0 0),(4,.ptr 1 0),(5,.ptr 2 0),(19,.d (.sl 1 w fun i=>[.sl 2 (T i) (e i)])),(20,int w),(21,int i)] 42,
    [.var [isl (l 0).ns (l 0).sz,.any,.any,.any],.var [.d .nil,.d .nil,.d .nil,.d .nil],.var [isl (l 0).ns (l 0).sz,isl no od,.msl 3 5 none i false,.d (.sl 1 w fun i=>[.sl 2 (T i) (e i)])],.arr 5 i fun i=>(C i).row],[3]⟩) 0 (by omega) ?_ ?_
 ·exact (a6f.gh 2 2 5 (fun _=>[]) rfl rfl).trans (a6f.le (a0m rfl ⟨a0b.refl _,a0b.refl _,a0b.refl _,a0b.refl _,a0b.refl _,a1f ((a5x hS).ofNat _),a1m rfl,trivial⟩
   (.cons (a0f.var (.cons (a0b.refl _) (.cons (.any _) (.cons (.any _) (.cons (.any _) .nil))))) (.cons (a0f.refl _) (.cons (a0f.refl _) (.cons (a0f.arrr rfl fun j hj=>by omega) (.nil _))))) (by simp;omega) (.inr rfl) rfl))
 ·intro i hi N hN
  cbv
  split
  ·rename_i h
   have hlt:i<w:=Int.ofNat_lt.1 (b8j hS h)
   cbv
   simp only[nat,ee.toNat,Int.ofNat_eq_natCast,Int.toNat_natCast]
   refine a0a hS (a1d hS hlt) ?_
   refine a0e hS _ (h95 i hlt) ?_
   cbv
   refine a0a hS trivial (a0a hS (b6u hS (by omega)) (a0a hS (a4t hS (by omega)) ?_))
   exact hN (i+1) _ hlt (by omega) (a6f.le (a0m rfl ⟨a0b.refl _,a0b.refl _,a0b.refl _,a0b.refl _,a0b.refl _,a0b.refl _,a5c hS,trivial⟩
    (.cons (a0f.var (.cons (a0b.refl _) (.cons (.any _) (.cons (.any _) (.cons (.any _) .nil))))) (.cons (a0f.refl _) (.cons (a0f.var (.cons (a0b.refl _) (.cons (a0b.refl _) (.cons (a6e hS) (.cons (a0b.refl _) .nil))))) (.cons (a7j hS (fun j hj=> .refl _) (.refl _)) (.nil _))))) (by simp;omega) (.inl ⟨rfl,rfl⟩) rfl))
  ·rename_i h
   have hin:i=w:=by have:=Int.ofNat_le.1 (b7c hS h);omega
   subst hin
   cbv
   exact a0a hS (b0h hS (Nat.le_refl _)) fun _ _ _ _ h=>h
end
theorem h2x (a lo up:Int)(H:List a0i)(r:Bool)(hr:r=true↔lo<=a/\a<=up):a0g Tryz.prog 108 [int a,.ptr 0 0,.ptr 1 0] (.var [int lo]:: .var [int up]::H) (ro (.var [int lo]:: .var [int up]::H) (bool r)):=by
 refine a1p Tryz.mixed okP f5n _ rfl fun E Sg hb hS=> ?_
 cbv
 repeat' (split<;>cbv)
 all_goals
  refine a1o (a0v ?_) (.same _) (.inr rfl)
  subst hS
  simp[std] at*
  cases r<;>simp at* <;>omega
def h2w (lo up:Int):List a0i:=[.var [int lo],.var [int up],.var [.fn 108 [] [.ptr 0 0,.ptr 1 0]]]
theorem h2y (a lo up:Int)(r:Bool)(hr:r=true↔ ¬(lo<=a/\a<=up)):a0g Tryz.prog 148 [int a,.ptr 2 0] (h2w lo up) (ro (h2w lo up) (bool r)):=by
 have h1:=h2x a lo up [.var [.fn 108 [] [.ptr 0 0,.ptr 1 0]]] (!r) (by cases r<;>simp at* <;>omega)
 refine a1p Tryz.mixed okP f5m _ rfl fun E Sg hb hS=> ?_
 cbv
 refine a2a hS h1 ?_
 cases r<;>cbv<;>exact a1o (a0v rfl) (.same _) (.inr rfl)
theorem h2j (lo up:Int){n:Nat}(hn:n<=1000000)(g:Nat->Int)(r:Bool)(hr:r=true↔ ∀i,i<n->lo<=g i/\g i<=up):
 a0g Tryz.prog 107 [isl n g,.fn 108 [] [.ptr 0 0,.ptr 1 0]] [.var [int lo],.var [int up]] (ro [.var [int lo],.var [int up]] (bool r)):=by
 have h1:=b3g hn g (h2w lo up) 148 2 (fun i=>decide (¬(lo<=g i/\g i<=up))) (fun i _=>h2y (g i) lo up _ decide_eq_true_iff) (!r) (by
  cases r
  ·have hr: ¬ ∀i,i<n->lo<=g i/\g i<=up:=fun h=>Bool.noConfusion (hr.2 h)
   simp only[Bool.not_false,decide_eq_true_eq,true_iff]
   exact Classical.byContradiction fun h=>hr fun i hi=>Classical.byContradiction fun h'=>h ⟨i,hi,h'⟩
  ·have hr:=hr.1 rfl
   simp only[Bool.not_true,decide_eq_true_eq,Bool.false_eq_true,false_iff]
   rintro⟨i,hi,h⟩
   exact h (hr i hi))
 refine a1p Tryz.mixed okP f8e _ rfl fun E Sg hb hS=> ?_
 cbv
 refine a2a hS h1 ?_
 cases r<;>cbv<;>exact a1o (a0v rfl) (.cons (.refl _) (.cons (.refl _) (.nil _))) (.inl ⟨rfl,rfl⟩)
theorem h2i (lo up:Int){n:Nat}(hn:n<=1000000)(g:Nat->Int)(r:Bool)(hr:r=true↔ ∀i,i<n->lo<=g i/\g i<=up):a0j Tryz.prog true 78 [int lo,int up,isl n g] (bool r):=by
 have h1:=h2j lo up hn g r hr
 refine a0s (a0d Tryz.mixed okP g4c _ rfl fun E Sg hb hS=> ?_)
 cbv
 refine a2a hS h1 ?_
 cbv
 exact a0b.refl _
theorem h3u (lo up x:Int)(r:Bool)(hr:r=true↔lo<=x/\x<=up):a0j Tryz.prog true 78 [int lo,int up,.d (.sl 1 1 (Vf.rowAt [[.int .i64 (.v x)]]))] (bool r):=
 a0j.like (.cons (a0b.refl _) (.cons (a0b.refl _) (.cons d3c .nil))) (h2i lo up (by omega) (fun _=>x) r (by rw[hr];exact⟨fun h _ _=>h,fun h=>h 0 (by omega)⟩))
section
variable {n:Nat} {e0:Nat->List DV} {v:AV} {r:Int}
end
section
variable {n:Nat} {l:Nat->DiR}
theorem a0x.no (h:a0x n l): ∀i,i<n->(l i).no<=12:=fun i hi=>by have:=a1k (h.di i hi).fr;have:=this.2.2.2.1;omega
theorem a0x.open54 (h:a0x n l):a0j Tryz.prog false 54 [dsl n l] (.tuple [c0p n l (fun i=>(prod (l i).sz (l i).ns).toNat) (fun i j=>((l i).cell j).row) n,int 0]):=by
 obtain⟨v,hv,hv0,hp⟩:=c8i h.pos.2 h.fit h.flt h.no 0 h.err
 obtain rfl:=hv0 rfl
 exact hp
theorem a0x.in64 (h:a0x n l){no:Nat}{od:Nat->Int}(hfr:a2e (l 0).ns no (l 0).sz od=0):
 a0j Tryz.prog false 64 [c0p n l (fun i=>(prod (l i).sz (l i).ns).toNat) (fun i j=>((l i).cell j).row) n,isl no od] (e1j n l no od (fun i=>(prod (l i).sz (l i).ns).toNat) fun i j=>((l i).cell j).row):=
 Run.in64 h hfr _ (fun i hi=>(h.di i hi).T) _ fun _ _=>rfl
end
def g9u (n m:Nat)(u:Nat->Int)(pg:List Nat)(v:AV)(h':List a0i):Prop:=pg=[]/\v= .msl 0 1 none n false/\h'=[arrI m u]
def e7p (p n:Nat)(g:Nat->Int)(j:Nat):Int:=if j<p then g j else if j+1<n then g (j+1) else 0
theorem d9h {k n p:Nat}(hk:n=k+1)(hn:n<=1000000)(hp:p<n)(g:Nat->Int)(u:Nat->Int)(hu: ∀j,j<n->u j=e7p p n g j):a0g Tryz.prog 97 [.msl 0 1 none n false,int p,int ((p:Int)+1)] [arrI n g] (g9u k n u):=by
 obtain⟨q,hq,hq1⟩: ∃q:Int,q=(p:Int)+1/\q.toNat=p+1:=⟨_,rfl,by omega⟩
 obtain⟨z,hz,hz1⟩: ∃z:Int,z=(p:Int)/\z.toNat=p:=⟨_,rfl,by omega⟩
 have h1: ¬(z=q):=by omega
 have h2:q<=n:=by omega
 have h3:(0:Int)<=z:=by omega
 have h4:z<=q:=by omega
 have h5:z<=n:=by omega
 have h6:p+(n-(p+1))=k:=by omega
 have h7:n-k=1:=by omega
 have h8:((k:Nat):Int)<=n:=by omega
 rw[<-hq,<-hz]
 refine a1b Tryz.mixed okP f9v rfl fun E Sg hb hS F hF=> ?_
 have e:=a5x hS
 cbv
 refine a0a hS (b0e hS h3) (a0a hS (b0e hS h4) (a0a hS (b0e hS (by subst hS;exact h2)) (a0a hS (b0e hS (Int.le_refl _)) ?_)))
 split
 ·rename_i h;exact absurd (f4k hS h) h1
 cbv
 repeat' ((first|(refine a0a hS (by clear hF;subst hS;simp[std,nat,IX.val];try omega) ?_))<;>cbv)
 simp only[e.toNat,e.ofNat,e.nadd,e.nsub,hz1,hq1,Int.toNat_natCast,Nat.sub_zero,h6,h7]
 refine⟨[],by simp,hF (h1:=[arrI n u]) (.cons (a0f.arrr rfl fun j hj=> ?_) (.nil _)) (v0:= .msl 0 1 none k false) (a0b.refl _) (by simp) (.inr rfl) ⟨rfl,rfl,rfl⟩⟩
 simp only[e.put,e.shift,e.rep]
 rw[hu j hj]
 unfold e7p
 clear hF hu
 split
 ·rename_i h
  rw[if_pos (by omega),if_neg (by omega),if_neg (by omega)]
  exact .one (.int rfl)
 ·rename_i h
  split
  ·rename_i h'
   rw[if_neg (by omega),if_pos (by omega),show p+1+(j-p)=j+1 by omega]
   exact .one (.int rfl)
  ·rw[if_pos (by omega)]
   exact .refl _
def inF (q:Nat)(v:Int)(g:Nat->Int)(j:Nat):Int:=if j<q then g j else if j=q then v else g (j-1)
def g8y (n:Nat)(u:Nat->Int)(v:Int)(pg:List Nat)(r:AV)(h':List a0i):Prop:=pg=[]/\r= .msl 0 1 none n false/\h'=[arrI n u,.arr 1 1 (Vf.rowAt [[.int .i64 (.v v)]])]
theorem d9m {k n q:Nat}(hk:n=k+1)(hn:k<=1000000)(hq:q<=k)(g:Nat->Int)(v:Int)(u:Nat->Int)(hu: ∀j,j<n->u j=inF q v g j):
 a0g Tryz.prog 99 [.msl 0 1 none k false,int q,.msl 1 1 none 1 false] [arrI n g,.arr 1 1 (Vf.rowAt [[.int .i64 (.v v)]])] (g8y n u v):=by
 obtain⟨z,hz,hz1⟩: ∃z:Int,z=(q:Int)/\z.toNat=q:=⟨_,rfl,by omega⟩
 have h3:(0:Int)<=z:=by omega
 have h5:z<=k:=by omega
 rw[<-hz]
 refine a1b Tryz.mixed okP g2y rfl fun E Sg hb hS F hF=> ?_
 have e:=a5x hS
 cbv
 refine a0a hS (b0e hS h3) (a0a hS (by subst hS;exact h5) (a0a hS (b0e hS (Int.le_refl _)) ?_))
 split
 ·rename_i h;exact absurd (f4k hS h) (by subst hS;simp[std])
 cbv
 split
 ·rename_i h
  have hqk:q=k:=by have h:=f4k hS h;simp only[e.ofNat] at h;omega
  cbv
  refine a0a hS (b0h hS (by omega)) (a0a hS (b6u hS (by omega)) ?_)
  refine⟨[],by simp,hF (h1:=[arrI n u,.arr 1 1 (Vf.rowAt [[.int .i64 (.v v)]])]) (.cons (a0f.arrr rfl fun j hj=> ?_) (.cons (.refl _) (.nil _))) (v0:= .msl 0 1 none n false) ?_ (by simp) (.inr rfl) ⟨rfl,rfl,rfl⟩⟩
  ·simp only[e.put]
   rw[hu j hj]
   unfold inF
   clear hF hu
   by_cases hjq:j<q
   ·rw[if_pos hjq,if_neg (by omega)]
    exact .refl _
   ·rw[if_neg hjq,if_pos (by omega),if_pos (by omega),show j-k=0 by omega]
    exact .refl _
  ·rw[hk]
   exact a6e hS
 ·rename_i h
  have hqk:q≠k:=by have h:=g3p hS h;simp only[e.ofNat] at h;omega
  obtain⟨y,hy,hy1⟩: ∃y:Int,z+1=y/\y.toNat=q+1:=⟨_,rfl,by omega⟩
  have e1:(k:Int)+1=n:=by omega
  cbv
  simp only[e.iadd,e.ofNat,e.toNat,e.nsub,e.nadd,e1,hz1,Int.toNat_natCast,Nat.sub_zero,Int.natCast_one,hy,hy1,e.nmin]
  have e9: -9223372036854775808<=(n:Int)/\(n:Int)<=9223372036854775807:=by omega
  repeat' (first|refine a0a hS (a9w hS e9) ?_|refine a0a hS (a9w hS (by omega)) ?_|refine a0a hS (by clear hF;subst hS;simp[std,nat,IX.val];try omega) ?_)
  refine⟨[],by simp,hF (h1:=[arrI n u,.arr 1 1 (Vf.rowAt [[.int .i64 (.v v)]])]) (.cons (a0f.arrr rfl fun j hj=> ?_) (.cons (.refl _) (.nil _))) (v0:= .msl 0 1 none n false) (a0b.refl _) (by simp) (.inr rfl) ⟨rfl,rfl,rfl⟩⟩
  rw[show min 1 (n-q)=1 by omega,show min (n-q) (n-(q+1))=n-(q+1) by omega]
  simp only[e.put,e.shift]
  rw[hu j hj]
  unfold inF
  clear hF hu
  by_cases hjq:j<q
  ·rw[if_pos hjq,if_neg (by omega),if_neg (by omega)]
   exact .refl _
  ·rw[if_neg hjq]
   by_cases hjq2:j=q
   ·rw[if_pos hjq2,if_pos (by omega),show j-q=0 by omega]
    exact .refl _
   ·rw[if_neg hjq2,if_neg (by omega),if_pos (by omega),show q+(j-(q+1))=j-1 by omega]
    exact .refl _
theorem moved65 {ns n p q:Nat}(hn:n<=1000000)(sz g:Nat->Int)(v:Int)(hp:p<n)(hg: ∀j,j<n->(g j=v↔j=p))(hq:q<n)(u:Nat->Int)(hu: ∀j,j<n->u j=inF q v (e7p p n g) j):
 a0j Tryz.prog false 65 [.agg [isl ns sz,isl n g],int v,int q] (isl n u):=by
 have h96:=c4u hn g v p ⟨fun h=>absurd ((hg p hp).2 rfl).symm (by simpa using h p hp),fun i hi h hj=>by rw[(hg i hi).1 (by simpa using (of_decide_eq_true h).symm)]⟩
 have h98:=c8h hn g
 obtain⟨w,hw,hw0⟩: ∃w:Int,(p:Int)+1=w/\w=(p:Int)+1:=⟨_,rfl,rfl⟩
 have h99:=fun k hk=>d9m (k:=k) (n:=n) (q:=q) hk (by omega) (by omega) (fun j=>e7p p n g j) v u hu
 obtain⟨k,hk⟩: ∃k,n=k+1:=⟨n-1,by omega⟩
 have h97:=d9h hk hn hp g (fun j=>e7p p n g j) fun _ _=>rfl
 refine a0d Tryz.mixed okP f8x _ rfl fun E Sg hb hS=> ?_
 have e:=a5x hS
 cbv
 refine a0e hS _ h96 ?_
 cbv
 refine a1a hS (a0g.frame h98 [] rfl rfl trivial) ?_
 rintro pg v H' ⟨pg0,v0,h0',⟨rfl,rfl,rfl⟩,rfl,rfl,rfl⟩
 cbv
 have h99:=h99 k hk
 rw[hw] at h97
 refine a0a hS (a4t hS (by omega)) ?_
 simp only[show Sg.iadd (Int.ofNat p) (Int.ofNat 1)=w from by rw[e.iadd];exact hw]
 refine a1a hS (a0g.frame h97 [1] rfl rfl ⟨a0f.refl _,trivial⟩) ?_
 rintro pg v' H' ⟨pg0,v0,h0',⟨rfl,rfl,rfl⟩,rfl,rfl,rfl⟩
 cbv
 refine a1a hS (a0g.frame h99 [1,2] rfl rfl ⟨a0f.refl _,a0f.refl _,trivial⟩) ?_
 rintro pg v' H' ⟨pg0,v0,h0',⟨rfl,rfl,rfl⟩,rfl,rfl,rfl⟩
 cbv
 exact a0a hS (b0h hS (Nat.le_refl _)) fun _ _ _ _ h=>h
theorem e2f {n:Nat}(hn:n<=1000000)(f:Nat->VaR):a0j Tryz.prog true 82 [vsl n f,vsl n f] (bool true):=by
 obtain⟨ef,en,hf⟩: ∃ef en,f=fun i=>VaR.mk (ef i) (en i):=⟨fun i=>(f i).fault,fun i=>(f i).n,rfl⟩
 subst hf
 refine a0s (a0d Tryz.mixed okP g1o _ rfl fun E Sg hb hS=> ?_)
 have e:=a5x hS
 cbv
 split
 ·rename_i h;exact absurd rfl (f2x hS h)
 cbv
 refine a0y Tryz.mixed okP hS (fun i=>i<=n) (fun i=>n-i)
  (fun i=>⟨a2l [(0,vsl n (fun i=>⟨ef i,en i⟩)),(1,vsl n (fun i=>⟨ef i,en i⟩)),(5,int i)] 26,[],[]⟩) 0 (by omega) ?_ ?_
 ·exact a0m rfl ⟨a0b.refl _,a0b.refl _,a1m rfl,trivial⟩ (.nil _) (by omega) (.inr rfl) rfl
 ·intro i hi N hN
  cbv
  split
  ·rename_i h
   have hlt:i<n:=c3a hS h
   cbv
   refine a0a hS (a1d hS hlt) (a0a hS (a1d hS hlt) ?_)
   simp only[nat,e.toNat,Int.ofNat_eq_natCast,Int.toNat_natCast]
   split
   ·rename_i h;exfalso;clear hN;subst hS;simp[std] at h
   cbv
   refine a0a hS (a4t hS (by omega)) ?_
   exact hN (i+1) _ hlt (by omega) (a0m rfl ⟨a0b.refl _,a0b.refl _,a5c hS,trivial⟩ (.nil _) (by omega) (.inr rfl) rfl)
  ·cbv
   exact a0v rfl
theorem h0v {P:Program}{A:Ann}{ro:Option Nat}{E:Ent}{Sg:Sig}(hS:Sg=std P A ro E)(a:Int):Sg.bnot (Sg.ieq a a)=false:=by subst hS;simp[std]
theorem h0n (a:DiR)(ha:a.ns<=1000000/\a.no<=1000000/\a.ne<=1000000/\a.nn<=1000000)(hk: ∀i,i<a.nn->a.nk i<=1000000):a0j Tryz.prog true 47 [a.av,a.av] (bool true):=by
 have h1:=c4k a.ns a.ns a.sz a.sz ha.1 true (by simp)
 have h2:=c4k a.no a.no a.od a.od ha.2.1 true (by simp)
 have h3:=e2f ha.2.2.1 a.en
 have h4:=fun i hi=>c4k (a.nk i) (a.nk i) (a.kid i) (a.kid i) (hk i hi) true (by simp)
 have hnn:=ha.2.2.2
 obtain⟨ns,sz,no,od,ne,en,nn,var,nk,kid,root⟩:=a
 obtain⟨ef,em,hf⟩: ∃ef em,en=fun i=>VaR.mk (ef i) (em i):=⟨fun i=>(en i).fault,fun i=>(en i).n,rfl⟩
 subst hf
 simp only at h1 h2 h3 h4 hnn⊢
 clear ha hk
 refine a0s (a0d Tryz.mixed okP g5u _ rfl fun E Sg hb hS=> ?_)
 have e:=a5x hS
 cbv
 refine a0e hS _ h1 ?_
 cbv
 refine a0e hS _ h2 ?_
 cbv
 refine a0e hS _ h3 ?_
 cbv
 simp only[h0v hS]
 cbv
 simp only[h0v hS]
 cbv
 refine a0y Tryz.mixed okP hS (fun i=>i<=nn) (fun i=>nn-i)
  (fun i=>⟨a2l [(2,.ptr 0 0),(3,.ptr 1 0),(5,int i)] 80,[.var [.any,.any,.any,bsl nn var nk kid,.any],.var [.any,.any,.any,bsl nn var nk kid,.any]],[]⟩) 0 (by omega) ?_ ?_
 ·exact a0m rfl ⟨a0b.refl _,a0b.refl _,a1m rfl,trivial⟩ (.cons (a0f.var (.cons (.any _) (.cons (.any _) (.cons (.any _) (.cons (a0b.refl _) (.cons (.any _) .nil)))))) (.cons (a0f.var (.cons (.any _) (.cons (.any _) (.cons (.any _) (.cons (a0b.refl _) (.cons (.any _) .nil)))))) (.nil _))) (by simp;omega) (.inr rfl) rfl
 ·intro i hi N hN
  cbv
  split
  ·rename_i h
   have hlt:i<nn:=c3a hS h
   cbv
   refine a0a hS (a1d hS hlt) (a0a hS (a1d hS hlt) ?_)
   simp only[nat,e.toNat,Int.ofNat_eq_natCast,Int.toNat_natCast,h0v hS]
   cbv
   refine a0a hS (a1d hS hlt) (a0a hS (a1d hS hlt) ?_)
   simp only[nat,e.toNat,Int.ofNat_eq_natCast,Int.toNat_natCast]
   refine a0e hS _ (h4 i hlt) ?_
   cbv
   refine a0a hS (a4t hS (by omega)) ?_
   exact hN (i+1) _ hlt (by omega) (a0m rfl ⟨a0b.refl _,a0b.refl _,a5c hS,trivial⟩ (.cons (.refl _) (.cons (.refl _) (.nil _))) (by simp;omega) (.inr rfl) rfl)
  ·cbv
   exact a0v rfl
theorem h0p {n:Nat}(hn:n<=1000000)(l:Nat->DiR)(ha: ∀i,i<n->((l i).ns<=1000000/\(l i).no<=1000000/\(l i).ne<=1000000/\(l i).nn<=1000000)/\ ∀j,j<(l i).nn->(l i).nk j<=1000000):a0j Tryz.prog true 27 [dsl n l,dsl n l] (bool true):=by
 have h1:=fun i hi=>h0n (l i) (ha i hi).1 (ha i hi).2
 clear ha
 refine a0s (a0d Tryz.mixed okP g4t _ rfl fun E Sg hb hS=> ?_)
 have e:=a5x hS
 cbv
 split
 ·rename_i h;exact absurd rfl (f2x hS h)
 cbv
 refine a0y Tryz.mixed okP hS (fun i=>i<=n) (fun i=>n-i)
  (fun i=>⟨a2l [(0,dsl n l),(1,dsl n l),(5,int i)] 27,[],[]⟩) 0 (by omega) ?_ ?_
 ·exact a0m rfl ⟨a0b.refl _,a0b.refl _,a1m rfl,trivial⟩ (.nil _) (by omega) (.inr rfl) rfl
 ·intro i hi N hN
  cbv
  split
  ·rename_i h
   have hlt:i<n:=c3a hS h
   cbv
   refine a0a hS (a1d hS hlt) (a0a hS (a1d hS hlt) ?_)
   simp only[nat,e.toNat,Int.ofNat_eq_natCast,Int.toNat_natCast]
   refine a0e hS _ (h1 i hlt) ?_
   cbv
   refine a0a hS (a4t hS (by omega)) ?_
   exact hN (i+1) _ hlt (by omega) (a0m rfl ⟨a0b.refl _,a0b.refl _,a5c hS,trivial⟩ (.nil _) (by omega) (.inr rfl) rfl)
  ·cbv
   exact a0v rfl
end Go.Proofs.Tryz.Run
