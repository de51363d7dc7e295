/- LookWays: whether a list is a place, the cell of a place, where a cell is; by the program. LookWays: the program's diagram of ones. Conditions: none. -/
import Derived.Test.YtbglklaocjifhaaGreatWLr
import Derived.Test.YtbglklaocjifhaaGreatWNb
import Derived.Test.YtbglklaocjifhaaGreatWNe
import Derived.Test.YtbglklaocjifhaaGreatWPm0
import Derived.Test.YtbglklaocjifhaaGreatWQd
import Derived.Test.YtbglklaocjifhaaGreatWQf
import Derived.Test.YtbglklaocjifhaaGreatWQi
import Derived.Test.YtbglklaocjifhaaGreatWSd
import Derived.Test.YtbglklaocjifhaaGreatWSg
import Derived.Test.YtbglklaocjifhaaGreatWSq
import Derived.Test.YtbglklaocjifhaaGreatWSv
import Derived.Test.YtbglklaocjifhaaGreatWSx
import Derived.Test.YtbglklaocjifhaaGreatWHe
import Derived.Test.YtbglklaocjifhaaGreatWHr
import Derived.Test.YtbglklaocjifhaaGreatWSr
import Derived.Test.YtbglklaocjifhaaGreatWHt
import Derived.Test.YtbglklaocjifhaaGreatWJa
import Derived.Test.YtbglklaocjifhaaGreatWJd
set_option linter.unusedSimpArgs false
set_option linter.unusedVariables false
set_option maxHeartbeats 0
namespace Go.Proofs.Tryz.Run
open Go Go.Vf Go.Proofs
open Go.Proofs.YtbglklaocjifhaaGreat
theorem j6n {ns no np:Nat}{sz od pc:Nat->Int}(i:Nat)(hi:i<ns)(hj:i<np)(hs:1<=sz i/\sz i<=1000000)(r:Bool)(hr:r=true↔ ¬(0<=pc i/\pc i<=sz i-1)):
 a1h Tryz.prog 199 [int i,.ptr 0 0,.ptr 1 0] [.var [isl ns sz,isl no od],.var [isl np pc]] (ro [.var [isl ns sz,isl no od],.var [isl np pc]] (bool r)):=by
 have h152:=h6p 0 (sz i-1) (pc i) (!r) (by cases r<;>simp at hr⊢ <;>omega)
 clear hr
 refine a2y Tryz.mixed okP e7n _ rfl fun E Sg hb hS=> ?_
 have e:=b2k hS
 cbv
 simp only[nat,e.toNat,Int.ofNat_eq_natCast,Int.toNat_natCast]
 refine a1g hS (a5p hS hi) (a1g hS (a9o hS (by omega)) (a1g hS (a5p hS hj) ?_))
 simp only[e.isub]
 refine a1g hS (c3d hS) (a1g hS (c3d hS) ?_)
 refine a0v hS _ h152 ?_
 cbv
 repeat refine a1g hS (c3d hS) ?_
 cases r<;>cbv<;>exact a2s (a0s rfl) (.same _) (.inr rfl)
theorem j5g {ns no np:Nat}{sz od pc:Nat->Int}(hns:ns<=1000000)(hs: ∀i,i<ns->1<=sz i/\sz i<=1000000)(hnp:np=ns)(r:Bool)(hr:r=true↔j4u ns sz np pc):
 a0j Tryz.prog true 161 [.agg [isl ns sz,isl no od],isl np pc] (bool r):=by
 have hc:=c0u hns (fun i=>(i:Int)) (.var [isl ns sz,isl no od]) (.var [isl np pc]) 199 (fun i=>decide (¬(0<=pc i/\pc i<=sz i-1)))
  (fun i hi=>j6n (no:=no) (od:=od) i hi (by omega) (hs i hi) _ decide_eq_true_iff) (!r) (by
    unfold j4u at hr
    cases r
    ·have hr: ¬(np=ns/\ ∀i,i<np->0<=pc i/\pc i<sz i):=fun h=>Bool.noConfusion (hr.2 h)
     simp only[Bool.not_false,decide_eq_true_eq,true_iff]
     exact Classical.byContradiction fun h=>hr ⟨hnp,fun i hi=>Classical.byContradiction fun h'=>h ⟨i,by omega,by omega⟩⟩
    ·have hr:=(hr.1 rfl).2
     simp only[Bool.not_true,decide_eq_true_eq,Bool.false_eq_true,false_iff]
     rintro⟨i,hi,h⟩
     have:=hr i (by omega)
     omega)
 subst hnp
 clear hr
 refine a1e (a0k Tryz.mixed okP f1c _ rfl fun E Sg hb hS=> ?_)
 have e:=b2k hS
 cbv
 have eq0:Sg.ieq (Sg.ofNat np) (Sg.ofNat np)=true:=by simp only[e.ieq];exact decide_eq_true rfl
 simp only[eq0]
 cbv
 refine a0v hS _ (by simp only[e.ofNat];exact h6o hns) ?_
 cbv
 refine a3v hS hc ?_
 cases r<;>cbv
 ·exact a0s rfl
 ·exact a0s rfl
theorem j6d (x:Int):a1h Tryz.prog 163 [int x] [] (fun pg v h'=>pg=[]/\h'=[]):=by
 refine h3w Tryz.mixed okP f1x rfl fun E Sg hb hS F hF=> ?_
 cbv
 exact⟨[],by simp,hF (.nil _) (a0x.refl _) (by simp) (.inr rfl) ⟨rfl,rfl⟩⟩
theorem j6k (d:DiR)(hf:d.fit)(h0: ∀i,i<d.ne->0<=(d.en i).fault)(hno:d.no<=12)(hd:h5o d=0)(pl:Nat->Int)(hp:i3i d pl)(v:VaR)(hv:d.en (-1-h5d d pl d.root).toNat=v):
 a0j Tryz.prog false 121 [d.av,isl d.ns pl] (.tuple [v.av,int 0]):=by
 obtain⟨w,hw,ho⟩:=i1u d hf h0 hno 0 hd
 obtain⟨⟨k1,k2,k3⟩,k4⟩:(h4e d.ns d.no d.sz d.od=0/\d.nn<=6000/\h3x d)/\h5e d:=⟨h4q (h6x hd).1,(h6x hd).2⟩
 obtain⟨f1,f2,f3,f4⟩:=h4s k1
 obtain rfl:=hw.resolve_right fun h=>h.1 k1
 have hpl:=j5g (no:=d.no) (od:=d.od) (np:=d.ns) (pc:=pl) (ns:=d.ns) (sz:=d.sz) hf.ns (fun i hi=>by have:=f2 i hi;omega) rfl true (by simp only[j4u,true_iff];exact⟨trivial,hp⟩)
 obtain⟨hro,hway⟩:=j5u 163 j6d d k3 hf pl hp
 obtain⟨W,hW⟩: ∃W,W= -1-h5d d pl d.root:=⟨_,rfl⟩
 rw[<-hW] at hv hway
 have hw0:0<=W/\W<d.ne:=by have:=hro.1;have:=hro.2;omega
 clear hw k1 k2 k3 k4 f1 f2 f3 f4 hp hW hd h0 hf
 obtain⟨ns,sz,no,od,ne,en,nn,var,nk,kid,root⟩:=d
 obtain⟨F,hF⟩: ∃F:Nat->Int,∀i,(en i).fault=F i:=⟨_,fun _=>rfl⟩
 obtain⟨M,hM⟩: ∃M:Nat->Int,∀i,(en i).n=M i:=⟨_,fun _=>rfl⟩
 have hven:vsl ne en= .d (.sl 2 ne fun i=>[.int .u8 (.v (F i)),.int .i64 (.v (M i))]):=by
  simp only[vsl];congr 2;exact funext fun i=>by rw[VaR.row,hF,hM]
 obtain⟨vf,vn⟩:=v
 have hvf:F W.toNat=vf:=by rw[<-hF];exact congrArg VaR.fault hv
 have hvn:M W.toNat=vn:=by rw[<-hM];exact congrArg VaR.n hv
 simp only[DiR.av,DiR.lav,hven] at ho hway⊢
 simp only at hw0 hpl
 clear hv hF hM hven
 refine a0k Tryz.mixed okP e7t _ rfl fun E Sg hb hS=> ?_
 have e:=b2k hS
 cbv
 refine a0v hS _ ho ?_
 cbv
 split
 ·rename_i h;exact absurd rfl (e8q hS h)
 cbv
 refine a0v hS _ hpl ?_
 cbv
 refine a0v hS _ hway ?_
 cbv
 simp only[nat,e.toNat,hvf,hvn]
 refine a1g hS (c3d hS) (a1g hS (i2b hS hw0) ?_)
 exact a3x.tuple (.cons (a0x.refl _) (.cons (a6c rfl) .nil))
theorem j5r {n:Nat}(hn:n<=1000000)(c:Nat->VaR)(v:VaR)(r:Int)(hr:(∀i,fnd c v n=some i->r=i)/\(fnd c v n=none->r= -1)):a0j Tryz.prog true 122 [vsl n c,v.av] (int r):=by
 obtain⟨vf,vn⟩:=v
 obtain⟨F,hF⟩: ∃F:Nat->Int,∀i,(c i).fault=F i:=⟨_,fun _=>rfl⟩
 obtain⟨M,hM⟩: ∃M:Nat->Int,∀i,(c i).n=M i:=⟨_,fun _=>rfl⟩
 have heq: ∀i,c i=⟨vf,vn⟩↔F i=vf/\M i=vn:=fun i=>by
  rw[<-hF,<-hM];cases c i;simp
 have hven:vsl n c= .d (.sl 2 n fun i=>[.int .u8 (.v (F i)),.int .i64 (.v (M i))]):=by
  simp only[vsl];congr 2;exact funext fun i=>by rw[VaR.row,hF,hM]
 rw[hven]
 refine a4e (a0k Tryz.mixed okP f1h _ rfl fun E Sg hb hS=> ?_)
 have e:=b2k hS
 cbv
 refine a7r Tryz.mixed okP hS (fun i=>i<=n/\ ∀j,j<i-> ¬(F j=vf/\M j=vn)) (fun i=>n-i)
  (fun i=>⟨b5r [(0,.d (.sl 2 n fun i=>[.int .u8 (.v (F i)),.int .i64 (.v (M i))])),(3,.ptr 0 0),(7,int n),(8,int i)] 19,[.var [u8 vf,int vn]],[]⟩) 0 ⟨by omega,by omega⟩ ?_ ?_
 ·exact a4c rfl ⟨a0x.refl _,a0x.refl _,b0a (e.ofNat _),a6c rfl,trivial⟩ (.same _) (by simp;omega) (.inr rfl) rfl
 rintro i ⟨hi,hz⟩ N hN
 cbv
 split
 ·rename_i h
  have hlt:i<n:=Int.ofNat_lt.1 (b3h hS h)
  cbv
  simp only[nat,e.toNat,Int.ofNat_eq_natCast,Int.toNat_natCast]
  refine a1g hS (a5p hS hlt) ?_
  simp only[e.band,e.ieq]
  split
  ·rename_i h
   have hE:vf=F i/\vn=M i:=by simpa using h
   cbv
   refine b0a ?_
   exact (hr.1 i (j4t hlt ((heq i).2 ⟨hE.1.symm,hE.2.symm⟩) fun j hj=>fun h=>hz j hj ((heq j).1 h))).symm
  ·rename_i h
   have hE: ¬(vf=F i/\vn=M i):=by simpa using h
   cbv
   refine a1g hS (e1n hS (by omega)) ?_
   refine hN (i+1) _ ⟨by omega,fun j hj=> ?_⟩ (by omega) (a4c rfl ⟨a0x.refl _,a0x.refl _,a0x.refl _,b2s hS,trivial⟩ (.same _) (by simp;omega) (.inr rfl) rfl)
   by_cases ej:j=i
   ·rw[ej];exact fun h=>hE ⟨h.1.symm,h.2.symm⟩
   ·exact hz j (by omega)
 ·rename_i h
  have hin:n<=i:=Int.ofNat_le.1 (b3r hS h)
  cbv
  refine a6c ?_
  exact (hr.2 (j4s fun j hj h=>hz j (by omega) ((heq j).1 h))).symm
def j4r (ns no:Nat)(sz od:Nat->Int):DiR:=⟨ns,sz,no,od,1,fun _=>⟨0,1⟩,0,fun _=>0,fun _=>0,fun _ _=>0,-1⟩
theorem j5p {ns no:Nat}{sz od:Nat->Int}(h:h4e ns no sz od=0):h5o (j4r ns no sz od)=0:=by
 have hl:h3x (j4r ns no sz od):=⟨fun i _=>by unfold a1i;simp[j4r],fun i hi=>absurd hi (Nat.not_lt_zero i),by simp[h5g,j4r]⟩
 have h1:h3z (j4r ns no sz od)=0:=by
  unfold h3z
  rw[if_neg (fun h'=>h' h),if_neg (by simp[j4r]),if_pos hl]
 unfold h5o
 rw[if_neg (fun h'=>h' h1),if_pos]
 refine⟨fun i hi k hk=> ?_,fun i hi=>absurd hi (Nat.not_lt_zero i),rfl⟩
 simp only[j4r] at hi
 omega
theorem j5d {ns no:Nat}{sz od:Nat->Int}(h1:ns<=1000000)(h2:no<=1000000):(j4r ns no sz od).fit:=
 ⟨h1,h2,by simp[j4r],by simp[j4r],fun i hi=>absurd hi (Nat.not_lt_zero i),fun i hi=>absurd hi (Nat.not_lt_zero i),by simp[j4r,c5t]⟩
theorem j5v {ns no:Nat}(sz od:Nat->Int)(d:DiR)(hd:d.ns<=1000000/\d.no<=1000000)(r:Bool)(hr:r=true↔L d.ns d.sz=L ns sz/\L d.no d.od=L no od):
 a0j Tryz.prog true 138 [.agg [isl ns sz,isl no od],d.av] (bool r):=by
 obtain⟨z,hz⟩: ∃z:Bool,z=true↔L d.ns d.sz=L ns sz:=by classical exact⟨decide _,decide_eq_true_iff⟩
 obtain⟨z2,hz2⟩: ∃z:Bool,z=true↔L d.no d.od=L no od:=by classical exact⟨decide _,decide_eq_true_iff⟩
 have h1:=h4z hd.1 d.sz sz z hz
 have h2:=h4z hd.2 d.od od z2 hz2
 rw[<-hz,<-hz2] at hr
 clear hz hz2 hd
 obtain⟨ns',sz',no',od',ne,en,nn,var,nk,kid,root⟩:=d
 refine a1e (a0k Tryz.mixed okP f1f _ rfl fun E Sg hb hS=> ?_)
 cbv
 refine a0v hS (bool z) (by subst hS;exact h1) ?_
 cases z
 ·cbv
  exact e8z hr fun h=>Bool.noConfusion h.1
 cbv
 refine a0v hS (bool z2) (by subst hS;exact h2) ?_
 cbv
 refine a0s ?_
 cases r<;>cases z2<;>simp at hr⊢
def j6e (ns no:Nat)(sz od:Nat->Int):List a0f:=[.var [.fn 138 [.agg [isl ns sz,isl no od]] []]]
theorem j6j {ns no:Nat}(sz od:Nat->Int)(d:DiR)(hd:d.ns<=1000000/\d.no<=1000000)(r:Bool)(hr:r=true↔ ¬(L d.ns d.sz=L ns sz/\L d.no d.od=L no od)):
 a1h Tryz.prog 176 [d.av,.ptr 0 0] (j6e ns no sz od) (ro (j6e ns no sz od) (bool r)):=by
 have h1:=j5v (ns:=ns) (no:=no) sz od d hd (!r) (by
  cases r
  ·exact⟨fun _=>Classical.byContradiction fun h=>Bool.noConfusion (hr.2 h),fun _=>rfl⟩
  ·exact⟨fun h=>Bool.noConfusion h,fun h=>absurd h (hr.1 rfl)⟩)
 clear hr hd
 obtain⟨ns',sz',no',od',ne,en,nn,var,nk,kid,root⟩:=d
 refine a2y Tryz.mixed okP e9d _ rfl fun E Sg hb hS=> ?_
 simp only[j6e,List.length_cons,List.length_nil] at hb
 cbv
 refine a3v hS (a1h.of_pure rfl h1) ?_
 cases r<;>cbv<;>exact a2s (a0s rfl) (.cons (.refl _) (.nil _)) (.inl ⟨rfl,rfl⟩)
theorem j5s {ns no:Nat}(sz od:Nat->Int){n:Nat}(hn:n<=1000000)(l:Nat->DiR)(hd: ∀i,i<n->(l i).ns<=1000000/\(l i).no<=1000000)(r:Bool)
 (hr:r=true↔ ∀i,i<n->L (l i).ns (l i).sz=L ns sz/\L (l i).no (l i).od=L no od):
 a1h Tryz.prog 137 [.fn 138 [.agg [isl ns sz,isl no od]] [],dsl n l] [] (ro [] (bool r)):=by
 obtain⟨p,hp⟩: ∃p:Nat->Bool,∀i,p i=true↔ ¬(L (l i).ns (l i).sz=L ns sz/\L (l i).no (l i).od=L no od):=by classical exact⟨fun i=>decide (¬_),fun i=>decide_eq_true_iff⟩
 have hin:=j4z hn l (j6e ns no sz od) 176 0 p (fun i hi=>j6j sz od (l i) (hd i hi) (p i) (hp i)) (!r) (d2b hp hr)
 clear hr hp hd
 refine a2y Tryz.mixed okP e8h _ rfl fun E Sg hb hS=> ?_
 simp only[List.length_nil] at hb
 cbv
 refine a3v hS hin ?_
 cases r<;>cbv<;>exact a2s (a0s rfl) (.nil _) (.inl ⟨rfl,rfl⟩)
theorem j5h (d:DiR)(hf:d.fit)(h0: ∀i,i<d.ne->0<=(d.en i).fault)(hno:d.no<=12)(hd:h5o d=0):a0j Tryz.prog true 99 [dsl 1 fun _=>d] (int 0):=by
 have h134:=i3l d hf h0 hno 0 hd
 have h137:=j5s (ns:=d.ns) (no:=d.no) d.sz d.od (n:=1) (by omega) (fun _=>d) (fun _ _=>⟨hf.ns,hf.no⟩) true (by simp)
 clear hd h0 hf
 obtain⟨ns,sz,no,od,ne,en,nn,var,nk,kid,root⟩:=d
 refine a4e (a0k Tryz.mixed okP h0e _ rfl fun E Sg hb hS=> ?_)
 have e:=b2k hS
 cbv
 refine a7r Tryz.mixed okP hS (fun i=>i<=1) (fun i=>1-i)
  (fun i=>⟨b5r [(0,dsl 1 fun _=>⟨ns,sz,no,od,ne,en,nn,var,nk,kid,root⟩),(6,dsl 1 fun _=>⟨ns,sz,no,od,ne,en,nn,var,nk,kid,root⟩),(7,int (1:Nat)),(8,int i)] 31,[],[]⟩) 0 (by omega) ?_ ?_
 ·exact a4c rfl ⟨a0x.refl _,a0x.refl _,b0a (e.ofNat _),a6c rfl,trivial⟩ (.same _) (by simp;omega) (.inr rfl) rfl
 rintro i hi N hN
 cbv
 split
 ·rename_i h
  have hlt:i<1:=Int.ofNat_lt.1 (b3h hS h)
  cbv
  simp only[nat,e.toNat,Int.ofNat_eq_natCast,Int.toNat_natCast]
  refine a1g hS (a5p hS hlt) ?_
  refine a0v hS _ h134 ?_
  cbv
  split
  ·rename_i h;exact absurd rfl (e8q hS h)
  cbv
  refine a1g hS (e1n hS (by omega)) ?_
  exact hN (i+1) _ hlt (by omega) (a4c rfl ⟨a0x.refl _,a0x.refl _,a0x.refl _,b2s hS,trivial⟩ (.nil _) (by simp;omega) (.inl ⟨rfl,rfl⟩) rfl)
 ·cbv
  refine a1g hS (a5p hS (by omega)) (a1g hS (a5p hS (by omega)) ?_)
  refine a3v hS h137 ?_
  cbv
  exact a6c rfl
theorem j5a {ns no:Nat}{sz od:Nat->Int}(h1:ns<=1000000)(h2:no<=1000000):a0j Tryz.prog false 157 [isl ns sz,isl no od,.agg [u8 0,int 1]] (j4r ns no sz od).av:=by
 refine a0k Tryz.mixed okP e9j _ rfl fun E Sg hb hS=> ?_
 have e:=b2k hS
 cbv
 refine h3v hS (a1h.frame (i3m h1 sz) [] rfl rfl trivial) ?_
 rintro pg v H' ⟨pg0,v0,h0,⟨rfl,rfl,rfl⟩,rfl,rfl,rfl⟩
 cbv
 refine a1g hS (c3d hS) ?_
 refine h3v hS (a1h.frame (i3m h2 od) [] rfl rfl trivial) ?_
 rintro pg v H' ⟨pg0,v0,h0,⟨rfl,rfl,rfl⟩,rfl,rfl,rfl⟩
 cbv
 repeat refine a1g hS (c3d hS) ?_
 refine a1g hS (e8l hS (Nat.le_refl _)) (a1g hS (e8l hS (Nat.le_refl _)) ?_)
 exact a3x.agg (.cons (a0x.refl _) (.cons (a0x.refl _) (.cons (a0x.sl' rfl fun i hi=>by obtain rfl:i=0:=Nat.lt_one_iff.1 hi;rfl) (.cons a0x.nil0 (.cons (a6c rfl) .nil)))))
theorem j5x:a0j Tryz.prog false 142 [] (.agg [u8 0,int 1]):=by
 refine a0k Tryz.mixed okP e8d _ rfl fun E Sg hb hS=> ?_
 cbv
 exact a3x.agg (.cons (a6c rfl) (.cons (a6c rfl) .nil))
theorem j5j:a0j Tryz.prog false 133 [.d .nil] (.d .nil):=by
 refine a0k Tryz.mixed okP f1a _ rfl fun E Sg hb hS=> ?_
 cbv
 exact a0x.refl _
def j6x (e:Nat->List DV)(pg:List Nat)(v:AV)(h':List a0f):Prop:=pg=[]/\v= .msl 0 5 none 1 false/\h'=[.arr 5 1 e]
theorem j5k (d:Nat->List DV):a1h Tryz.prog 158 [.d .nil,int 0,.d (.sl 5 1 d)] [] (j6x d):=by
 refine h3w Tryz.mixed okP f0r rfl fun E Sg hb hS F hF=> ?_
 simp only[List.length_nil] at hb
 have e:=b2k hS
 cbv
 refine a1g hS trivial (a1g hS trivial ?_)
 have a1:Sg.ieq (Sg.ofNat 1) (Int.ofNat 0)=false:=by simp only[e.ieq,e.ofNat];rfl
 simp only[a1]
 cbv
 have a2:Sg.ieq 0 0=true:=by simp only[e.ieq];rfl
 simp only[a2]
 cbv
 refine a1g hS (e8l hS (by omega)) ?_
 exact⟨[],by simp,hF (h1:=[.arr 5 1 d]) (.cons (.refl _) (.nil _)) (a0x.refl _) (by simp) (.inr rfl) ⟨rfl,rfl,rfl⟩⟩
theorem j5o {ns no:Nat}{sz od:Nat->Int}(h1:ns<=1000000)(h2:no<=8)(hfr:h4e ns no sz od=0)(h119:a0j Tryz.prog true 119 [isl ns sz,isl no od] (int 0)):
 a0j Tryz.prog false 120 [isl ns sz,isl no od,.d .nil] (.tuple [(j4r ns no sz od).av,int 0]):=by
 have h157:=j5a (sz:=sz) (od:=od) h1 (show no<=1000000 by omega)
 have h99:=j5h (j4r ns no sz od) (j5d h1 (by omega)) (fun i _=>by simp[j4r]) (by simp only[j4r];omega) (j5p hfr)
 have hD:(j4r ns no sz od).av= .agg [isl ns sz,isl no od,vsl 1 fun _=>⟨0,1⟩,bsl 0 (fun _=>0) (fun _=>0) (fun _ _=>0),int (-1)]:=rfl
 rw[hD] at h157⊢
 refine a0k Tryz.mixed okP f0h _ rfl fun E Sg hb hS=> ?_
 have e:=b2k hS
 cbv
 refine a0v hS _ h119 ?_
 cbv
 split
 ·rename_i h;exact absurd rfl (e8q hS h)
 cbv
 refine a0v hS _ j5x ?_
 cbv
 refine a0v hS _ h157 ?_
 cbv
 refine a3v hS (a1h.of_pure rfl j5j) ?_
 cbv
 repeat refine a1g hS (c3d hS) ?_
 refine h3v hS (a1h.frame (j5k _) [] rfl rfl trivial) ?_
 rintro pg v H' ⟨pg0,v0,h0,⟨rfl,rfl,rfl⟩,rfl,rfl,rfl⟩
 cbv
 refine a1g hS (e8l hS (Nat.le_refl _)) ?_
 refine a0v hS _ (h99.like (.cons ?_ .nil)) ?_
 ·exact a0x.sl' rfl fun i hi=>by obtain rfl:i=0:=Nat.lt_one_iff.1 hi;rfl
 cbv
 split
 ·rename_i h;exact absurd rfl (e8q hS h)
 cbv
 refine a7r Tryz.mixed okP hS (fun m=>m=0) (fun _=>0)
  (fun m=>⟨b5r [(6,.ptr 0 0),(9,.ptr 1 0),(35,int (0:Nat)),(36,int m)] 47,[.var [.any,.any,.any,.any,.any],.var [isl ns sz,isl no od,vsl 1 fun _=>⟨0,1⟩,bsl 0 (fun _=>0) (fun _=>0) (fun _ _=>0),int (-1)]],[]⟩) 0 rfl ?_ ?_
 ·exact a4c rfl ⟨a0x.refl _,a0x.refl _,a6c rfl,a6c rfl,trivial⟩ (.cons (.var (.cons (.any _) (.cons (.any _) (.cons (.any _) (.cons (.any _) (.cons (.any _) .nil)))))) (.cons (.refl _) (.nil _))) (by simp;omega) (.inl ⟨rfl,rfl⟩) rfl
 rintro m rfl N hN
 cbv
 split
 ·rename_i h;exact absurd (b3h hS h) (by decide)
 cbv
 exact a3x.tuple (.cons (a0x.refl _) (.cons (a6c rfl) .nil))
end Go.Proofs.Tryz.Run
