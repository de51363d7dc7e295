/- A family in another order: the program's. Numbers within bounds, orders of frames. The program's Change of a family. A number of a list taken out, and put in. The reference's Moved. A family is equal to itself. Conditions: none. -/
import Derived.Test.YtpcokdalcafgdaaGreatBLq
import Derived.Test.YtpcokdalcafgdaaGreatBNa
import Derived.Test.YtpcokdalcafgdaaGreatBNc
import Derived.Test.YtpcokdalcafgdaaGreatBLh
import Derived.Test.YtpcokdalcafgdaaGreatBNb
import Derived.Test.YtpcokdalcafgdaaGreatBOh
import Derived.Test.YtpcokdalcafgdaaGreatBPm0
import Derived.Test.YtpcokdalcafgdaaGreatBQd
import Derived.Test.YtpcokdalcafgdaaGreatBQf
import Derived.Test.YtpcokdalcafgdaaGreatBQh
import Derived.Test.YtpcokdalcafgdaaGreatBQi
import Derived.Test.YtpcokdalcafgdaaGreatBSd
import Derived.Test.YtpcokdalcafgdaaGreatBSy
import Derived.Test.YtpcokdalcafgdaaGreatBUf
import Derived.Test.YtpcokdalcafgdaaGreatBUi
import Derived.Test.YtpcokdalcafgdaaGreatBXf
import Derived.Test.YtpcokdalcafgdaaGreatBXi
import Derived.Test.YtpcokdalcafgdaaGreatBXk
import Derived.Test.YtpcokdalcafgdaaGreatBXn
set_option linter.unusedSimpArgs false
set_option linter.unusedVariables false
set_option maxHeartbeats 0
set_option maxRecDepth 100000
namespace Go.Proofs.Tryz.Run
open Go Go.Vf Go.Proofs
open Go.Proofs.YtpcokdalcafgdaaGreat
def e1j (n:Nat)(l:Nat->DiR)(no:Nat)(od:Nat->Int)(T:Nat->Nat)(e:Nat->Nat->List DV):AV:=
 .agg [isl (l 0).ns (l 0).sz,isl no od,dsl n (chg l no od),b9l T e n]
section
variable {n:Nat} {l:Nat->DiR}
theorem in64 (h:a0x n l){no:Nat}{od:Nat->Int}(hfr:a2e (l 0).ns no (l 0).sz od=0)(T:Nat->Nat)(hT: ∀i,i<n->(T i:Int)=prod (l i).sz (l i).ns)(e:Nat->Nat->List DV)(he: ∀i j,e i j=((l i).cell j).row):
 a0j Tryz.prog false 64 [c0p n l T e n,isl no od] (e1j n l no od T e):=by
 have h95: ∀i,i<n->a0j Tryz.prog false 95 [isl (l 0).ns (l 0).sz,isl no od,.d (.sl 2 (T i) (e i))] (.tuple [(chg l no od i).av,int 0]):=fun i hi=>by
  have:=h.of95 hfr (i:=i) hi
  rw[<-hT i hi,Int.toNat_natCast] at this
  rw[show e i=fun j=>((l i).cell j).row from funext (he i)]
  exact this
 obtain⟨m,rfl⟩: ∃m,n=m+1:=⟨n-1,by have:=h.pos;omega⟩
 obtain⟨C,hC⟩: ∃C,chg l no od=C:=⟨_,rfl⟩
 unfold e1j
 simp only[hC] at h95⊢
 have hn8:=h.pos
 clear hfr h hC hT he
 obtain⟨w,hw⟩: ∃w,w=m+1:=⟨_,rfl⟩
 show a0j Tryz.prog false 64 [.agg [isl (l 0).ns (l 0).sz,isl (l 0).no (l 0).od,dsl (m+1) l,.d (.sl 1 (m+1) fun i=>[.sl 2 (T i) (e i)])],isl no od] (.agg [isl (l 0).ns (l 0).sz,isl no od,dsl (m+1) C,.d (.sl 1 (m+1) fun i=>[.sl 2 (T i) (e i)])])
 rw[<-hw] at h95 hn8⊢
 clear hw
 refine a0d Tryz.mixed okP g2b _ rfl fun E Sg hb hS=> ?_
 have ee:=a5x hS
 cbv
 refine b2v Tryz.mixed okP hS (fun i=>i<=w) (fun i=>w-i)
  (fun i=>⟨a2l [(1,isl no od),(2,.ptr 0 0),(4,.ptr 1 0),(5,.ptr 2 0),(19,.d (.sl 1 w fun i=>[.sl 2 (T i) (e i)])),(20,int w),(21,int i)] 42,
    [.var [isl (l 0).ns (l 0).sz,.any,.any,.any],.var [.d .nil,.d .nil,.d .nil,.d .nil],.var [isl (l 0).ns (l 0).sz,isl no od,.msl 3 5 none i false,.d (.sl 1 w fun i=>[.sl 2 (T i) (e i)])],.arr 5 i fun i=>(C i).row],[3]⟩) 0 (by omega) ?_ ?_
 ·exact (a6f.gh 2 2 5 (fun _=>[]) rfl rfl).trans (a6f.le (a0m rfl ⟨a0b.refl _,a0b.refl _,a0b.refl _,a0b.refl _,a0b.refl _,a1f ((a5x hS).ofNat _),a1m rfl,trivial⟩
   (.cons (a0f.var (.cons (a0b.refl _) (.cons (.any _) (.cons (.any _) (.cons (.any _) .nil))))) (.cons (a0f.refl _) (.cons (a0f.refl _) (.cons (a0f.arrr rfl fun j hj=>by omega) (.nil _))))) (by simp;omega) (.inr rfl) rfl))
 ·intro i hi N hN
  cbv
  split
  ·rename_i h
   have hlt:i<w:=Int.ofNat_lt.1 (b8j hS h)
   cbv
   simp only[nat,ee.toNat,Int.ofNat_eq_natCast,Int.toNat_natCast]
   refine a0a hS (a1d hS hlt) ?_
   refine a0e hS _ (h95 i hlt) ?_
   cbv
   refine a0a hS trivial (a0a hS (b6u hS (by omega)) (a0a hS (a4t hS (by omega)) ?_))
   exact hN (i+1) _ hlt (by omega) (a6f.le (a0m rfl ⟨a0b.refl _,a0b.refl _,a0b.refl _,a0b.refl _,a0b.refl _,a0b.refl _,a5c hS,trivial⟩
    (.cons (a0f.var (.cons (a0b.refl _) (.cons (.any _) (.cons (.any _) (.cons (.any _) .nil))))) (.cons (a0f.refl _) (.cons (a0f.var (.cons (a0b.refl _) (.cons (a0b.refl _) (.cons (a6e hS) (.cons (a0b.refl _) .nil))))) (.cons (a7j hS (fun j hj=> .refl _) (.refl _)) (.nil _))))) (by simp;omega) (.inl ⟨rfl,rfl⟩) rfl))
  ·rename_i h
   have hin:i=w:=by have:=Int.ofNat_le.1 (b7c hS h);omega
   subst hin
   cbv
   exact a0a hS (b0h hS (Nat.le_refl _)) fun _ _ _ _ h=>h
end
section
variable {n:Nat} {e0:Nat->List DV} {v:AV} {r:Int}
end
section
variable {n:Nat} {l:Nat->DiR}
theorem a0x.no (h:a0x n l): ∀i,i<n->(l i).no<=12:=fun i hi=>by have:=a1k (h.di i hi).fr;have:=this.2.2.2.1;omega
theorem a0x.open54 (h:a0x n l):a0j Tryz.prog false 54 [dsl n l] (.tuple [c0p n l (fun i=>(prod (l i).sz (l i).ns).toNat) (fun i j=>((l i).cell j).row) n,int 0]):=by
 obtain⟨v,hv,hv0,hp⟩:=c8i h.pos.2 h.fit h.flt h.no 0 h.err
 obtain rfl:=hv0 rfl
 exact hp
theorem a0x.in64 (h:a0x n l){no:Nat}{od:Nat->Int}(hfr:a2e (l 0).ns no (l 0).sz od=0):
 a0j Tryz.prog false 64 [c0p n l (fun i=>(prod (l i).sz (l i).ns).toNat) (fun i j=>((l i).cell j).row) n,isl no od] (e1j n l no od (fun i=>(prod (l i).sz (l i).ns).toNat) fun i j=>((l i).cell j).row):=
 Run.in64 h hfr _ (fun i hi=>(h.di i hi).T) _ fun _ _=>rfl
end
theorem e2f {n:Nat}(hn:n<=1000000)(f:Nat->VaR):a0j Tryz.prog true 82 [vsl n f,vsl n f] (bool true):=by
 obtain⟨ef,en,hf⟩: ∃ef en,f=fun i=>VaR.mk (ef i) (en i):=⟨fun i=>(f i).fault,fun i=>(f i).n,rfl⟩
 subst hf
 refine a0s (a0d Tryz.mixed okP g1o _ rfl fun E Sg hb hS=> ?_)
 have e:=a5x hS
 cbv
 split
 ·rename_i h;exact absurd rfl (f2x hS h)
 cbv
 refine a0y Tryz.mixed okP hS (fun i=>i<=n) (fun i=>n-i)
  (fun i=>⟨a2l [(0,vsl n (fun i=>⟨ef i,en i⟩)),(1,vsl n (fun i=>⟨ef i,en i⟩)),(5,int i)] 26,[],[]⟩) 0 (by omega) ?_ ?_
 ·exact a0m rfl ⟨a0b.refl _,a0b.refl _,a1m rfl,trivial⟩ (.nil _) (by omega) (.inr rfl) rfl
 ·intro i hi N hN
  cbv
  split
  ·rename_i h
   have hlt:i<n:=c3a hS h
   cbv
   refine a0a hS (a1d hS hlt) (a0a hS (a1d hS hlt) ?_)
   simp only[nat,e.toNat,Int.ofNat_eq_natCast,Int.toNat_natCast]
   split
   ·rename_i h;exfalso;clear hN;subst hS;simp[std] at h
   cbv
   refine a0a hS (a4t hS (by omega)) ?_
   exact hN (i+1) _ hlt (by omega) (a0m rfl ⟨a0b.refl _,a0b.refl _,a5c hS,trivial⟩ (.nil _) (by omega) (.inr rfl) rfl)
  ·cbv
   exact a0v rfl
theorem h0v {P:Program}{A:Ann}{ro:Option Nat}{E:Ent}{Sg:Sig}(hS:Sg=std P A ro E)(a:Int):Sg.bnot (Sg.ieq a a)=false:=by subst hS;simp[std]
theorem h0n (a:DiR)(ha:a.ns<=1000000/\a.no<=1000000/\a.ne<=1000000/\a.nn<=1000000)(hk: ∀i,i<a.nn->a.nk i<=1000000):a0j Tryz.prog true 47 [a.av,a.av] (bool true):=by
 have h1:=c4k a.ns a.ns a.sz a.sz ha.1 true (by simp)
 have h2:=c4k a.no a.no a.od a.od ha.2.1 true (by simp)
 have h3:=e2f ha.2.2.1 a.en
 have h4:=fun i hi=>c4k (a.nk i) (a.nk i) (a.kid i) (a.kid i) (hk i hi) true (by simp)
 have hnn:=ha.2.2.2
 obtain⟨ns,sz,no,od,ne,en,nn,var,nk,kid,root⟩:=a
 obtain⟨ef,em,hf⟩: ∃ef em,en=fun i=>VaR.mk (ef i) (em i):=⟨fun i=>(en i).fault,fun i=>(en i).n,rfl⟩
 subst hf
 simp only at h1 h2 h3 h4 hnn⊢
 clear ha hk
 refine a0s (a0d Tryz.mixed okP g5u _ rfl fun E Sg hb hS=> ?_)
 have e:=a5x hS
 cbv
 refine a0e hS _ h1 ?_
 cbv
 refine a0e hS _ h2 ?_
 cbv
 refine a0e hS _ h3 ?_
 cbv
 simp only[h0v hS]
 cbv
 simp only[h0v hS]
 cbv
 refine a0y Tryz.mixed okP hS (fun i=>i<=nn) (fun i=>nn-i)
  (fun i=>⟨a2l [(2,.ptr 0 0),(3,.ptr 1 0),(5,int i)] 80,[.var [.any,.any,.any,bsl nn var nk kid,.any],.var [.any,.any,.any,bsl nn var nk kid,.any]],[]⟩) 0 (by omega) ?_ ?_
 ·exact a0m rfl ⟨a0b.refl _,a0b.refl _,a1m rfl,trivial⟩ (.cons (a0f.var (.cons (.any _) (.cons (.any _) (.cons (.any _) (.cons (a0b.refl _) (.cons (.any _) .nil)))))) (.cons (a0f.var (.cons (.any _) (.cons (.any _) (.cons (.any _) (.cons (a0b.refl _) (.cons (.any _) .nil)))))) (.nil _))) (by simp;omega) (.inr rfl) rfl
 ·intro i hi N hN
  cbv
  split
  ·rename_i h
   have hlt:i<nn:=c3a hS h
   cbv
   refine a0a hS (a1d hS hlt) (a0a hS (a1d hS hlt) ?_)
   simp only[nat,e.toNat,Int.ofNat_eq_natCast,Int.toNat_natCast,h0v hS]
   cbv
   refine a0a hS (a1d hS hlt) (a0a hS (a1d hS hlt) ?_)
   simp only[nat,e.toNat,Int.ofNat_eq_natCast,Int.toNat_natCast]
   refine a0e hS _ (h4 i hlt) ?_
   cbv
   refine a0a hS (a4t hS (by omega)) ?_
   exact hN (i+1) _ hlt (by omega) (a0m rfl ⟨a0b.refl _,a0b.refl _,a5c hS,trivial⟩ (.cons (.refl _) (.cons (.refl _) (.nil _))) (by simp;omega) (.inr rfl) rfl)
  ·cbv
   exact a0v rfl
theorem h0p {n:Nat}(hn:n<=1000000)(l:Nat->DiR)(ha: ∀i,i<n->((l i).ns<=1000000/\(l i).no<=1000000/\(l i).ne<=1000000/\(l i).nn<=1000000)/\ ∀j,j<(l i).nn->(l i).nk j<=1000000):a0j Tryz.prog true 27 [dsl n l,dsl n l] (bool true):=by
 have h1:=fun i hi=>h0n (l i) (ha i hi).1 (ha i hi).2
 clear ha
 refine a0s (a0d Tryz.mixed okP g4t _ rfl fun E Sg hb hS=> ?_)
 have e:=a5x hS
 cbv
 split
 ·rename_i h;exact absurd rfl (f2x hS h)
 cbv
 refine a0y Tryz.mixed okP hS (fun i=>i<=n) (fun i=>n-i)
  (fun i=>⟨a2l [(0,dsl n l),(1,dsl n l),(5,int i)] 27,[],[]⟩) 0 (by omega) ?_ ?_
 ·exact a0m rfl ⟨a0b.refl _,a0b.refl _,a1m rfl,trivial⟩ (.nil _) (by omega) (.inr rfl) rfl
 ·intro i hi N hN
  cbv
  split
  ·rename_i h
   have hlt:i<n:=c3a hS h
   cbv
   refine a0a hS (a1d hS hlt) (a0a hS (a1d hS hlt) ?_)
   simp only[nat,e.toNat,Int.ofNat_eq_natCast,Int.toNat_natCast]
   refine a0e hS _ (h1 i hlt) ?_
   cbv
   refine a0a hS (a4t hS (by omega)) ?_
   exact hN (i+1) _ hlt (by omega) (a0m rfl ⟨a0b.refl _,a0b.refl _,a5c hS,trivial⟩ (.nil _) (by omega) (.inr rfl) rfl)
  ·cbv
   exact a0v rfl
end Go.Proofs.Tryz.Run
