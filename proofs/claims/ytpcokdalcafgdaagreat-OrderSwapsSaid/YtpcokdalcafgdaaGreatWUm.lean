/- OrderCosts answers true. Reading of families; OrderCosts: for every family the statement answers true, and the argument reads as it did. An argument that is a number of few bits. Conditions: none. -/
import Derived.Test.YtpcokdalcafgdaaGreatWLq
import Derived.Test.YtpcokdalcafgdaaGreatWNa
import Derived.Test.YtpcokdalcafgdaaGreatWNc
import Derived.Test.YtpcokdalcafgdaaGreatWLh
import Derived.Test.YtpcokdalcafgdaaGreatWNb
import Derived.Test.YtpcokdalcafgdaaGreatWOh
import Derived.Test.YtpcokdalcafgdaaGreatWPm0
import Derived.Test.YtpcokdalcafgdaaGreatWQd
import Derived.Test.YtpcokdalcafgdaaGreatWQf
import Derived.Test.YtpcokdalcafgdaaGreatWQh
import Derived.Test.YtpcokdalcafgdaaGreatWQi
import Derived.Test.YtpcokdalcafgdaaGreatWUi
import Derived.Test.YtpcokdalcafgdaaGreatRows
import Derived.Carry
import Derived.OpenShut
set_option linter.unusedSimpArgs false
set_option linter.unusedVariables false
namespace Go.Proofs.Tryz.Run
open Go Go.Vf Go.Proofs
open Go.Proofs.YtpcokdalcafgdaaGreat
theorem d6o (n:Nat)(l:Nat->DiR): ∃r,a6p n l r:=by
 rcases Nat.eq_zero_or_pos n with h|h
 ·exact⟨7,.inl ⟨h,rfl⟩⟩
 ·obtain⟨r,hr⟩:=e0y n (fun i=>a7c (l i)) (fun i=>b0l (l 0) (l i))
  exact⟨r,.inr ⟨h,hr⟩⟩
end Go.Proofs.Tryz.Run
namespace Go.Proofs.YtpcokdalcafgdaaGreat
open Go.ChangeShapes Go.WideShapes Go.ChangeAt Go.RowKit Go.Vf Go.Proofs.Tryz.Run
theorem u22:Tryz.prog.underlying 22=some (.slice 44):=by kernel_rfl
theorem u41:Tryz.prog.underlying 41=some (.slice 77):=by kernel_rfl
theorem u42:Tryz.prog.underlying 42=some (.slice 100):=by kernel_rfl
theorem f44:fieldsOf 44=some [(29,0),(29,1),(41,2),(42,3),(3,4)]:=by kernel_rfl
theorem f77:fieldsOf 77=some [(5,0),(3,1)]:=by kernel_rfl
theorem g6v:fieldsOf 100=some [(3,0),(29,1)]:=by kernel_rfl
theorem k44:Tryz.prog.cellsOf 44=5:=by kernel_rfl
theorem k77:Tryz.prog.cellsOf 77=2:=by kernel_rfl
theorem g4d:Tryz.prog.cellsOf 100=2:=by kernel_rfl
theorem k41:Tryz.prog.cellsOf 41=1:=by kernel_rfl
theorem k42:Tryz.prog.cellsOf 42=1:=by kernel_rfl
instance:Inhabited VaR:=⟨⟨0,0⟩⟩
instance:Inhabited DiR:=⟨⟨0,fun _=>0,0,fun _=>0,0,fun _=>default,0,fun _=>0,fun _=>0,fun _ _=>0,0⟩⟩
theorem f0s {α:Type}{l:List α}(h:l.length=2): ∃a b,l=[a,b]:=by
 match l,h with
 |[a,b],_=>exact⟨a,b,rfl⟩
section
variable {H:Type} {enc:TypeId×Value->H} {w:World} {spare:Nat->Bool} {held:Bool}
theorem b2u {fuel:Nat}{cs:List Value}{x:DataW H×List MemPlace}(h:DataW.trod enc Tryz.prog w 0 spare held fuel 29 cs=some x):
 ∃(v:Value) (n:Nat) (g:Nat->Int),cs=[v]/\DVR w (d2f w) (.sl 1 n fun i=>[.int .i64 (.v (g i))]) v/\ ∀i,i<n->a4s (g i):=by
 obtain⟨v,n,f,h1,h2,h3⟩:=a9a u29 h (α:=Int) (fun z=>[.int .i64 (.v z)]) a4s k3 (by omega) fun n cs y hl hy=>by
  obtain⟨z,hz,rfl⟩:=a8v u3 hy
  exact⟨z,hz,c0w (.int _ _)⟩
 exact⟨v,n,f,h1,h2,h3⟩
theorem d6b {fuel:Nat}{cs:List Value}{x:DataW H×List MemPlace}(h:DataW.trod enc Tryz.prog w 0 spare held fuel 41 cs=some x):
 ∃(v:Value) (n:Nat) (f:Nat->VaR),cs=[v]/\DVR w (d2f w) (.sl 2 n fun i=>(f i).row) v/\ ∀i,i<n->0<=(f i).fault:=by
 obtain⟨v,n,f,h1,h2,h3⟩:=a9a u41 h (α:=VaR) VaR.row (fun v=>0<=v.fault) k77 (by omega) fun n cs y hl hy=>by
  obtain⟨_,hf⟩:=a9s f77 hy
  obtain⟨c0,c1,rfl⟩:=f0s hl
  obtain⟨_,_,q0⟩:=hf 0 5 0 rfl
  obtain⟨_,_,q1⟩:=hf 1 3 1 rfl
  rw[k5] at q0
  rw[k3] at q1
  simp at q0 q1
  obtain⟨z0,hz,e0⟩:=a8v u5 q0
  obtain⟨z1,_,e1⟩:=a8v u3 q1
  simp at e0 e1
  subst e0 e1
  exact⟨⟨z0,z1⟩,hz.1,a8s (.int _ _) (c0w (.int _ _))⟩
 exact⟨v,n,f,h1,h2,h3⟩
theorem c0a {fuel:Nat}{cs:List Value}{x:DataW H×List MemPlace}(h:DataW.trod enc Tryz.prog w 0 spare held fuel 42 cs=some x):
 ∃(v:Value) (n:Nat) (var:Nat->Int) (nk:Nat->Nat) (kid:Nat->Nat->Int),cs=[v]/\DVR w (d2f w) (.sl 2 n fun i=>[.int .i64 (.v (var i)),.sl 1 (nk i) fun j=>[.int .i64 (.v (kid i j))]]) v/\ ∀i,i<n-> ∀j,j<nk i->a4s (kid i j):=by
 obtain⟨v,n,f,h1,h2,h3⟩:=a9a u42 h (α:=Int×Nat×(Nat->Int)) (fun b=>[.int .i64 (.v b.1),.sl 1 b.2.1 fun j=>[.int .i64 (.v (b.2.2 j))]]) (fun b=> ∀j,j<b.2.1->a4s (b.2.2 j)) g4d (by omega) fun n cs y hl hy=>by
  obtain⟨_,hf⟩:=a9s g6v hy
  obtain⟨c0,c1,rfl⟩:=f0s hl
  obtain⟨_,_,q0⟩:=hf 0 3 0 rfl
  obtain⟨_,_,q1⟩:=hf 1 29 1 rfl
  rw[k3] at q0
  rw[k29] at q1
  simp at q0 q1
  obtain⟨z0,_,e0⟩:=a8v u3 q0
  obtain⟨v1,n1,g1,e1,r1,b1⟩:=b2u q1
  simp at e0 e1
  subst e0 e1
  exact⟨⟨z0,n1,g1⟩,b1,a8s (.int _ _) (c0w r1)⟩
 exact⟨v,n,fun i=>(f i).1,fun i=>(f i).2.1,fun i=>(f i).2.2,h1,h2,h3⟩
theorem d1l {v:Value}(hs: ∃a len cap,v= .slice a len cap){d:DataW H}{ps:List MemPlace}(h:DataW.Trod enc Tryz.prog w 0 spare held 22 v d ps):
 ∃(n:Nat) (l:Nat->DiR),VR w (d2f w) a3h (dsl n l) v/\ ∀i,i<n->(l i).wf:=by
 obtain⟨fuel,h⟩:=h
 obtain⟨v',n,f,h1,h2,h3⟩:=a9a u22 h (α:=DiR) DiR.row DiR.wf k44 (by omega) fun n cs y hl hy=>by
  obtain⟨_,hf⟩:=a9s f44 hy
  obtain⟨c0,c1,c2,c3,c4,rfl⟩:=f6c hl
  obtain⟨_,_,q0⟩:=hf 0 29 0 rfl
  obtain⟨_,_,q1⟩:=hf 1 29 1 rfl
  obtain⟨_,_,q2⟩:=hf 2 41 2 rfl
  obtain⟨_,_,q3⟩:=hf 3 42 3 rfl
  obtain⟨_,_,q4⟩:=hf 4 3 4 rfl
  rw[k29] at q0 q1
  rw[k41] at q2
  rw[k42] at q3
  rw[k3] at q4
  simp at q0 q1 q2 q3 q4
  obtain⟨v0,ns,sz,e0,r0,_⟩:=b2u q0
  obtain⟨v1,no,od,e1,r1,_⟩:=b2u q1
  obtain⟨v2,ne,en,e2,r2,b2⟩:=d6b q2
  obtain⟨v3,nn,var,nk,kid,e3,r3,b3⟩:=c0a q3
  obtain⟨root,b4,e4⟩:=a8v u3 q4
  simp at e0 e1 e2 e3 e4
  subst e0 e1 e2 e3 e4
  exact⟨⟨ns,sz,no,od,ne,en,nn,var,nk,kid,root⟩,⟨b3,b4,b2⟩,a8s r0 (a8s r1 (a8s r2 (a8s r3 (c0w (.int _ _)))))⟩
 obtain⟨a,len,cap,rfl⟩:=hs
 simp[Value.cells] at h1
 subst h1
 exact⟨n,f,.d h2,h3⟩
end
section
variable {H:Type} {enc:TypeId×Value->H} {w:World} {spare:Nat->Bool} {held:Bool}
theorem e2j {t:TypeId}{k:IntKind}(ht:Tryz.prog.underlying t=some (.int k)){v:Value}(hs: ∃n,v= .int k n){d:DataW H}{ps:List MemPlace}(h:DataW.Trod enc Tryz.prog w 0 spare held t v d ps):
 ∃z:Int,(k.min<=z/\z<=k.max)/\VR w (d2f w) a3h (.d (.int k (.v z))) v:=by
 obtain⟨fuel,h⟩:=h
 obtain⟨z,h1,h2⟩:=a8v ht h
 obtain⟨n,rfl⟩:=hs
 simp[Value.cells] at h2
 subst h2
 exact⟨_,h1,.d (.int _ _)⟩
end
end Go.Proofs.YtpcokdalcafgdaaGreat
