/- Reading of cases: what reads as a case is one of the executor's. Reading of plans: what reads as a plan is a plan of the executor's; lengths within the reach. Conditions: none. -/
import Derived.Test.YtbglklaocjifhaaGreatWLr
import Derived.Test.YtbglklaocjifhaaGreatWNb
import Derived.Test.YtbglklaocjifhaaGreatWOa
import Derived.Test.YtbglklaocjifhaaGreatWQd
import Derived.Test.YtbglklaocjifhaaGreatWQf
import Derived.Test.YtbglklaocjifhaaGreatWQi
import Derived.Test.YtbglklaocjifhaaGreatWHe
import Derived.Test.YtbglklaocjifhaaGreatWHr
import Derived.Test.YtbglklaocjifhaaGreatWHt
import Derived.Test.YtbglklaocjifhaaGreatWJh
set_option linter.unusedSimpArgs false
set_option linter.unusedVariables false
namespace Go.Proofs.YtbglklaocjifhaaGreat
namespace Cs
open Go.ChangeShapes Go.WideShapes Go.ChangeAt Go.RowKit Go.Vf Go.Proofs.Tryz.Run
noncomputable def fieldsOf (t:TypeId):Option (List (TypeId×Nat)):=
 match Tryz.prog.underlying t with
 |some (.struct fs)=>some (fs.toList.map fun f=>(f.type,f.offset))
 |_=>none
theorem u22:Tryz.prog.underlying 22=some (.slice 3):=by kernel_rfl
theorem u23:Tryz.prog.underlying 23=some (.slice 27):=by kernel_rfl
theorem u24:Tryz.prog.underlying 24=some (.slice 77):=by kernel_rfl
theorem u25:Tryz.prog.underlying 25=some (.slice 131):=by kernel_rfl
theorem u3:Tryz.prog.underlying 3=some (.int .i64):=by kernel_rfl
theorem u5:Tryz.prog.underlying 5=some (.int .u8):=by kernel_rfl
theorem f29:fieldsOf 29=some [(22,0),(22,1),(23,2),(27,3),(27,8)]:=by kernel_rfl
theorem f27:fieldsOf 27=some [(22,0),(22,1),(24,2),(25,3),(3,4)]:=by kernel_rfl
theorem f77:fieldsOf 77=some [(5,0),(3,1)]:=by kernel_rfl
theorem i8r:fieldsOf 131=some [(3,0),(22,1)]:=by kernel_rfl
theorem k29:Tryz.prog.cellsOf 29=13:=by kernel_rfl
theorem k27:Tryz.prog.cellsOf 27=5:=by kernel_rfl
theorem k77:Tryz.prog.cellsOf 77=2:=by kernel_rfl
theorem i9k:Tryz.prog.cellsOf 131=2:=by kernel_rfl
theorem k3:Tryz.prog.cellsOf 3=1:=by kernel_rfl
theorem k5:Tryz.prog.cellsOf 5=1:=by kernel_rfl
theorem k22:Tryz.prog.cellsOf 22=1:=by kernel_rfl
theorem k23:Tryz.prog.cellsOf 23=1:=by kernel_rfl
theorem k24:Tryz.prog.cellsOf 24=1:=by kernel_rfl
theorem k25:Tryz.prog.cellsOf 25=1:=by kernel_rfl
instance:Inhabited VaR:=⟨⟨0,0⟩⟩
instance:Inhabited DiR:=⟨⟨0,fun _=>0,0,fun _=>0,0,fun _=>default,0,fun _=>0,fun _=>0,fun _ _=>0,0⟩⟩
theorem f0y {α:Type}{l:List α}(h:l.length=2): ∃a b,l=[a,b]:=by
 match l,h with
 |[a,b],_=>exact⟨a,b,rfl⟩
theorem i6v {α:Type}{l:List α}(h:l.length=5): ∃a b c d e,l=[a,b,c,d,e]:=by
 match l,h with
 |[a,b,c,d,e],_=>exact⟨a,b,c,d,e,rfl⟩
theorem i5v {α:Type}{l:List α}(h:l.length=13): ∃a b c d e f g h i j k m n,l=[a,b,c,d,e,f,g,h,i,j,k,m,n]:=by
 match l,h with
 |[a,b,c,d,e,f,g,h,i,j,k,m,n],_=>exact⟨a,b,c,d,e,f,g,h,i,j,k,m,n,rfl⟩
section
variable {H:Type} {enc:TypeId×Value->H} {w:World} {spare:Nat->Bool} {held:Bool}
theorem h4o {t:TypeId}{l:List (TypeId×Nat)}(hf:fieldsOf t=some l){fuel:Nat}{cs:List Value}{x:DataW H×List MemPlace}(h:DataW.trod enc Tryz.prog w 0 spare held fuel t cs=some x):
 cs.length=Tryz.prog.cellsOf t/\ ∀(i:Nat) (ty:TypeId) (off:Nat),l[i]? =some (ty,off)-> ∃n y,DataW.trod enc Tryz.prog w 0 spare held n ty ((cs.drop off).take (Tryz.prog.cellsOf ty))=some y:=by
 unfold fieldsOf at hf
 split at hf
 ·rename_i fs hu
  cases hf
  obtain⟨xs,n,_,_,h1,h2,h3⟩:=DataW.trod_struct hu h
  refine⟨h1,fun i ty off hi=> ?_⟩
  rw[List.getElem?_map] at hi
  cases hfi:fs.toList[i]? with
  |none=>simp[hfi] at hi
  |some f=>
   simp[hfi] at hi
   obtain⟨rfl,rfl⟩:=hi
   have hfi':fs[i]? =some f:=by simpa using hfi
   have hlt:i<fs.size:=(Array.getElem?_eq_some_iff.1 hfi').1
   have:=h3 i f hfi'
   rw[show xs[i]? =some (xs[i]'(by omega)) from List.getElem?_eq_getElem _] at this
   exact⟨n,_,this⟩
 ·cases hf
theorem ints_read {fuel:Nat}{cs:List Value}{x:DataW H×List MemPlace}(h:DataW.trod enc Tryz.prog w 0 spare held fuel 22 cs=some x):
 ∃(v:Value) (n:Nat) (g:Nat->Int),cs=[v]/\DVR w (d6a w) (.sl 1 n fun i=>[.int .i64 (.v (g i))]) v/\ ∀i,i<n->c5t (g i):=by
 obtain⟨v,n,f,h1,h2,h3⟩:=h5b u22 h (α:=Int) (fun z=>[.int .i64 (.v z)]) c5t k3 (by omega) fun n cs y hl hy=>by
  obtain⟨z,hz,rfl⟩:=b5t u3 hy
  exact⟨z,hz,d0e (.int _ _)⟩
 exact⟨v,n,f,h1,h2,h3⟩
theorem i1w {fuel:Nat}{cs:List Value}{x:DataW H×List MemPlace}(h:DataW.trod enc Tryz.prog w 0 spare held fuel 24 cs=some x):
 ∃(v:Value) (n:Nat) (f:Nat->VaR),cs=[v]/\DVR w (d6a w) (.sl 2 n fun i=>(f i).row) v/\ ∀i,i<n->0<=(f i).fault:=by
 obtain⟨v,n,f,h1,h2,h3⟩:=h5b u24 h (α:=VaR) VaR.row (fun v=>0<=v.fault) k77 (by omega) fun n cs y hl hy=>by
  obtain⟨_,hf⟩:=h4o f77 hy
  obtain⟨c0,c1,rfl⟩:=f0y hl
  obtain⟨_,_,q0⟩:=hf 0 5 0 rfl
  obtain⟨_,_,q1⟩:=hf 1 3 1 rfl
  rw[k5] at q0
  rw[k3] at q1
  simp at q0 q1
  obtain⟨z0,hz,e0⟩:=b5t u5 q0
  obtain⟨z1,_,e1⟩:=b5t u3 q1
  simp at e0 e1
  subst e0 e1
  exact⟨⟨z0,z1⟩,hz.1,b5g (.int _ _) (d0e (.int _ _))⟩
 exact⟨v,n,f,h1,h2,h3⟩
theorem h6u {fuel:Nat}{cs:List Value}{x:DataW H×List MemPlace}(h:DataW.trod enc Tryz.prog w 0 spare held fuel 25 cs=some x):
 ∃(v:Value) (n:Nat) (var:Nat->Int) (nk:Nat->Nat) (kid:Nat->Nat->Int),cs=[v]/\DVR w (d6a w) (.sl 2 n fun i=>[.int .i64 (.v (var i)),.sl 1 (nk i) fun j=>[.int .i64 (.v (kid i j))]]) v/\ ∀i,i<n-> ∀j,j<nk i->c5t (kid i j):=by
 obtain⟨v,n,f,h1,h2,h3⟩:=h5b u25 h (α:=Int×Nat×(Nat->Int)) (fun b=>[.int .i64 (.v b.1),.sl 1 b.2.1 fun j=>[.int .i64 (.v (b.2.2 j))]]) (fun b=> ∀j,j<b.2.1->c5t (b.2.2 j)) i9k (by omega) fun n cs y hl hy=>by
  obtain⟨_,hf⟩:=h4o i8r hy
  obtain⟨c0,c1,rfl⟩:=f0y hl
  obtain⟨_,_,q0⟩:=hf 0 3 0 rfl
  obtain⟨_,_,q1⟩:=hf 1 22 1 rfl
  rw[k3] at q0
  rw[k22] at q1
  simp at q0 q1
  obtain⟨z0,_,e0⟩:=b5t u3 q0
  obtain⟨v1,n1,g1,e1,r1,b1⟩:=ints_read q1
  simp at e0 e1
  subst e0 e1
  exact⟨⟨z0,n1,g1⟩,b1,b5g (.int _ _) (d0e r1)⟩
 exact⟨v,n,fun i=>(f i).1,fun i=>(f i).2.1,fun i=>(f i).2.2,h1,h2,h3⟩
theorem h6b {fuel:Nat}{cs:List Value}{x:DataW H×List MemPlace}(h:DataW.trod enc Tryz.prog w 0 spare held fuel 27 cs=some x): ∃d:DiR,d.wf/\Row w d.row cs:=by
 obtain⟨hl,hf⟩:=h4o f27 h
 rw[k27] at hl
 obtain⟨c0,c1,c2,c3,c4,rfl⟩:=i6v hl
 obtain⟨_,_,q0⟩:=hf 0 22 0 rfl
 obtain⟨_,_,q1⟩:=hf 1 22 1 rfl
 obtain⟨_,_,q2⟩:=hf 2 24 2 rfl
 obtain⟨_,_,q3⟩:=hf 3 25 3 rfl
 obtain⟨_,_,q4⟩:=hf 4 3 4 rfl
 rw[k22] at q0 q1
 rw[k24] at q2
 rw[k25] at q3
 rw[k3] at q4
 simp at q0 q1 q2 q3 q4
 obtain⟨v0,ns,sz,e0,r0,_⟩:=ints_read q0
 obtain⟨v1,no,od,e1,r1,_⟩:=ints_read q1
 obtain⟨v2,ne,en,e2,r2,b2⟩:=i1w q2
 obtain⟨v3,nn,var,nk,kid,e3,r3,b3⟩:=h6u q3
 obtain⟨root,b4,e4⟩:=b5t u3 q4
 simp at e0 e1 e2 e3 e4
 subst e0 e1 e2 e3 e4
 exact⟨⟨ns,sz,no,od,ne,en,nn,var,nk,kid,root⟩,⟨b3,b4,b2⟩,b5g r0 (b5g r1 (b5g r2 (b5g r3 (d0e (.int _ _)))))⟩
theorem i0w {xs ys:List DV}{cs ds:List Value}(h:Row w xs cs)(k:Row w ys ds):Row w (xs++ys) (cs++ds):=by
 refine⟨by simp[h.1,k.1],fun j x v hx hv=> ?_⟩
 by_cases hj:j<xs.length
 ·rw[List.getElem?_append_left hj] at hx
  rw[List.getElem?_append_left (by have:=h.1;omega)] at hv
  exact h.2 j x v hx hv
 ·rw[List.getElem?_append_right (by omega)] at hx
  rw[List.getElem?_append_right (by have:=h.1;omega),<-h.1] at hv
  exact k.2 _ x v hx hv
def i7i (c:CaR):List DV:=[.sl 1 c.ns fun i=>[.int .i64 (.v (c.sz i))],.sl 1 c.no fun i=>[.int .i64 (.v (c.od i))],.sl 5 c.nl fun i=>(c.lk i).row]++c.inn.row++c.goal.row
theorem i4o (c:CaR):c.av= .agg ((i7i c).map .d):=rfl
theorem vr_agg {xs:List DV}{v:Value}(h:Row w xs v.cells.toList)(hl:xs.length≠1):VR w (d6a w) a2j (.agg (xs.map .d)) v:=by
 have: ∃cs,v= .agg cs:=by
  cases v with
  |agg cs=>exact⟨cs,rfl⟩
  |_=>exact absurd (by simpa [Value.cells] using h.1) hl
 obtain⟨cs,rfl⟩:=this
 have h:Row w xs cs.toList:=h
 refine .agg _ _ (by simpa using h.1) fun i x u hx hu=> ?_
 rw[List.getElem?_map] at hx
 cases hc:xs[i]? with
 |none=>simp[hc] at hx
 |some y=>simp[hc] at hx;subst hx;exact .d (h.2 i y u hc (by simpa using hu))
theorem case_read {v:Value}{d:DataW H}{ps:List MemPlace}(h:DataW.Trod enc Tryz.prog w 0 spare held 29 v d ps): ∃c:CaR,c.wf/\VR w (d6a w) a2j c.av v:=by
 obtain⟨fuel,h⟩:=h
 obtain⟨hl,hf⟩:=h4o f29 h
 rw[k29] at hl
 obtain⟨c0,c1,c2,c3,c4,c5,c6,c7,c8,c9,c10,c11,c12,hc⟩:=i5v hl
 rw[hc] at hf
 obtain⟨_,_,q0⟩:=hf 0 22 0 rfl
 obtain⟨_,_,q1⟩:=hf 1 22 1 rfl
 obtain⟨_,_,q2⟩:=hf 2 23 2 rfl
 obtain⟨_,_,q3⟩:=hf 3 27 3 rfl
 obtain⟨_,_,q4⟩:=hf 4 27 8 rfl
 rw[k22] at q0 q1
 rw[k23] at q2
 rw[k27] at q3 q4
 simp at q0 q1 q2 q3 q4
 obtain⟨v0,ns,sz,e0,r0,_⟩:=ints_read q0
 obtain⟨v1,no,od,e1,r1,_⟩:=ints_read q1
 obtain⟨v2,nl,lk,e2,r2,b2⟩:=h5b u23 q2 (α:=DiR) DiR.row DiR.wf k27 (by omega) fun n cs y hl hy=>h6b hy
 obtain⟨inn,b3,r3⟩:=h6b q3
 obtain⟨goal,b4,r4⟩:=h6b q4
 simp at e0 e1 e2
 subst e0 e1 e2
 refine⟨⟨ns,sz,no,od,nl,lk,inn,goal⟩,fun i hi=> ?_,?_⟩
 ·unfold CaR.dg
  by_cases h1:i<nl
  ·rw[if_pos h1];exact b2 i h1
  ·rw[if_neg h1]
   by_cases h2:i=nl
   ·rw[if_pos h2];exact b3
   ·rw[if_neg h2];exact b4
 ·rw[i4o]
  refine vr_agg ?_ (by simp[i7i,DiR.row])
  rw[hc]
  exact i0w (i0w (b5g r0 (b5g r1 (d0e r2))) r3) r4
end
end Cs
open Go.ChangeShapes Go.WideShapes Go.ChangeAt Go.RowKit Go.Vf Go.Proofs.Tryz.Run
noncomputable def fieldsOf (t:TypeId):Option (List (TypeId×Nat)):=
 match Tryz.prog.underlying t with
 |some (.struct fs)=>some (fs.toList.map fun f=>(f.type,f.offset))
 |_=>none
theorem u24:Tryz.prog.underlying 24=some (.slice 77):=by kernel_rfl
theorem u32:Tryz.prog.underlying 32=some (.slice 34):=by kernel_rfl
theorem u3:Tryz.prog.underlying 3=some (.int .i64):=by kernel_rfl
theorem u5:Tryz.prog.underlying 5=some (.int .u8):=by kernel_rfl
theorem f34:fieldsOf 34=some [(3,0),(24,1),(32,2)]:=by kernel_rfl
theorem f77:fieldsOf 77=some [(5,0),(3,1)]:=by kernel_rfl
theorem k77:Tryz.prog.cellsOf 77=2:=by kernel_rfl
theorem k34:Tryz.prog.cellsOf 34=3:=by kernel_rfl
theorem k3:Tryz.prog.cellsOf 3=1:=by kernel_rfl
theorem k5:Tryz.prog.cellsOf 5=1:=by kernel_rfl
theorem k24:Tryz.prog.cellsOf 24=1:=by kernel_rfl
theorem k32:Tryz.prog.cellsOf 32=1:=by kernel_rfl
theorem b77:0<Tryz.prog.bytesOf 77:=of_decide_eq_true (by kernel_rfl)
theorem b34:0<Tryz.prog.bytesOf 34:=of_decide_eq_true (by kernel_rfl)
theorem f0y {α:Type}{l:List α}(h:l.length=2): ∃a b,l=[a,b]:=by
 match l,h with
 |[a,b],_=>exact⟨a,b,rfl⟩
theorem e3d {α:Type}{l:List α}(h:l.length=3): ∃a b c,l=[a,b,c]:=by
 match l,h with
 |[a,b,c],_=>exact⟨a,b,c,rfl⟩
instance:Inhabited VaR:=⟨⟨0,0⟩⟩
instance:Inhabited PlR:=⟨.none⟩
section
variable {H:Type} {enc:TypeId×Value->H} {P:Program} {w:World} {spare:Nat->Bool} {held:Bool}
theorem a6t {e:TypeId}{d:DataW H}{k:Nat}: ∀{l:List (DataW H)},d∈l->k∈d.weights P e->k∈DataW.weightsAll P e l
 |[],h,_=>absurd h (by simp)
 |a::l,h,hk=>by
  simp only[DataW.weightsAll,List.mem_append]
  rcases List.mem_cons.1 h with rfl|h
  ·exact .inl hk
  ·exact .inr (a6t h hk)
theorem a5e {t:TypeId}{d:DataW H}{k:Nat}: ∀{ts:List TypeId} {l:List (DataW H)} {i:Nat},ts[i]? =some t->l[i]? =some d->k∈d.weights P t->k∈DataW.weightsEach P ts l
 |[],_,_,h,_,_=>by simp at h
 |_::_,[],_,_,h,_=>by simp at h
 |a::ts,x::l,i,h1,h2,hk=>by
  simp only[DataW.weightsEach,List.mem_append]
  cases i with
  |zero=>simp at h1 h2;subst h1 h2;exact .inl hk
  |succ i=>simp at h1 h2;exact .inr (a5e h1 h2 hk)
theorem b1g {t e:TypeId}(ht:P.underlying t=some (.slice e)){fuel:Nat}{cs:List Value}{x:DataW H×List MemPlace}(h:DataW.trod enc P w 0 spare held fuel t cs=some x)
 {α:Type} [Inhabited α] (row:α->List DV) (R:α->Prop) {sz:Nat} (hsz:P.cellsOf e=sz) (hpos:0<sz) {B:Nat} (hbe:0<P.bytesOf e) (hW: ∀k,k∈x.1.weights P t->k<=B)
 (hrow: ∀(n:Nat) (cs:List Value) (y:DataW H×List MemPlace),fuel=n+1->cs.length=sz->DataW.trod enc P w 0 spare held n e cs=some y->(∀k,k∈y.1.weights P e->k<=B)-> ∃z:α,R z/\Row w (row z) cs):
 ∃(v:Value) (n:Nat) (f:Nat->α),cs=[v]/\DVR w (d6a w) (.sl sz n fun i=>row (f i)) v/\(∀i,i<n->R (f i))/\n<=B:=by
 classical
 rcases DataW.trod_slice ht h with⟨rfl,_⟩|⟨a,len,cap,elems,rest,n,hfu,rfl,hx,_,hlc,_,hel,hget,_⟩
 ·exact⟨_,0,fun _=>default,rfl,.sl0 _ _ _ _,fun i hi=>by omega,Nat.zero_le _⟩
 rw[hsz] at hget
 have hwt:x.1.weights P t=(elems.length+rest.length)*P.bytesOf e::(DataW.weightsAll P e (elems.map (·.1))++DataW.weightsAll P e (rest.map (·.1))):=by
  rw[hx]
  simp only[DataW.weights,ht,List.length_map]
 have hlen:len<=B:=by
  have h1:=hW ((elems.length+rest.length)*P.bytesOf e) (by rw[hwt];simp)
  have h2:len<=elems.length+rest.length:=by omega
  exact Nat.le_trans h2 (Nat.le_trans (Nat.le_mul_of_pos_right _ hbe) h1)
 have hex: ∀i,i<len-> ∃(cs:List Value) (z:α),cs.length=sz/\R z/\Row w (row z) cs/\ ∀j,j<sz->w.cell? ((a.add (i*sz)).add j)=cs[j]? :=fun i hi=>by
  have h1:=hget i hi
  have h2:elems[i]? =some (elems[i]'(by omega)):=List.getElem?_eq_getElem _
  rw[h2,Option.bind_eq_some_iff] at h1
  obtain⟨cs,h3,h4⟩:=h1
  obtain⟨_,h5,h6⟩:=World.cells?_some h3
  obtain⟨z,h7,h8⟩:=hrow n cs _ hfu h5 h4 fun k hk=>hW k (by
   rw[hwt]
   refine List.mem_cons_of_mem _ (List.mem_append_left _ (a6t (d:=(elems[i]'(by omega)).1) ?_ hk))
   exact List.mem_map_of_mem (List.getElem_mem _))
  exact⟨cs,z,h5,h7,h8,h6⟩
 by_cases h0:len=0
 ·subst h0
  exact⟨_,0,fun _=>default,rfl,.sl0 _ _ _ _,fun i hi=>by omega,Nat.zero_le _⟩
 have hspot:a.spot=none/\a.block<w.heap.size:=by
  obtain⟨cs,z,h1,_,_,h4⟩:=hex 0 (by omega)
  have h5:=h4 0 hpos
  have h6:cs[0]? =some (cs[0]'(by omega)):=List.getElem?_eq_getElem _
  rw[h6] at h5
  simpa [Addr.add] using c6d h5
 obtain⟨C,hC⟩: ∃C:Nat->List Value×α,∀i,i<len->(C i).1.length=sz/\R (C i).2/\Row w (row (C i).2) (C i).1/\ ∀j,j<sz->w.cell? ((a.add (i*sz)).add j)=(C i).1[j]? :=
  ⟨fun i=>if hi:i<len then ((hex i hi).choose,(hex i hi).choose_spec.choose) else ([],default),fun i hi=>by simp only[dif_pos hi];exact (hex i hi).choose_spec.choose_spec⟩
 obtain⟨b,off,s⟩:=a
 simp only at hspot
 obtain⟨rfl,hb⟩:=hspot
 refine⟨_,len,fun i=>(C i).2,rfl,.sl sz len _ b off cap (fun i j=>((C i).1[j]?).getD undef) (fun _=>hb) hlc (fun i hi=>(hC i hi).2.2.1.1.trans (hC i hi).1) (fun i hi j hj=> ?_) (fun i hi j x hx=> ?_),fun i hi=>(hC i hi).2.1,hlen⟩
 ·have h1:=(hC i hi).2.2.2 j hj
  rw[d8i rfl] at h1
  have h2:(C i).1[j]? =some ((C i).1[j]'(by rw[(hC i hi).1];exact hj)):=List.getElem?_eq_getElem _
  rw[h1,h2];rfl
 ·have hj:j<(row (C i).2).length:=(List.getElem?_eq_some_iff.1 hx).1
  have hlen:(row (C i).2).length=(C i).1.length:=(hC i hi).2.2.1.1
  have h2:(C i).1[j]? =some ((C i).1[j]'(by omega)):=List.getElem?_eq_getElem _
  rw[h2]
  exact (hC i hi).2.2.1.2 j x _ hx h2
end
section
variable {H:Type} {enc:TypeId×Value->H} {w:World} {spare:Nat->Bool} {held:Bool}
theorem a9p {t:TypeId}{l:List (TypeId×Nat)}(hf:fieldsOf t=some l){fuel:Nat}{cs:List Value}{x:DataW H×List MemPlace}(h:DataW.trod enc Tryz.prog w 0 spare held fuel t cs=some x)
 {B:Nat} (hW: ∀k,k∈x.1.weights Tryz.prog t->k<=B):
 cs.length=Tryz.prog.cellsOf t/\ ∀(i:Nat) (ty:TypeId) (off:Nat),l[i]? =some (ty,off)-> ∃n y,fuel=n+1/\DataW.trod enc Tryz.prog w 0 spare held n ty ((cs.drop off).take (Tryz.prog.cellsOf ty))=some y/\ ∀k,k∈y.1.weights Tryz.prog ty->k<=B:=by
 unfold fieldsOf at hf
 split at hf
 ·rename_i fs hu
  cases hf
  obtain⟨xs,n,hfu,hx,h1,h2,h3⟩:=DataW.trod_struct hu h
  refine⟨h1,fun i ty off hi=> ?_⟩
  rw[List.getElem?_map] at hi
  cases hfi:fs.toList[i]? with
  |none=>simp[hfi] at hi
  |some f=>
   simp[hfi] at hi
   obtain⟨rfl,rfl⟩:=hi
   have hfi':fs[i]? =some f:=by simpa using hfi
   have hlt:i<xs.length:=by rw[h2];exact (Array.getElem?_eq_some_iff.1 hfi').1
   have h4:=h3 i f hfi'
   have h5:xs[i]? =some (xs[i]'hlt):=List.getElem?_eq_getElem _
   rw[h5] at h4
   refine⟨n,_,hfu,h4,fun k hk=>hW k ?_⟩
   rw[hx]
   simp only[DataW.weights,hu]
   exact a5e (i:=i) (t:=f.type) (by rw[List.getElem?_map,hfi];rfl) (by rw[List.getElem?_map,h5];rfl) hk
 ·cases hf
theorem b8z {fuel:Nat}{cs:List Value}{x:DataW H×List MemPlace}(h:DataW.trod enc Tryz.prog w 0 spare held fuel 24 cs=some x){B:Nat}(hW: ∀k,k∈x.1.weights Tryz.prog 24->k<=B):
 ∃(v:Value) (n:Nat) (f:Nat->VaR),cs=[v]/\DVR w (d6a w) (.sl 2 n fun i=>(f i).row) v/\(∀i,i<n->(0<=(f i).fault/\(f i).fault<=255)/\c5t (f i).n)/\n<=B:=
 b1g u24 h (α:=VaR) VaR.row (fun v=>(0<=v.fault/\v.fault<=255)/\c5t v.n) k77 (by omega) b77 hW fun n cs y _ hl hy hk=>by
  obtain⟨_,hf⟩:=a9p f77 hy hk
  obtain⟨c0,c1,rfl⟩:=f0y hl
  obtain⟨_,_,_,q0,_⟩:=hf 0 5 0 rfl
  obtain⟨_,_,_,q1,_⟩:=hf 1 3 1 rfl
  rw[k5] at q0
  rw[k3] at q1
  simp at q0 q1
  obtain⟨z0,hz,e0⟩:=b5t u5 q0
  obtain⟨z1,hz1,e1⟩:=b5t u3 q1
  simp at e0 e1
  subst e0 e1
  exact⟨⟨z0,z1⟩,⟨hz,hz1⟩,b5g (.int _ _) (d0e (.int _ _))⟩
theorem e2n {S:Nat->Prop}{sz n:Nat}{e e':Nat->List DV}{v:Value}(h:DVR w S (.sl sz n e) v)(he: ∀i,i<n->e i=e' i):DVR w S (.sl sz n e') v:=by
 have:=a0x.sl' (sz:=sz) (n:=n) (m:=n) (e:=e) (e':=e') rfl he w S a2j v (.d h)
 cases this with
 |d h=>exact h
theorem c9x: ∀(fuel:Nat) (cs:List Value) (x:DataW H×List MemPlace),DataW.trod enc Tryz.prog w 0 spare held fuel 34 cs=some x->(∀k,k∈x.1.weights Tryz.prog 34->k<=140737488355328)->
 ∃p:PlR,p.ok/\Row w p.row cs:=by
 intro fuel
 induction fuel using Nat.strongRecOn with
 |ind fuel ih=>
  intro cs x h hW
  obtain⟨hl,hf⟩:=a9p f34 h hW
  rw[k34] at hl
  obtain⟨c0,c1,c2,rfl⟩:=e3d hl
  obtain⟨_,_,_,q0,_⟩:=hf 0 3 0 rfl
  obtain⟨_,_,_,q1,g1⟩:=hf 1 24 1 rfl
  obtain⟨m,y,hm,q2,g2⟩:=hf 2 32 2 rfl
  rw[k3] at q0
  rw[k24] at q1
  rw[k32] at q2
  simp at q0 q1 q2
  obtain⟨z0,hz,e0⟩:=b5t u3 q0
  obtain⟨v1,nc,c,e1,r1,b1,n1⟩:=b8z q1 g1
  obtain⟨v2,nn,nx,e2,r2,b2,n2⟩:=b1g u32 q2 (α:=PlR) PlR.row PlR.ok k34 (by omega) b34 g2 fun n cs y hn _ hy hk=>ih n (by omega) cs y hy hk
  simp at e0 e1 e2
  subst e0 e1 e2
  refine⟨.mk z0 nc c nn nx,⟨hz,n1,n2,b1,b2⟩,b5g (.int _ _) (b5g r1 (d0e (e2n r2 fun i hi=> ?_)))⟩
  rw[if_pos hi]
end
end Go.Proofs.YtbglklaocjifhaaGreat
