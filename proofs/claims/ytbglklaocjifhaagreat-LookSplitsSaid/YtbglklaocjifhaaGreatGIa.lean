/- Reading of cases. Conditions: none. -/
import Derived.Test.YtbglklaocjifhaaGreatGXc
open Go.Proofs.Tryz renaming prog->AA
open Go.DataW renaming trod->AB
open Option renaming some->AC
open Go renaming Value->AD,MemPlace->AE,TypeId->AI,DataW->AJ
open List renaming getElem?_append_right->AF,getElem?_append_left->AG,getElem?_map->AH
set_option linter.unusedSimpArgs false
set_option linter.unusedVariables false
namespace Go.Proofs.YtbglklaocjifhaaGreat
namespace Cs
open Go.ChangeShapes Go.WideShapes Go.ChangeAt Go.RowKit Go.Vf Go.Proofs.Tryz.Run
noncomputable def fieldsOf (t:AI):Option (List (AI×Nat)):=
 match AA.underlying t with
 |some (.struct fs)=>AC (fs.toList.map fun f=>(f.type,f.offset))
 |_=>none
theorem E_:AA.underlying 22=AC (.slice 3):=by kernel_rfl
theorem F_:AA.underlying 23=AC (.slice 27):=by kernel_rfl
theorem ZV:AA.underlying 24=AC (.slice 77):=by kernel_rfl
theorem G_:AA.underlying 25=AC (.slice 131):=by kernel_rfl
theorem u3:AA.underlying 3=AC (.int .i64):=by kernel_rfl
theorem u5:AA.underlying 5=AC (.int .u8):=by kernel_rfl
theorem f29:fieldsOf 29=AC [(22,0),(22,1),(23,2),(27,3),(27,8)]:=by kernel_rfl
theorem f27:fieldsOf 27=AC [(22,0),(22,1),(24,2),(25,3),(3,4)]:=by kernel_rfl
theorem f77:fieldsOf 77=AC [(5,0),(3,1)]:=by kernel_rfl
theorem i8r:fieldsOf 131=AC [(3,0),(22,1)]:=by kernel_rfl
theorem x_:AA.cellsOf 29=13:=by kernel_rfl
theorem Zn:AA.cellsOf 27=5:=by kernel_rfl
theorem ZL:AA.cellsOf 77=2:=by kernel_rfl
theorem i9k:AA.cellsOf 131=2:=by kernel_rfl
theorem k3:AA.cellsOf 3=1:=by kernel_rfl
theorem k5:AA.cellsOf 5=1:=by kernel_rfl
theorem Zm:AA.cellsOf 22=1:=by kernel_rfl
theorem v_:AA.cellsOf 23=1:=by kernel_rfl
theorem ZK:AA.cellsOf 24=1:=by kernel_rfl
theorem w_:AA.cellsOf 25=1:=by kernel_rfl
instance:Inhabited g8:=⟨⟨0,0⟩⟩
instance:Inhabited g7:=⟨⟨0,fun _=>0,0,fun _=>0,0,fun _=>default,0,fun _=>0,fun _=>0,fun _ _=>0,0⟩⟩
theorem Ww {α:Type}{l:List α}(h:l.length=2): ∃a b,l=[a,b]:=by
 match l,h with
 |[a,b],_=>exact⟨a,b,rfl⟩
theorem i6v {α:Type}{l:List α}(h:l.length=5): ∃a b c d e,l=[a,b,c,d,e]:=by
 match l,h with
 |[a,b,c,d,e],_=>exact⟨a,b,c,d,e,rfl⟩
theorem i5v {α:Type}{l:List α}(h:l.length=13): ∃a b c d e f g h i j k m n,l=[a,b,c,d,e,f,g,h,i,j,k,m,n]:=by
 match l,h with
 |[a,b,c,d,e,f,g,h,i,j,k,m,n],_=>exact⟨a,b,c,d,e,f,g,h,i,j,k,m,n,rfl⟩
section
variable {H:Type} {enc:AI×AD->H} {w:World} {spare:Nat->Bool} {held:Bool}
theorem T5 {t:AI}{l:List (AI×Nat)}(hf:fieldsOf t=AC l){fuel:Nat}{cs:List AD}{x:AJ H×List AE}(h:AB enc AA w 0 spare held fuel t cs=AC x):
 cs.length=AA.cellsOf t/\ ∀(i:Nat) (ty:AI) (off:Nat),l[i]? =AC (ty,off)-> ∃n y,AB enc AA w 0 spare held n ty ((cs.drop off).take (AA.cellsOf ty))=AC y:=by
 unfold fieldsOf at hf;split at hf
 ·rename_i fs hu;cases hf;obtain⟨xs,n,_,_,h1,h2,h3⟩:=DataW.trod_struct hu h;refine⟨h1,fun i ty off hi=> ?_⟩;rw[AH] at hi;cases PE:fs.toList[i]? with
  |none=>simp[PE] at hi
  |some f=>
   simp[PE] at hi;obtain⟨rfl,rfl⟩:=hi;have PF:fs[i]? =AC f:=by simpa using PE
   have hlt:i<fs.size:=(Array.getElem?_eq_some_iff.1 PF).1;have:=h3 i f PF;rw[show xs[i]? =AC (xs[i]'(by omega)) from List.getElem?_eq_getElem _] at this;exact⟨n,_,this⟩
 ·cases hf
theorem QD {fuel:Nat}{cs:List AD}{x:AJ H×List AE}(h:AB enc AA w 0 spare held fuel 22 cs=AC x):
 ∃(v:AD) (n:Nat) (g:Nat->Int),cs=[v]/\qn w (Gw w) (.sl 1 n fun i=>[.int .i64 (.v (g i))]) v/\ ∀i,i<n->rq (g i):=by
 obtain⟨v,n,f,h1,h2,h3⟩:=T2 E_ h (α:=Int) (fun z=>[.int .i64 (.v z)]) rq k3 (by omega) fun n cs y hl hy=>by obtain⟨z,hz,rfl⟩:=Nt u3 hy;exact⟨z,hz,Q9 (.int _ _)⟩
 exact⟨v,n,f,h1,h2,h3⟩
theorem i1w {fuel:Nat}{cs:List AD}{x:AJ H×List AE}(h:AB enc AA w 0 spare held fuel 24 cs=AC x):
 ∃(v:AD) (n:Nat) (f:Nat->g8),cs=[v]/\qn w (Gw w) (.sl 2 n fun i=>(f i).row) v/\ ∀i,i<n->0<=(f i).fault:=by
 obtain⟨v,n,f,h1,h2,h3⟩:=T2 ZV h (α:=g8) g8.row (fun v=>0<=v.fault) ZL (by omega) fun n cs y hl hy=>by obtain⟨_,hf⟩:=T5 f77 hy;obtain⟨c0,c1,rfl⟩:=Ww hl;obtain⟨_,_,q0⟩:=hf 0 5 0 rfl;obtain⟨_,_,q1⟩:=hf 1 3 1 rfl;rw[k5] at q0;rw[k3] at q1;simp at q0 q1;obtain⟨z0,hz,e0⟩:=Nt u5 q0;obtain⟨z1,_,e1⟩:=Nt u3 q1;simp at e0 e1;subst e0 e1;exact⟨⟨z0,z1⟩,hz.1,Kz (.int _ _) (Q9 (.int _ _))⟩
 exact⟨v,n,f,h1,h2,h3⟩
theorem h6u {fuel:Nat}{cs:List AD}{x:AJ H×List AE}(h:AB enc AA w 0 spare held fuel 25 cs=AC x):
 ∃(v:AD) (n:Nat) (var:Nat->Int) (nk:Nat->Nat) (dq:Nat->Nat->Int),cs=[v]/\qn w (Gw w) (.sl 2 n fun i=>[.int .i64 (.v (var i)),.sl 1 (nk i) fun j=>[.int .i64 (.v (dq i j))]]) v/\ ∀i,i<n-> ∀j,j<nk i->rq (dq i j):=by
 obtain⟨v,n,f,h1,h2,h3⟩:=T2 G_ h (α:=Int×Nat×(Nat->Int)) (fun b=>[.int .i64 (.v b.1),.sl 1 b.2.1 fun j=>[.int .i64 (.v (b.2.2 j))]]) (fun b=> ∀j,j<b.2.1->rq (b.2.2 j)) i9k (by omega) fun n cs y hl hy=>by obtain⟨_,hf⟩:=T5 i8r hy;obtain⟨c0,c1,rfl⟩:=Ww hl;obtain⟨_,_,q0⟩:=hf 0 3 0 rfl;obtain⟨_,_,q1⟩:=hf 1 22 1 rfl;rw[k3] at q0;rw[Zm] at q1;simp at q0 q1;obtain⟨z0,_,e0⟩:=Nt u3 q0;obtain⟨v1,n1,g1,e1,r1,b1⟩:=QD q1;simp at e0 e1;subst e0 e1;exact⟨⟨z0,n1,g1⟩,b1,Kz (.int _ _) (Q9 r1)⟩
 exact⟨v,n,fun i=>(f i).1,fun i=>(f i).2.1,fun i=>(f i).2.2,h1,h2,h3⟩
theorem U7 {fuel:Nat}{cs:List AD}{x:AJ H×List AE}(h:AB enc AA w 0 spare held fuel 27 cs=AC x): ∃d:g7,d.wf/\Row w d.row cs:=by obtain⟨hl,hf⟩:=T5 f27 h;rw[Zn] at hl;obtain⟨c0,c1,c2,c3,c4,rfl⟩:=i6v hl;obtain⟨_,_,q0⟩:=hf 0 22 0 rfl;obtain⟨_,_,q1⟩:=hf 1 22 1 rfl;obtain⟨_,_,q2⟩:=hf 2 24 2 rfl;obtain⟨_,_,q3⟩:=hf 3 25 3 rfl;obtain⟨_,_,q4⟩:=hf 4 3 4 rfl;rw[Zm] at q0 q1;rw[ZK] at q2;rw[w_] at q3;rw[k3] at q4;simp at q0 q1 q2 q3 q4;obtain⟨v0,ns,sz,e0,r0,_⟩:=QD q0;obtain⟨v1,no,od,e1,r1,_⟩:=QD q1;obtain⟨v2,ne,en,e2,r2,b2⟩:=i1w q2;obtain⟨v3,nn,var,nk,dq,e3,r3,b3⟩:=h6u q3;obtain⟨root,b4,e4⟩:=Nt u3 q4;simp at e0 e1 e2 e3 e4;subst e0 e1 e2 e3 e4;exact⟨⟨ns,sz,no,od,ne,en,nn,var,nk,dq,root⟩,⟨b3,b4,b2⟩,Kz r0 (Kz r1 (Kz r2 (Kz r3 (Q9 (.int _ _)))))⟩
theorem i0w {xs ys:List DV}{cs ds:List AD}(h:Row w xs cs)(k:Row w ys ds):Row w (xs++ys) (cs++ds):=by
 refine⟨by simp[h.1,k.1],fun j x v hx hv=> ?_⟩;by_cases hj:j<xs.length
 ·rw[AG hj] at hx;rw[AG (by have:=h.1;omega)] at hv;exact h.2 j x v hx hv
 ·rw[AF (by omega)] at hx;rw[AF (by have:=h.1;omega),<-h.1] at hv;exact k.2 _ x v hx hv
def i7i (c:i6):List DV:=[.sl 1 c.ns fun i=>[.int .i64 (.v (c.sz i))],.sl 1 c.no fun i=>[.int .i64 (.v (c.od i))],.sl 5 c.nl fun i=>(c.lk i).row]++c.nr.row++c.goal.row
theorem i4o (c:i6):c.av= .agg ((i7i c).map .d):=rfl
theorem i6c {xs:List DV}{v:AD}(h:Row w xs v.cells.toList)(hl:xs.length≠1):VR w (Gw w) my (.agg (xs.map .d)) v:=by
 have: ∃cs,v= .agg cs:=by
  cases v with
  |agg cs=>exact⟨cs,rfl⟩
  |_=>exact absurd (by simpa [Value.cells] using h.1) hl
 obtain⟨cs,rfl⟩:=this;have h:Row w xs cs.toList:=h;refine .agg _ _ (by simpa using h.1) fun i x u hx hu=> ?_;rw[AH] at hx;cases hc:xs[i]? with
 |none=>simp[hc] at hx
 |some y=>simp[hc] at hx;subst hx;exact .d (h.2 i y u hc (by simpa using hu))
theorem Xt {v:AD}{d:AJ H}{ps:List AE}(h:DataW.Trod enc AA w 0 spare held 29 v d ps): ∃c:i6,c.wf/\VR w (Gw w) my c.av v:=by
 obtain⟨fuel,h⟩:=h;obtain⟨hl,hf⟩:=T5 f29 h;rw[x_] at hl;obtain⟨c0,c1,c2,c3,c4,c5,c6,c7,c8,c9,c10,c11,c12,hc⟩:=i5v hl;rw[hc] at hf;obtain⟨_,_,q0⟩:=hf 0 22 0 rfl;obtain⟨_,_,q1⟩:=hf 1 22 1 rfl;obtain⟨_,_,q2⟩:=hf 2 23 2 rfl;obtain⟨_,_,q3⟩:=hf 3 27 3 rfl;obtain⟨_,_,q4⟩:=hf 4 27 8 rfl;rw[Zm] at q0 q1;rw[v_] at q2;rw[Zn] at q3 q4;simp at q0 q1 q2 q3 q4;obtain⟨v0,ns,sz,e0,r0,_⟩:=QD q0;obtain⟨v1,no,od,e1,r1,_⟩:=QD q1;obtain⟨v2,nl,lk,e2,r2,b2⟩:=T2 F_ q2 (α:=g7) g7.row g7.wf Zn (by omega) fun n cs y hl hy=>U7 hy;obtain⟨nr,b3,r3⟩:=U7 q3;obtain⟨goal,b4,r4⟩:=U7 q4;simp at e0 e1 e2;subst e0 e1 e2;refine⟨⟨ns,sz,no,od,nl,lk,nr,goal⟩,fun i hi=> ?_,?_⟩
 ·unfold i6.dg;by_cases h1:i<nl
  ·rw[if_pos h1];exact b2 i h1
  ·rw[if_neg h1];by_cases h2:i=nl
   ·rw[if_pos h2];exact b3
   ·rw[if_neg h2];exact b4
 ·rw[i4o];refine i6c ?_ (by simp[i7i,g7.row]);rw[hc];exact i0w (i0w (Kz r0 (Kz r1 (Q9 r2))) r3) r4
end
end Cs
end Go.Proofs.YtbglklaocjifhaaGreat
