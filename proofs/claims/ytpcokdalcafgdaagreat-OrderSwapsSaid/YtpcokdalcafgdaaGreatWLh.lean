/- Reading of arguments: cores, operations, integers. Conditions: none. -/
import Derived.Test.YtpcokdalcafgdaaGreatWLq
import Derived.Test.YtpcokdalcafgdaaGreatWNc
import Derived.Test.YtpcokdalcafgdaaGreatWNa
set_option linter.unusedSimpArgs false
set_option linter.unusedVariables false
namespace Go.Proofs.YtpcokdalcafgdaaGreat
open Go.ChangeShapes Go.WideShapes Go.ChangeAt Go.RowKit Go.Vf Go.Proofs.Tryz.Run
noncomputable def fieldsOf (t:TypeId):Option (List (TypeId×Nat)):=
 match Tryz.prog.underlying t with
 |some (.struct fs)=>some (fs.toList.map fun f=>(f.type,f.offset))
 |_=>none
theorem u29:Tryz.prog.underlying 29=some (.slice 3):=by kernel_rfl
theorem u3:Tryz.prog.underlying 3=some (.int .i64):=by kernel_rfl
theorem u5:Tryz.prog.underlying 5=some (.int .u8):=by kernel_rfl
theorem k3:Tryz.prog.cellsOf 3=1:=by kernel_rfl
theorem k5:Tryz.prog.cellsOf 5=1:=by kernel_rfl
theorem k29:Tryz.prog.cellsOf 29=1:=by kernel_rfl
section
variable {H:Type} {enc:TypeId×Value->H} {w:World} {spare:Nat->Bool} {held:Bool}
theorem a9s {t:TypeId}{l:List (TypeId×Nat)}(hf:fieldsOf t=some l){fuel:Nat}{cs:List Value}{x:DataW H×List MemPlace}(h:DataW.trod enc Tryz.prog w 0 spare held fuel t cs=some x):
 cs.length=Tryz.prog.cellsOf t/\ ∀(i:Nat) (ty:TypeId) (off:Nat),l[i]? =some (ty,off)-> ∃n y,DataW.trod enc Tryz.prog w 0 spare held n ty ((cs.drop off).take (Tryz.prog.cellsOf ty))=some y:=by
 unfold fieldsOf at hf
 split at hf
 ·rename_i fs hu
  cases hf
  obtain⟨xs,n,_,_,h1,h2,h3⟩:=DataW.trod_struct hu h
  refine⟨h1,fun i ty off hi=> ?_⟩
  rw[List.getElem?_map] at hi
  cases hfi:fs.toList[i]? with
  |none=>simp[hfi] at hi
  |some f=>
   simp[hfi] at hi
   obtain⟨rfl,rfl⟩:=hi
   have hfi':fs[i]? =some f:=by simpa using hfi
   have hlt:i<fs.size:=(Array.getElem?_eq_some_iff.1 hfi').1
   have:=h3 i f hfi'
   rw[show xs[i]? =some (xs[i]'(by omega)) from List.getElem?_eq_getElem _] at this
   exact⟨n,_,this⟩
 ·cases hf
theorem f6c {α:Type}{l:List α}(h:l.length=5): ∃a b c d e,l=[a,b,c,d,e]:=by
 match l,h with
 |[a,b,c,d,e],_=>exact⟨a,b,c,d,e,rfl⟩
end
end Go.Proofs.YtpcokdalcafgdaaGreat
