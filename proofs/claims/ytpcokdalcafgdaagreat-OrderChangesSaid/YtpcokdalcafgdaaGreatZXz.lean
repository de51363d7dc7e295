/- OrderChanges: for every family, list and pair the statement answers true, and the arguments read as they did. Conditions: none. -/
import Derived.Test.YtpcokdalcafgdaaGreatZUk
import Derived.Test.YtpcokdalcafgdaaGreatZXy
import Derived.Carry
import Derived.OpenShut
set_option linter.unusedSimpArgs false
set_option linter.unusedVariables false
namespace Go.Proofs.YtpcokdalcafgdaaGreat
open Go.ChangeShapes Go.WideShapes Go.ChangeAt Go.RowKit Go.Vf Go.Proofs.Tryz.Run
theorem u66:Tryz.prog.underlying 66=some (.array 2 3):=by kernel_rfl
theorem k66:Tryz.prog.cellsOf 66=2:=by kernel_rfl
section
variable {H:Type} {enc:TypeId×Value→H} {w:World} {spare:Nat→Bool} {held:Bool}
theorem list_read {v:Value}(hs: ∃a len cap,v= .slice a len cap){d:DataW H}{ps:List MemPlace}(h:DataW.Trod enc Tryz.prog w 0 spare held 29 v d ps):
 ∃(n:Nat) (g:Nat→Int),VR w (allS w) noRho (isl n g) v:=by
 obtain⟨fuel,h⟩:=h
 obtain⟨v',n,g,h1,h2,_⟩:=ints_read2 h
 obtain⟨a,len,cap,rfl⟩:=hs
 simp[Value.cells] at h1
 subst h1
 exact⟨n,g,.d h2⟩
theorem pair_read {v:Value}{d:DataW H}{ps:List MemPlace}(h:DataW.Trod enc Tryz.prog w 0 spare held 66 v d ps): ∃a b:Int,VR w (allS w) noRho (.agg [int a,int b]) v:=by
 obtain⟨fuel,h⟩:=h
 obtain⟨xs,m,_,_,hl,hx,hf⟩:=DataW.trod_array u66 h
 rw[k66] at hl
 have q0:=hf 0 (by omega)
 have q1:=hf 1 (by omega)
 rw[List.getElem?_eq_getElem (by omega),k3] at q0 q1
 obtain⟨z0,_,e0⟩:=int_read u3 q0
 obtain⟨z1,_,e1⟩:=int_read u3 q1
 obtain⟨c0,c1,hv⟩:=list2 hl
 rw[hv] at e0 e1
 simp at e0 e1
 subst e0 e1
 refine⟨z0,z1,?_⟩
 have: ∃cs,v= .agg cs∧cs.toList=[.int .i64 z0,.int .i64 z1]:=by
  cases v with
  |agg cs=>exact⟨cs,rfl,by simpa [Value.cells] using hv⟩
  |_=>simp[Value.cells] at hv
 obtain⟨cs,rfl,hcs⟩:=this
 have hcs':cs= #[.int .i64 z0,.int .i64 z1]:=by apply Array.ext';simpa using hcs
 subst hcs'
 refine .agg _ _ rfl fun i x u hx hu=> ?_
 match i,hx,hu with
 |0,hx,hu=>simp at hx hu;subst hx;subst hu;exact .d (.int _ _)
 |1,hx,hu=>simp at hx hu;subst hx;subst hu;exact .d (.int _ _)
end
theorem changes_calls (n:Nat)(l:Nat→DiR)(hw: ∀i,i<n→(l i).wf)(m:Nat)(od:Nat→Int)(a0 a1:Int)(W:World)(v u t:Value)(hv:VR W (allS W) noRho (dsl n l) v)(hu:VR W (allS W) noRho (isl m od) u)(ht:VR W (allS W) noRho (.agg [int a0,int a1]) t):
 Calls Tryz.prog 12 #[v,u,t] W fun e w'=>e= .returned (.bool true)∧Below W.heap.size W w':=by
 refine ((orderChanges12 n l hw m od a0 a1).2 W (allS W) #[v,u,t] (fun _ h=>h) ⟨rfl,fun i x y hx hy=> ?_⟩).mono fun e w' hR=> ?_
 ·match i,hx,hy with
  |0,hx,hy=>simp at hx hy;subst hx;subst hy;exact hv
  |1,hx,hy=>simp at hx hy;subst hx;subst hy;exact hu
  |2,hx,hy=>simp at hx hy;subst hx;subst hy;exact ht
  |i+3,hx,hy=>simp at hx
 ·obtain⟨v,S',h1,h2,_,h3⟩:=hR
  cases h2 with
  |d h2=>cases h2;exact⟨h1,h3.os,h3.tape,h3.output,h3.size,h3.frame⟩
set_option maxRecDepth 100000 in
theorem changes_lifted (os:Os)(started:os.Started)(H:Type)(enc:TypeId×Value→H):
 ReturnsInHanded {} Tryz.checked os 12 .any (Rows.orderChangesSpec.pre6 enc Tryz.prog Tryz.f12 Rows.orderChangesRow.domain false) (Rows.orderChangesSpec.post enc Tryz.prog Tryz.f12 false true false false):=by
 refine returnsInHanded_of_change (C:=Tryz.checked) Tryz.own started (by kernel_rfl) Tryz.func12
  (ChangeSpec.witness6 (enc:=enc) (C:=Tryz.checked) false ⟨#[],#[.slice none 0 0,.slice none 0 0,.agg #[.int .i64 0,.int .i64 0]],[]⟩ 8 (by kernel_rfl) (by kernel_rfl) (by kernel_rfl) (by kernel_rfl)) ?_
 intro W base args ds gs before hval0 hW hcnd _
 have hW':=hW
 obtain⟨p,q,hA0,hV,rfl,hfz,hnd⟩:=hW
 have hA:DataW.TrodAll enc Tryz.prog W 0 (fun _=>true) true Tryz.f12.params.toList args.toList ds p:=hA0
 have hlt: ∀x∈p,x.block<W.heap.size:=fun x hx=>DataW.TrodAll.lt hA0 x hx
 rw[show Tryz.f12.params.toList=[22,29,66] from by kernel_rfl] at hA
 obtain⟨v,v',v'',d,d',d'',p1,p2,p3,rfl,rfl,rfl,hd,hd',hd''⟩:=trodAll_three hA
 obtain⟨hg,hq⟩:=trodVars_none hV
 subst hg hq
 rw[List.append_assoc p1 p2 p3] at hW'
 have hp0:Tryz.f12.params[0]? =some 22:=by kernel_rfl
 have hp1:Tryz.f12.params[1]? =some 29:=by kernel_rfl
 have hv0:=hval0 0 22 v hp0 (by simp)
 have hv1:=hval0 1 29 v' hp1 (by simp)
 obtain⟨n,l,hl,hw⟩:=diags_read (okWide_slice (P:=Tryz.checked.prog) (e:=44) (by kernel_rfl) hv0) hd
 obtain⟨m,od,hod⟩:=list_read (okWide_slice (P:=Tryz.checked.prog) (e:=3) (by kernel_rfl) hv1) hd'
 obtain⟨a0,a1,ha⟩:=pair_read hd''
 refine (changes_calls n l hw m od a0 a1 W v v' v'' hl hod ha).mono fun e W' ⟨he,hb⟩=> ?_
 subst he
 refine⟨_,rfl,[d,d',d''],[],_,[],p1++(p2++p3),[],hW',?_,?_,?_,hb.frame _,fun h=>by cases h⟩
 ·rw[show Tryz.f12.resultTypes= #[4] from by kernel_rfl]
  exact trodAll_mk1 (shut_bool (by kernel_rfl) true)
 ·rw[show Tryz.f12.params.toList=[22,29,66] from by kernel_rfl]
  exact trodAll_mk3 (Below.trod Tryz.laidOut (by kernel_rfl) (of_decide_eq_true (by kernel_rfl)) hd hb fun x hx=>hlt x (by simp[hx]))
   (Below.trod Tryz.laidOut (by kernel_rfl) (of_decide_eq_true (by kernel_rfl)) hd' hb fun x hx=>hlt x (by simp[hx]))
   (Below.trod Tryz.laidOut (by kernel_rfl) (of_decide_eq_true (by kernel_rfl)) hd'' hb fun x hx=>hlt x (by simp[hx]))
 ·exact rfl
theorem order_changes:Rows.OrderChangesSaid:=
 OpenClaim.holds_of_wide 12 Tryz.f12 rfl rfl rfl rfl rfl rfl rfl ⟨rfl,rfl,rfl,rfl,rfl⟩ rfl rfl rfl rfl rfl (by kernel_rfl) Tryz.func12 (by kernel_rfl)
  (of_decide_eq_true (by kernel_rfl)) (by unfold Func.isWrapper;first|(rw[if_pos (by decide+kernel)];kernel_rfl)|(rw[if_neg (by decide+kernel)];exact⟨rfl,rfl⟩))
  (fun os started H enc _=>changes_lifted os started H enc)
end Go.Proofs.YtpcokdalcafgdaaGreat
