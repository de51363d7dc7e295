/- Parts of the proof: Mb. Conditions: none. -/
import Derived.Test.YtbglklaocjifhaaGreatEMa
open List renaming getElem?_eq_some_iff->AA,getElem?_append_left->AE,getElem?_append_right->AI,length_take->AN,append_assoc->AP,getElem?_toArray->AT,getElem?_take_of_lt->AU,length_append->AX,getElem?_set_ne->Ad,getElem?_drop->Af,getElem?_map->Ah,getElem?_eq_getElem->Ai,getElem_of_mem->As,getElem_mem->Aw,getElem?_set_self->A6,getElem?_range->BA,map_cons->BJ
open Option renaming bind_eq_some_iff->AB,some->AC,none->AR
open Nat renaming eq_of_beq_eq_true->AD,mul_le_mul_right->AH,add_mul->AK,le_refl->AO,add_zero->Am,add_assoc->At,mod_eq_of_lt->BF,zero_add->BP,mul_comm->BQ,mul_one->BS,le_succ->BU,beq->Be
open Go renaming Value->AF,run_underlying->AG,TypeId->AJ,execOp->AL,Operand->AQ,World->AW,undef->Ak,typeInfo->An,loadVar->Aq,Addr->A7,newRow->BH,run_storeCells_at->BK,asIntOf->BL,storeVar->BV,BinOp->BW,run_loadCells->BX,loadCellsFrom->BY,IntKind->Bb,isAgg->Bc,Act->Bf
open Go.Builtin renaming firstCells->AM,append_->AS,nextslicecap->Aa,lenOf->Az,zeroCells->A8,growBy->BB
open Go.Result renaming andThen_ok->AY,andThen->BC
open Go.Sem renaming run_pure->AZ,run_bind->Al
open Bool renaming and_eq_true->Ab,true->Ax,false->A4
open Go.Op renaming intCmp->Ac,intArith->Aj,unary->BM,equalIn->BZ,intDiv->Ba
open Go.Instr renaming sureAddr->Ae,indexAt->A3,extract->BG,field->BN
open Go.Vf renaming std->Ag,cell?_of->Au,Rel->BD,DVR->BE,Sim->BI,Rho->BR
open Array renaming range->Ao,getElem?_push->Ar,getD_eq_getD_getElem?->Ay,getElem?_append_left->A2,length_toList->A9
open Go.Question renaming appendCap->Ap,cut->Bd
open Go.Vf.DVR renaming mono->Av
open Go.Vf.AV renaming one->A5,cells->BO,d->Bg
set_option linter.unusedSimpArgs false
set_option linter.unusedVariables false
namespace Go.Vf
open Go
theorem Sim.fresh {w:AW}{S:Nat->Prop}{ρ:BR}{h:List a0f}(s:BI w S ρ h){l:Nat}(hl:h.length<=l):ρ l=AR:=by
 cases e:ρ l with
 |none=>rfl
 |some p=>obtain⟨o,h1,_⟩:=s.obj l p.1 p.2 e;have:=(AA.1 h1).1;omega
theorem c9l {w:AW}{S:Nat->Prop}{v:AF}{x:DV}(h:e3r v=AC x):BE w S x v:=by
 unfold e3r at h;split at h<;>first|(cases h;first|exact .int _ (.l _)|exact .bool _|exact .nil|exact .raw _ rfl)|skip
 case h_3 s=>
  cases h;exact .str s.data.toList
 all_goals cases h
theorem b3z {α β:Type}{f:α->Option β}: ∀{l:List α} {r:List β},l.mapM f=AC r->r.length=l.length/\ ∀(i:Nat) (x:α),l[i]? =AC x-> ∃y,r[i]? =AC y/\f x=AC y:=by
 intro l
 induction l with
 |nil=>intro r h;simp at h;subst h;simp
 |cons a l ih=>
  intro r h;simp[List.mapM_cons,AB] at h;obtain⟨y,hy,ys,hys,rfl⟩:=h;obtain⟨h1,h2⟩:=ih hys;refine⟨by simp[h1],fun i x hx=> ?_⟩;cases i with
  |zero=>simp at hx;subst hx;exact⟨y,by simp,hy⟩
  |succ i=>simp at hx;simpa using h2 i x hx
theorem d5c {w:AW}{S:Nat->Prop}{ρ:BR}{v:AF}{x:AV}(h:e5k v=AC x):VR w S ρ x v:=by
 unfold e5k at h;split at h
 ·rename_i cs;simp[AB] at h;obtain⟨l,hl,rfl⟩:=h;obtain⟨h1,h2⟩:=b3z hl;refine .agg _ cs (by simp[h1]) fun i x v hx hv=> ?_;simp at hx;obtain⟨y,hy,rfl⟩:=hx;obtain⟨y',hy',hf⟩:=h2 i v (by simpa using hv);rw[hy] at hy';cases hy';exact .d (c9l hf)
 ·simp[AB] at h;obtain⟨y,hy,rfl⟩:=h;exact .d (c9l hy)
theorem a0t {w:AW}{S:Nat->Prop}{ρ:BR}{ts:List AV}{a:Bf}(h:VRs w S ρ ts a.tmps){X:AQ}{x:a0h}(hx:a0g X=AC x):VR w S ρ (opd ts x) (a.eval X):=by
 cases X with
 |tmp t=>
  simp[a0g] at hx;subst hx;simp only[opd,a0i,Act.eval];cases hc:ts[t]? with
  |none=>exact .any _
  |some y=>
   have hlt:t<a.tmps.size:=by rw[<-h.1];exact (AA.1 hc).1
   have:a.tmps[t]? =AC (a.tmps.getD t Ak):=by simp[hlt]
   exact h.2 t y _ hc this
 |const v=>simp[a0g,AB] at hx;obtain⟨y,hy,rfl⟩:=hx;exact d5c hy
 |global g=>simp[a0g] at hx
 |func f=>simp[a0g] at hx;subst hx;exact .fn f [] [] #[] #[] rfl (by simp) rfl (by simp)
theorem c9w {w:AW}{S:Nat->Prop}{ρ:BR}{ts:List AV}{a:Bf}(h:VRs w S ρ ts a.tmps){X:Array AQ}{x:List a0h}(hx:b3d X=AC x):
 VRs w S ρ (b2j ts x) (X.map a.eval):=by
 obtain⟨h1,h2⟩:=b3z hx;refine⟨by simp[c8g,h1],fun i y v hy hv=> ?_⟩;rw[c8g,Ah] at hy;rw[Array.getElem?_map] at hv;cases hX:X[i]? with
 |none=>simp[hX] at hv
 |some z=>simp[hX] at hv;subst hv;obtain⟨x',hx',hf⟩:=h2 i z (by simpa using hX);simp[hx'] at hy;subst hy;exact a0t h hf
def Yld (P:Program)(o:Oper)(a:Bf)(w:AW)(S:Nat->Prop)(ρ:BR)(h:List a0f)(K:AV->List a0f->List Nat->Prop):Prop:=
 ∃v w' x h' pg S' ρ',((AL a.eval o).run P w= .ok (.value v) w'\/((AL a.eval o).run P w= .ok .skip w'/\v=Ak))/\
  K x h' pg/\Chg w S ρ h w' S' ρ' h' pg/\VR w' S' ρ' x v
theorem Yld.same {P:Program}{o:Oper}{a:Bf}{w:AW}{S:Nat->Prop}{ρ:BR}{h:List a0f}{K:AV->List a0f->List Nat->Prop}(s:BI w S ρ h){v:AF}{x:AV}
 (hrun:(AL a.eval o).run P w= .ok (.value v) w) (hk:K x h []) (hv:VR w S ρ x v):Yld P o a w S ρ h K:=
 ⟨v,w,x,h,[],S,ρ,.inl hrun,hk,.refl s,hv⟩
section
variable {P:Program} {A:Ann} {ro:Option Nat} {E:Ent} {c:Nat} {o:Oper} {io:IOp} {st:St} {K:AV->List a0f->List Nat->Prop}
 {a:Bf} {w:AW} {S:Nat->Prop} {ρ:BR}
theorem VR.bool {b:Bool}{v:AF}(h:VR w S ρ (.d (.bool b)) v):v= .bool b:=by cases h with|d h=>cases h;rfl
theorem VR.int {k:Bb}{n:IX}{v:AF}(h:VR w S ρ (.d (.int k n)) v):v= .int k n.val:=by cases h with|d h=>cases h;rfl
theorem VR.raw {u v:AF}(h:VR w S ρ (.d (.raw u)) v):v=u:=by cases h with|d h=>cases h;rfl
theorem VR.nil {v:AF}(h:VR w S ρ (.d .nil) v):v= .slice AR 0 0:=by cases h with|d h=>cases h;rfl
theorem d5q {X:AQ}(hop:o.op= .move X\/o.op= .assign X)(hc:a0y P c o=AC io)(hk:a0a (Ag P A ro E) io st K)(hr:BD E st a w S ρ):Yld P o a w S ρ st.h K:=by
 have hc':(a0g X).bind (b0f c)=AC io:=by
  rcases hop with h|h<;>simpa [a0y,h] using hc
 have hrun:(AL a.eval o).run P w= .ok (.value (a.eval X)) w:=by
  rcases hop with h|h<;>simp[AL,h]
 simp only[AB,b0f] at hc';obtain⟨y,hy,hc'⟩:=hc';have hv:=a0t hr.ts hy;split at hc'
 ·cases hc';exact .same hr.sim hrun hk hv
 ·split at hc'
  ·cases hc';have hn:ρ (a3q st.h)=AR:=hr.sim.fresh (by rw[a0u];exact AO _);rw[a0u] at hn;have hv':a.eval X= .slice AR 0 0:=hv.nil;have hρ: ∀m p,ρ m=AC p->(if m=st.h.length then AC (AR,0) else ρ m)=AC p:=by intro m p hm;rw[if_neg (fun e=>by subst e;simp[hn] at hm)];exact hm
   refine⟨_,w,_,_,[],S,fun m=>if m=st.h.length then AC (AR,0) else ρ m,.inl hrun,hk,⟨⟨hr.sim.sblk,fun m ob C hm=> ?_,fun m m' b C C' h1 h2=> ?_,fun m b C ao hm hao hf=> ?_⟩,by simp[a0r],
    ⟨rfl,⟨rfl,AO _⟩,rfl,AO _,fun _ h=>h,fun _ _=>rfl,fun _ h=> .inl h,fun _ _ _=>rfl,fun m b C hm=> ?_⟩,fun m p _ hm=>hρ m p hm,fun m hm _=>if_neg (by omega)⟩,?_⟩
   ·show∃o,(a2u st.h [.arr c 0 fun _=>[]])[m]? =AC o/\_;rw[a0r];by_cases e:m=st.h.length
    ·rw[if_pos e] at hm;cases hm;exact⟨_,by rw[e];simp,rfl,c,fun _=>[],.inl rfl⟩
    ·rw[if_neg e] at hm;obtain⟨o',h1,h2⟩:=hr.sim.obj m ob C hm;refine⟨o',by rw[AE (AA.1 h1).1];exact h1,?_⟩;cases ob with
     |none=>exact h2
     |some b=>exact a0z.mono (fun _ h=>h) (fun _ _=>rfl) hρ rfl h2
   ·by_cases e1:m=st.h.length
    ·rw[if_pos e1] at h1;cases h1
    ·by_cases e2:m'=st.h.length
     ·rw[if_pos e2] at h2;cases h2
     ·rw[if_neg e1] at h1;rw[if_neg e2] at h2;exact hr.sim.inj m m' b C C' h1 h2
   ·by_cases e1:m=st.h.length
    ·rw[if_pos e1] at hm;cases hm
    ·rw[if_neg e1] at hm;obtain⟨o',h1,h2⟩:=hr.sim.obj m _ C hm;have hao:(a2u st.h [.arr c 0 fun _=>[]])[m]? =AC ao:=hao;rw[a0r,AE (AA.1 h1).1] at hao;exact hr.sim.own m b C ao hm hao hf
   ·by_cases e1:m=st.h.length
    ·rw[if_pos e1] at hm;cases hm
    ·rw[if_neg e1] at hm;exact .inr ⟨m,C,hm⟩
   ·rw[hv',a0u];exact .msl _ _ AR 0 A4 AR 0 0 AR (by simp) (by simp) (by simp) (by simp)
  ·cases hc'
theorem e4o {C X Y:AQ}(hop:o.op= .pick C X Y)(hc:a0y P c o=AC io)(hk:a0a (Ag P A ro E) io st K)(hr:BD E st a w S ρ):Yld P o a w S ρ st.h K:=by
 simp[a0y,hop,AB] at hc;obtain⟨x,hx,y,hy,z,hz,rfl⟩:=hc;have h0:=a0t hr.ts hx;have h1:=a0t hr.ts hy;have h2:=a0t hr.ts hz;simp only[a0a,e0h] at hk;split at hk
 ·rename_i b hb;rw[hb] at h0;have hC:=h0.bool;cases b with
  |true=>exact .same hr.sim (by simp[AL,hop,hC,asBool]) hk h1
  |false=>exact .same hr.sim (by simp[AL,hop,hC,asBool]) hk h2
 ·exact hk.elim
theorem a4y {v:AF}{zs:List DV}(h:d2l v=AC zs):zs.length=v.cells.size/\ ∀(w:AW) (S:Nat->Prop) (i:Nat) (x:DV) (u:AF),zs[i]? =AC x->v.cells[i]? =AC u->BE w S x u:=by obtain⟨h1,h2⟩:=b3z h;refine⟨by simpa using h1,fun w S i x u hx hu=> ?_⟩;obtain⟨y,hy,hf⟩:=h2 i u (by simpa using hu);rw[hx] at hy;cases hy;exact c9l hf
theorem a5f {t:AJ}{zs:List DV}(h:a5d P t=AC zs): ∃i z,P.info? t=AC i/\i.zero=AC z/\d2l z=AC zs:=by simp[a5d,AB] at h;obtain⟨i,hi,z,hz,hd⟩:=h;exact⟨i,z,hi,hz,hd⟩
theorem a3m {t:AJ}{i:TypeInfo}{z:AF}(hi:P.info? t=AC i)(hz:i.zero=AC z):(zeroValue t).run P w= .ok z w:=by simp[zeroValue,An,hi,hz]
theorem d8p {t:AJ}(hop:o.op= .alloc t)(hc:a0y P c o=AC io)(hk:a0a (Ag P A ro E) io st K)(hr:BD E st a w S ρ):Yld P o a w S ρ st.h K:=by
 simp[a0y,hop,AB] at hc;obtain⟨zs,hz,rfl⟩:=hc;obtain⟨i,z,hi,hz0,hd⟩:=a5f hz;obtain⟨hl,hv⟩:=a4y hd;have hn:ρ st.h.length=AR:=hr.sim.fresh (AO _);simp only[a0a,a0u,a0r,a5m] at hk;refine⟨.pointer (AC ⟨w.heap.size,0,AR⟩),{w with heap:=w.heap.push (.cells z.cells t)},_,_,[],S,_,.inl ?_,hk,Chg.new hr.sim hn (.cells z.cells t) (.var (zs.map .d)) 0 (fun w' hw'=>⟨z.cells,t,?_,by simp[hl],?_⟩),.ptr _ 0 w.heap.size 0 (by simp)⟩
 ·simp[AL,hop,Instr.alloc,newVar,BH,a3m hi hz0,BC]
 ·rw[hw'];simp
 ·intro j x u hx hu;simp at hx;obtain⟨y,hy,rfl⟩:=hx;exact .d (hv _ _ j y u hy hu)
theorem a7d {x:AV}{v:AF}(h:VR w S ρ x v)(h1:b5z x.cells=Ax):x.cells.length=v.cells.size/\
 ∀(i:Nat) (y:AV) (u:AF),x.cells[i]? =AC y->v.cells[i]? =AC u->VR w S ρ y u:=by
 have one: ∀{x:AV} {v:AF},VR w S ρ x v->x.cells=[x]->v.cells= #[v]->x.cells.length=v.cells.size/\
  ∀(i:Nat) (y:AV) (u:AF),x.cells[i]? =AC y->v.cells[i]? =AC u->VR w S ρ y u:=by
  intro x v h e1 e2;rw[e1,e2];refine⟨rfl,fun i y u hy hu=> ?_⟩;cases i with
  |zero=>simp at hy hu;subst hy;subst hu;exact h
  |succ i=>simp at hy
 cases h with
 |agg cs vs hl h=>exact⟨hl,h⟩
 |any v=>simp[BO,b5z,A5] at h1
 |und=>simp[BO,b5z,A5] at h1
 |d h=>
  cases h with
  |raw v hv1=>exact one (.d (.raw _ hv1)) rfl (by cases v<;>first|rfl|cases hv1)
  |int k n=>exact one (.d (.int _ _)) rfl rfl
  |bool b=>exact one (.d (.bool _)) rfl rfl
  |str l=>exact one (.d (.str _)) rfl rfl
  |nil=>exact one (.d .nil) rfl rfl
  |sl0 sz e a cap=>exact one (.d (.sl0 _ _ _ _)) rfl rfl
  |sl sz n e b off cap f hb hc hl hv hr=>exact one (.d (.sl sz n e b off cap f hb hc hl hv hr)) rfl rfl
 |tuple cs vs hl h=>simp[BO,b5z,A5] at h1
 |ptr l off b C h=>exact one (.ptr l off b C h) rfl rfl
 |aptr l sz i off b C h=>exact one (.aptr l sz i off b C h) rfl rfl
 |dptr row off b base f hb hv hr=>exact one (.dptr row off b base f hb hv hr) rfl rfl
 |dfs sz n e a h=>exact one (.dfs sz n e a h) rfl rfl
 |msl l sz start len full ob C cap a h hc hcap ha=>exact one (.msl l sz start len full ob C cap a h hc hcap ha) rfl rfl
 |vsl l off n b C cap h hc=>exact one (.vsl l off n b C cap h hc) rfl rfl
 |map l b C h=>exact one (.map l b C h) rfl rfl
 |fn f first cap us vs hl1 h1' hl h=>exact one (.fn f first cap us vs hl1 h1' hl h) rfl rfl
 |ge m n h=>exact one (.ge m n h) rfl rfl
 |yl l b C h=>exact one (.yl l b C h) rfl rfl
theorem f1z {t:AJ}{X:AQ}(hop:o.op= .box t X)(hc:a0y P c o=AC io)(hk:a0a (Ag P A ro E) io st K)(hr:BD E st a w S ρ):Yld P o a w S ρ st.h K:=by
 simp[a0y,hop,AB] at hc;obtain⟨x,hx,rfl⟩:=hc;have h0:=a0t hr.ts hx;have hn:ρ st.h.length=AR:=hr.sim.fresh (AO _);simp only[a0a,a0u,a0r] at hk;split at hk
 ·rename_i h1;obtain⟨hl,hv⟩:=a7d h0 h1;refine⟨.pointer (AC ⟨w.heap.size,0,AR⟩),{w with heap:=w.heap.push (.cells (a.eval X).cells t)},_,_,[],S,_,.inl ?_,hk,
   Chg.new hr.sim hn (.cells (a.eval X).cells t) (.var (opd st.ts x).cells) 0 (fun w' hw'=>⟨(a.eval X).cells,t,?_,hl.symm,?_⟩),.ptr _ 0 w.heap.size 0 (by simp)⟩
  ·simp[AL,hop,Instr.box,newVar,BH,BC]
  ·rw[hw'];simp
  ·intro j y u hy hu;refine (hv j y u hy hu).mono (fun _ h=>h) (fun b hb=> ?_) (fun _ _ h=>h);rw[hw',Ar,if_neg];have:=hr.sim.sblk b hb;omega
 ·exact hk.elim
theorem d5w {t:AJ}{ag:Option Nat}(h:d3e P t=AC ag):
 (Bc t).run P w= .ok ag.isSome w/\ ∀n,ag=AC n->(sizeOf t).run P w= .ok n w:=by
 simp[d3e,AB] at h;obtain⟨d,hd,h⟩:=h;have hu:(underlying t).run P w= .ok d w:=AG hd w;have hsz: ∀n,b1y P t=AC n->(sizeOf t).run P w= .ok n w:=by intro n hn;simp[b1y] at hn;obtain⟨i,hi,rfl⟩:=hn;simp[sizeOf,An,hi]
 split at h
 ·simp[AB] at h;obtain⟨n,hn,rfl⟩:=h;exact⟨by simp[Bc,hu],fun m hm=>by cases hm;exact hsz n hn⟩
 ·simp[AB] at h;obtain⟨n,hn,rfl⟩:=h;exact⟨by simp[Bc,hu],fun m hm=>by cases hm;exact hsz n hn⟩
 ·cases h;rename_i h1 h2;refine⟨?_,fun n hn=>by cases hn⟩;simp only[Bc,Al,hu,AY];cases d<;>first|rfl|(exact absurd rfl (h1 _))|(exact absurd rfl (h2 _ _))
theorem a1n (b off i:Nat):(⟨b,off,AR⟩:A7).add i=⟨b,off+i,AR⟩:=by unfold Addr.add;split<;>simp_all
theorem a6i {t:AJ}{ag:Option Nat}(h:d3e P t=AC ag){b off:Nat}(f:Nat->AF):
 (match ag with
  |none=>w.cell? ⟨b,off,AR⟩=AC (f 0)->(Aq t ⟨b,off,AR⟩).run P w= .ok (f 0) w
  |some n=>(∀j,j<n->w.cell? ⟨b,off+j,AR⟩=AC (f j))->(Aq t ⟨b,off,AR⟩).run P w= .ok (.agg ((List.range n).map f).toArray) w):=by
 obtain⟨h1,h2⟩:=d5w (w:=w) h;cases ag with
 |none=>intro hc;simp[Aq,h1,hc]
 |some n=>intro hc;have:=BX (P:=P) w ⟨b,off,AR⟩ n f (fun j hj=>by rw[a1n];exact hc j hj);simp[Aq,h1,h2 n rfl,this]
theorem a3o {t:AJ}{ag:Option Nat}(h:d3e P t=AC ag){b base off:Nat}{cs:List AV}(hcs: ∀j x,cs[j]? =AC x-> ∃v,w.cell? ⟨b,base+j,AR⟩=AC v/\VR w S ρ x v)
 {x:AV} (hx:match ag with|none=>a1a cs off=AC x|some n=> ∃c,b0o cs off n=AC c/\x= .agg c):
 ∃v,(Aq t ⟨b,base+off,AR⟩).run P w= .ok v w/\VR w S ρ x v:=by
 cases ag with
 |none=>simp only[a0i] at hx;obtain⟨v,hv,hvr⟩:=hcs off x hx;exact⟨v,a6i h (b:=b) (off:=base+off) (fun _=>v) hv,hvr⟩
 |some n=>
  obtain⟨cc,hcut,rfl⟩:=hx;obtain⟨hl,hget⟩:=c0t _ _ _ _ hcut;have hex: ∀j,∃v,j<n->w.cell? ⟨b,base+off+j,AR⟩=AC v/\ ∀y,cc[j]? =AC y->VR w S ρ y v:=by
   intro j;by_cases hj:j<n
   ·have h1:=hget j hj;have: ∃y,cc[j]? =AC y:=⟨cc[j]'(by omega),Ai (by omega)⟩;obtain⟨y,hy⟩:=this;rw[hy] at h1;obtain⟨v,hv,hvr⟩:=hcs (off+j) y h1.symm;exact⟨v,fun _=>⟨by rw[At];exact hv,fun y' hy'=>by rw[hy] at hy';cases hy';exact hvr⟩⟩
   ·exact⟨Ak,fun h=>absurd h hj⟩
  have hch:=fun j=>(hex j).choose_spec;refine⟨_,a6i h (b:=b) (off:=base+off) (fun j=>(hex j).choose) (fun j hj=>(hch j hj).1),.agg _ _ (by simp[hl]) fun i y v hy hv=> ?_⟩;have hi:i<n:=by have:=(AA.1 hy).1;omega
  simp[BA hi] at hv;subst hv;exact (hch i hi).2 y hy
theorem c1x (l:List DV)(p m:Nat)(r:List DV)(h:b0o l p m=AC r):b0o (l.map Bg) p m=AC (r.map Bg):=by
 induction l generalizing p m r with
 |nil=>cases p<;>cases m<;>simp_all [b0o]
 |cons z l ih=>
  cases p with
  |zero=>
   cases m with
   |zero=>simp[b0o] at h⊢;exact h
   |succ m=>
    simp only[b0o,BJ] at h⊢;cases hr:b0o l 0 m with
    |none=>simp[hr] at h
    |some r'=>simp[hr] at h;subst h;simp[ih 0 m r' hr]
  |succ p=>simp only[b0o,BJ] at h⊢;exact ih p m r h
theorem c1s {h:List a0f}{p:AV}{pv:AF}{t:AJ}{ag:Option Nat}{K:AV->Prop}(hs:BI w S ρ h)(h0:VR w S ρ p pv)(hag:d3e P t=AC ag)
 (hk:a8s (Ag P A ro E) h p ag K): ∃y v pa,pv= .pointer (AC pa)/\(Aq t pa).run P w= .ok v w/\VR w S ρ y v/\K y:=by
 have fin: ∀{y:AV} {pa:A7},pv= .pointer (AC pa)->(∃v,(Aq t pa).run P w= .ok v w/\VR w S ρ y v)->K y->
  ∃y v pa,pv= .pointer (AC pa)/\(Aq t pa).run P w= .ok v w/\VR w S ρ y v/\K y:=
  fun hp ⟨v,hv,hvr⟩ hk=>⟨_,v,_,hp,hv,hvr,hk⟩
 unfold a8s at hk;cases h0 with
 |ptr l off b C hl=>
  simp only[a0i] at hk;obtain⟨oo,h1,h2⟩:=hs.obj l _ C hl;cases oo with
  |var cs=>
   simp only[h1] at hk;obtain⟨vs,ty,h3,h4,h5⟩:=h2;have hcs: ∀j x,cs[j]? =AC x-> ∃v,w.cell? ⟨b,0+j,AR⟩=AC v/\VR w S ρ x v:=by intro j x hj;have hlt:=(AA.1 hj).1;refine⟨vs[j]'(by omega),?_,h5 j x _ hj (by simp[h4,hlt])⟩;rw[Au h3];simp[h4,hlt]
   cases ag with
   |none=>
    simp only at hk;split at hk
    ·rename_i y hy;refine fin rfl ?_ hk;have:=a3o hag (b:=b) (base:=0) (off:=off) hcs (x:=y) (by simpa [a0i] using hy);simpa using this
    ·exact hk.elim
   |some n=>
    simp only at hk;split at hk
    ·rename_i y hy;refine fin rfl ?_ hk;have:=a3o hag (b:=b) (base:=0) (off:=off) hcs (x:= .agg y) ⟨y,hy,rfl⟩;simpa using this
    ·exact hk.elim
  |_=>simp only[h1] at hk
 |aptr l sz i off b C hl=>
  simp only[a0i] at hk;obtain⟨oo,h1,h2⟩:=hs.obj l _ C hl;have row: ∀{sz' n:Nat} {e:Nat->List DV} {vs:Array AF} {ty:AJ} {fr:Nat×Nat},sz=sz'->i<n->w.heap[b]? =AC (.cells vs ty fr)->vs.size=C*sz'->n<=C->
   (∀i,i<n->(e i).length=sz'/\ ∀(j:Nat) (x:DV) (v:AF),(e i)[j]? =AC x->vs[i*sz'+j]? =AC v->BE w S x v)->
   a8i (e i) off ag K-> ∃y v pa,Value.pointer (AC ⟨b,i*sz+off,AR⟩)= .pointer (AC pa)/\(Aq t pa).run P w= .ok v w/\VR w S ρ y v/\K y:=by
   intro sz' n e vs ty fr hsz hin h3 h4 h5 h6 hk;subst hsz;obtain⟨h7,h8⟩:=h6 i hin;have hcs: ∀j x,((e i).map Bg)[j]? =AC x-> ∃v,w.cell? ⟨b,i*sz+j,AR⟩=AC v/\VR w S ρ x v:=by
    intro j x hj;simp at hj;obtain⟨y,hy,rfl⟩:=hj;have hlt:=(AA.1 hy).1;have hb:i*sz+j<vs.size:=by rw[h4];have:(i+1)*sz<=C*sz:=AH _ (by omega);rw[AK] at this;omega
    refine⟨vs[i*sz+j],?_,.d (h8 j y _ hy (by simp[hb]))⟩;rw[Au h3];simp[hb]
   unfold a8i at hk;cases ag with
   |none=>
    simp only at hk;split at hk
    ·rename_i y hy;refine fin rfl ?_ hk;exact a3o hag (b:=b) (base:=i*sz) (off:=off) hcs (x:= .d y) (by simp[a0i] at hy⊢;exact hy)
    ·exact hk.elim
   |some n=>
    simp only at hk;split at hk
    ·rename_i y hy;refine fin rfl ?_ hk;refine a3o hag (b:=b) (base:=i*sz) (off:=off) hcs (x:= .agg (b3y .d y)) ⟨b3y .d y,?_,rfl⟩;rw[a5m];exact c1x _ _ _ _ hy
    ·exact hk.elim
  cases oo with
  |arr sz' n e=>
   simp only[h1] at hk;split at hk
   ·rename_i hsz;obtain⟨vs,ty,h3,h4,h5,h6⟩:=h2;obtain⟨hin,hk⟩:(i<n)/\_:=hk;exact row (AD hsz) hin h3 h4 h5 h6 hk
   ·exact hk.elim
  |frz sz' n e=>
   simp only[h1] at hk;split at hk
   ·rename_i hsz;obtain⟨_,vs,ty,fr,h3,h4,h5,h6⟩:=h2;obtain⟨hin,hk⟩:(i<n)/\_:=hk;exact row (AD hsz) hin h3 h4 h5 h6 hk
   ·exact hk.elim
  |arrv vals=>
   simp only[h1] at hk;split at hk
   ·rename_i hz;simp only[Ab] at hz;have e1:=AD hz.1;have e2:=AD hz.2;subst e1 e2;cases ag with
    |none=>
     simp only at hk;split at hk
     ·rename_i y hy;obtain⟨vs,ty,h3,h4,h5,h6⟩:=h2;have hcs: ∀j x,vals[j]? =AC x-> ∃v,w.cell? ⟨b,0+j,AR⟩=AC v/\VR w S ρ x v:=by
       intro j x hj;have hlt:=(AA.1 hj).1;have hlt2:j<vs.size:=by omega
       refine⟨vs[j]'hlt2,?_,h6 j x _ hj (by simp[hlt2])⟩;rw[Au h3];simp[hlt2]
      refine fin rfl ?_ hk;have:=a3o hag (b:=b) (base:=0) (off:=i) hcs (x:=y) (by simpa [a0i] using hy);simpa using this
     ·exact hk.elim
    |some n=>exact hk.elim
   ·exact hk.elim
  |_=>simp only[h1] at hk
 |dptr rw' off b base f hb hv hrr=>
  have hcs: ∀j x,(rw'.map Bg)[j]? =AC x-> ∃v,w.cell? ⟨b,base+j,AR⟩=AC v/\VR w S ρ x v:=by intro j x hj;simp at hj;obtain⟨y,hy,rfl⟩:=hj;exact⟨f j,hv j (AA.1 hy).1,.d (hrr j y hy)⟩
  unfold a8i at hk;cases ag with
  |none=>
   simp only at hk;split at hk
   ·rename_i y hy;refine fin rfl ?_ hk;exact a3o hag (b:=b) (base:=base) (off:=off) hcs (x:= .d y) (by simp[a0i] at hy⊢;exact hy)
   ·exact hk.elim
  |some n=>
   simp only at hk;split at hk
   ·rename_i y hy;refine fin rfl ?_ hk;refine a3o hag (b:=b) (base:=base) (off:=off) hcs (x:= .agg (b3y .d y)) ⟨b3y .d y,?_,rfl⟩;rw[a5m];exact c1x _ _ _ _ hy
   ·exact hk.elim
 |_=>exact hk.elim
theorem e3w {t:AJ}{X:AQ}(hop:o.op= .load t X)(hc:a0y P c o=AC io)(hk:a0a (Ag P A ro E) io st K)(hr:BD E st a w S ρ):Yld P o a w S ρ st.h K:=by simp[a0y,hop,AB] at hc;obtain⟨ag,hag,x,hx,rfl⟩:=hc;obtain⟨y,v,pa,hp,hv,hvr,hk⟩:=c1s hr.sim (a0t hr.ts hx) hag hk;exact .same hr.sim (by simp[AL,hop,Instr.loadAt,hp,Ae,hv]) hk hvr
end
section
variable {P:Program} {A:Ann} {ro:Option Nat} {E:Ent} {c:Nat} {o:Oper} {io:IOp} {st:St} {K:AV->List a0f->List Nat->Prop}
 {a:Bf} {w:AW} {S:Nat->Prop} {ρ:BR} {h:List a0f}
theorem a6g (e:Nat->List DV)(s:Option Nat):b8h (Ag P A ro E) e s=fun j=>e (s.getD 0+j):=by
 cases s with
 |none=>funext j;simp[b8h]
 |some s=>rfl
theorem a3n (s:Option Nat)(n:Nat):c8f (Ag P A ro E) s n=s.getD 0+n:=by
 cases s with
 |none=>simp[c8f]
 |some s=>rfl
theorem b1w {b C sz m:Nat}{e:Nat->List DV}{vs:Array AF}{ty:AJ}{fr:Nat×Nat}(h3:w.heap[b]? =AC (.cells vs ty fr))(h4:vs.size=C*sz)(h5:m<=C)
 (h6: ∀i,i<m->(e i).length=sz/\ ∀(j:Nat) (x:DV) (v:AF),(e i)[j]? =AC x->vs[i*sz+j]? =AC v->BE w S x v) {i:Nat} (hi:i<m):
 (e i).length=sz/\ ∀j,j<sz->w.cell? ⟨b,i*sz+j,AR⟩=AC (vs.getD (i*sz+j) Ak)/\ ∀x,(e i)[j]? =AC x->BE w S x (vs.getD (i*sz+j) Ak):=by
 obtain⟨h7,h8⟩:=h6 i hi;refine⟨h7,fun j hj=> ?_⟩;have hb:i*sz+j<vs.size:=by rw[h4];have:(i+1)*sz<=C*sz:=AH _ (by omega);rw[AK] at this;omega
 have hg:vs[i*sz+j]? =AC (vs.getD (i*sz+j) Ak):=by simp[hb]
 exact⟨by rw[Au h3];exact hg,fun x hx=>h8 j x _ hx hg⟩
theorem a8u {ob:Option Nat}{C sz m:Nat}{e:Nat->List DV}{o:a0f}(ho:o= .arr sz m e\/o= .frz sz m e)(hh:c7g w S ρ ob C o)(hm:0<m):
 ∃b vs ty fr,ob=AC b/\w.heap[b]? =AC (.cells vs ty fr)/\vs.size=C*sz/\m<=C/\
  ∀i,i<m->(e i).length=sz/\ ∀(j:Nat) (x:DV) (v:AF),(e i)[j]? =AC x->vs[i*sz+j]? =AC v->BE w S x v:=by
 cases ob with
 |none=>
  obtain⟨_,sz',e',h3|h3⟩:=hh<;>rcases ho with ho|ho<;>subst ho<;>cases h3<;>omega
 |some b=>
  rcases ho with ho|ho
  ·subst ho;obtain⟨vs,ty,h3,h4,h5,h6⟩:=hh;exact⟨b,vs,ty,_,rfl,h3,h4,h5,h6⟩
  ·subst ho;obtain⟨_,vs,ty,fr,h3,h4,h5,h6⟩:=hh;exact⟨b,vs,ty,fr,rfl,h3,h4,h5,h6⟩
theorem d4y {x:AV}{v:AF}{K:Nat->Nat->(Nat->List DV)->Prop}(hs:BI w S ρ h)(h0:VR w S ρ x v)(hk:b3s (Ag P A ro E) h x K):
 ∃sz n e a cap,K sz n e/\v= .slice a n cap/\ ∀S':Nat->Prop,(∀b,S b->S' b)->(∀l sz s n f,x= .msl l sz s n f-> ∀b C,ρ l=AC (AC b,C)->S' b)->BE w S' (.sl sz n e) v:=by
 cases h0 with
 |d h1=>
  cases h1 with
  |sl0 sz e a cap=>exact⟨sz,0,e,a,cap,hk,rfl,fun S' _ _=> .sl0 sz e a cap⟩
  |sl sz n e b off cap f hb hc hl hv hr=>exact⟨sz,n,e,_,_,hk,rfl,fun S' hS _=>(DVR.sl sz n e b off cap f hb hc hl hv hr).mono hS fun _ _=>rfl⟩
  |_=>exact hk.elim
 |dfs sz n e a h1=>exact⟨sz,n,e,_,_,hk,rfl,fun S' hS _=>h1.mono hS fun _ _=>rfl⟩
 |msl l sz s n f ob C cap a hl hc hcap ha=>
  simp only[b3s,a0i] at hk;obtain⟨oo,h1,h2⟩:=hs.obj l ob C hl;rw[h1] at hk;have main: ∀{sz' m:Nat} {e:Nat->List DV},(oo= .arr sz' m e\/oo= .frz sz' m e)->Be sz sz'=Ax->s.getD 0+n<=m->K sz n (fun j=>e (s.getD 0+j))->
   ∃sz1 n1 e1 a' cap',K sz1 n1 e1/\Value.slice a n cap= .slice a' n1 cap'/\ ∀S':Nat->Prop,(∀b,S b->S' b)->(∀l' sz' s' n' f',AV.msl l sz s n f= .msl l' sz' s' n' f'-> ∀b C,ρ l'=AC (AC b,C)->S' b)->BE w S' (.sl sz1 n1 e1) (.slice a n cap):=by
   intro sz' m e ho hsz hle hk;have hsz:=AD hsz;subst hsz;refine⟨sz,n,_,a,cap,hk,rfl,fun S' hS hx=> ?_⟩;by_cases hn:n=0
   ·subst hn;exact .sl0 _ _ _ _
   ·obtain⟨b,vs,ty,fr,rfl,h3,h4,h5,h6⟩:=a8u ho h2 (by omega);have hcp:0<cap:=by rw[hcap];split<;>omega
    rw[ha hcp];have hrow:=fun i (hi:i<n)=>b1w h3 h4 h5 h6 (i:=s.getD 0+i) (by omega);refine .sl sz n _ b (s.getD 0*sz) cap (fun i j=>vs.getD ((s.getD 0+i)*sz+j) Ak) (fun _=>hx _ _ _ _ _ rfl b C hl) (by rw[hcap];split<;>omega) (fun i hi=>(hrow i hi).1) (fun i hi j hj=> ?_) (fun i hi j x hx'=> ?_)
    ·have:=((hrow i hi).2 j hj).1;rw[AK] at this;rw[this,AK]
    ·have hj:j<sz:=by have:=(AA.1 hx').1;rw[(hrow i hi).1] at this;exact this
     exact (((hrow i hi).2 j hj).2 x hx').mono hS fun _ _=>rfl
  cases oo with
  |arr sz' m e=>
   simp only[a3n,a6g] at hk;split at hk
   ·rename_i hsz;obtain⟨hle,hk⟩:(s.getD 0+n<=m)/\_:=hk;exact main (.inl rfl) hsz hle hk
   ·exact hk.elim
  |frz sz' m e=>
   simp only[a3n,a6g] at hk;split at hk
   ·rename_i hsz;obtain⟨hle,hk⟩:(s.getD 0+n<=m)/\_:=hk;exact main (.inr rfl) hsz hle hk
   ·exact hk.elim
  |_=>exact hk.elim
 |_=>exact hk.elim
def e0e (w:AW):Nat->Prop:=fun b=>b<w.heap.size
theorem d4w {x:AV}{v:AF}{K:AV->Prop}(hs:BI w S ρ h)(h0:VR w S ρ x v)(hk:c7s (Ag P A ro E) h x K): ∃x',K x'/\VR w (e0e w) ρ x' v:=by
 have hS: ∀b,S b->e0e w b:=fun b hb=>hs.sblk b hb;have all:VR w (e0e w) ρ x v:=h0.mono hS (fun _ _=>rfl) (fun _ _ h=>h);unfold c7s at hk;split at hk
 ·rename_i l off n;cases h0 with
  |vsl _ _ _ b C cap hρ hcap=>
   obtain⟨oo,h1,h2⟩:=hs.obj l _ C hρ;rw[a0i,h1] at hk;cases oo with
   |var cs=>
    simp only at hk;split at hk
    ·rename_i c hc;split at hk
     ·rename_i ds hds;obtain⟨vs,ty,h3,h4,h5⟩:=h2;obtain⟨hc1,hc2⟩:=c0t _ _ _ _ hc;obtain⟨hd1,hd2⟩:=d1o hds;have hcell: ∀i,i<n-> ∃(x:DV) (u:AF),ds[i]? =AC x/\vs[off+i]? =AC u/\BE w S x u:=by
       intro i hi;have hx:ds[i]? =AC (ds[i]'(by omega)):=Ai _;obtain⟨y,hcs,hy⟩:=hd2 i _ hx;rw[hc2 i hi] at hcs;have hlt:off+i<vs.size:=by rw[h4];exact (AA.1 hcs).1
       have hu:vs[off+i]? =AC vs[off+i]:=Array.getElem?_eq_getElem hlt;exact⟨_,_,hx,hu,hy (h5 _ _ _ hcs hu)⟩
      refine⟨_,hk,.d (.sl 1 n _ b off cap (fun i _=>vs.getD (off+i) Ak) (fun _=>hs.blk hρ) hcap (fun i hi=> ?_) (fun i hi j hj=> ?_) (fun i hi j x hx=> ?_))⟩
      ·obtain⟨x,u,h6,h7,h8⟩:=hcell i hi;rw[a1k,a5m,Ah,h6];rfl
      ·obtain⟨x,u,h6,h7,h8⟩:=hcell i hi;have hj0:j=0:=by omega
       subst hj0;rw[Au h3,BS,Am];rw[h7];simp[Ay,h7]
      ·obtain⟨y,u,h6,h7,h8⟩:=hcell i hi;rw[a1k,a5m,Ah,h6] at hx;have hu:vs.getD (off+i) Ak=u:=by simp[Ay,h7]
       cases j with
       |zero=>simp at hx;subst hx;rw[hu];exact h8.mono hS (fun _ _=>rfl)
       |succ j=>simp at hx
     ·exact hk.elim
    ·exact hk.elim
   |_=>exact hk.elim
 ·obtain⟨sz,n,e,a,cap,h1,_,h2⟩:=d4y hs h0 hk;exact⟨_,h1,.d (h2 _ hS fun l _ _ _ _ _ b C hl=>hs.blk hl)⟩
 ·cases h0 with
  |dfs sz n e a h1=>exact⟨_,hk,.d (h1.mono hS fun _ _=>rfl)⟩
 ·exact⟨_,hk,all⟩
theorem d9i {xs:List AV}(hs:BI w S ρ h): ∀{vs:List AF} {K:List AV->Prop},xs.length=vs.length->(∀(i:Nat) (x:AV) (v:AF),xs[i]? =AC x->vs[i]? =AC v->VR w S ρ x v)->
 c5a (Ag P A ro E) h xs K-> ∃xs',K xs'/\xs'.length=vs.length/\ ∀(i:Nat) (x:AV) (v:AF),xs'[i]? =AC x->vs[i]? =AC v->VR w (e0e w) ρ x v:=by
 induction xs with
 |nil=>intro vs K hl _ hk;exact⟨[],hk,hl,by simp⟩
 |cons x xs ih=>
  intro vs K hl hv hk;cases vs with
  |nil=>simp at hl
  |cons v vs=>
   obtain⟨x',hk,h1⟩:=d4w hs (hv 0 x v (by simp) (by simp)) hk;obtain⟨xs',hk,h2,h3⟩:=ih (by simpa using hl) (fun i y u hy hu=>hv (i+1) y u (by simpa using hy) (by simpa using hu)) hk;refine⟨_,hk,by simp[h2],fun i y u hy hu=> ?_⟩;cases i with
   |zero=>simp at hy hu;subst hy;subst hu;exact h1
   |succ i=>simp at hy hu;exact h3 i y u hy hu
theorem d9k {xs:List AV}(hs:BI w S ρ h): ∀{vs:List AF} {K:List AV->Prop},xs.length=vs.length->(∀(i:Nat) (x:AV) (v:AF),xs[i]? =AC x->vs[i]? =AC v->VR w S ρ x v)->
 b0n (Ag P A ro E) h xs K-> ∃xs',K xs'/\xs'.length=vs.length/\ ∀(i:Nat) (x:AV) (v:AF),xs'[i]? =AC x->vs[i]? =AC v->VR w (e0e w) ρ x v:=by
 induction xs with
 |nil=>intro vs K hl _ hk;exact⟨[],hk,hl,by simp⟩
 |cons x xs ih=>
  intro vs K hl hv hk;cases vs with
  |nil=>simp at hl
  |cons v vs=>
   have h0:=hv 0 x v (by simp) (by simp);have hx: ∃x',VR w (e0e w) ρ x' v/\b0n (Ag P A ro E) h xs fun r'=>K (x'::r'):=by
    unfold b0n at hk;split at hk
    ·rename_i heq;cases heq
    ·rename_i heq;cases heq;cases h0 with
     |agg cs us hl' h'=>obtain⟨cs',hk,h2,h3⟩:=d9i hs (vs:=us.toList) (by simpa using hl') (fun i y u hy hu=>h' i y u hy (by simpa using hu)) hk;exact⟨_,.agg cs' us (by simpa using h2) (fun i y u hy hu=>h3 i y u hy (by simpa using hu)),hk⟩
    ·rename_i heq;cases heq;obtain⟨x',hk,h1⟩:=d4w hs h0 hk;exact⟨x',h1,hk⟩
   obtain⟨x',h1,hk⟩:=hx;obtain⟨xs',hk,h2,h3⟩:=ih (by simpa using hl) (fun i y u hy hu=>hv (i+1) y u (by simpa using hy) (by simpa using hu)) hk;refine⟨_,hk,by simp[h2],fun i y u hy hu=> ?_⟩;cases i with
   |zero=>simp at hy hu;subst hy;subst hu;exact h1
   |succ i=>simp at hy hu;exact h3 i y u hy hu
structure Frz (w:AW)(S:Nat->Prop)(ρ:BR)(h:List a0f)(S':Nat->Prop)(h':List a0f):Prop where
 sim:BI w S' ρ h'
 len:h.length=h'.length
 mono: ∀b,S b->S' b
 news: ∀b,S' b->S b\/ ∃l C,ρ l=AC (AC b,C)
theorem Frz.refl (hs:BI w S ρ h):Frz w S ρ h S h:=⟨hs,rfl,fun _ h=>h,fun _ h=> .inl h⟩
theorem Frz.trans {S' S'':Nat->Prop}{h' h'':List a0f}(k:Frz w S ρ h S' h')(k':Frz w S' ρ h' S'' h''):Frz w S ρ h S'' h'':=
 ⟨k'.sim,k.len.trans k'.len,fun b hb=>k'.mono b (k.mono b hb),fun b hb=>by
   rcases k'.news b hb with h|h
   ·exact k.news b h
   ·exact .inr h⟩
theorem Frz.chg {S':Nat->Prop}{h':List a0f}(k:Frz w S ρ h S' h'):Chg w S ρ h w S' ρ h' []:=
 ⟨k.sim,by rw[k.len];exact AO _,⟨rfl,⟨rfl,AO _⟩,rfl,AO _,k.mono,fun _ _=>rfl,fun b hb=>by
   rcases k.news b hb with h|h
   ·exact .inl h
   ·exact .inr (.inr h),fun _ _ _=>rfl,fun l b C hl=> .inr ⟨l,C,hl⟩⟩,fun _ _ _ h=>h,fun _ _ _=>rfl⟩
theorem Frz.vr {S':Nat->Prop}{h':List a0f}(k:Frz w S ρ h S' h'){x:AV}{v:AF}(hv:VR w S ρ x v):VR w S' ρ x v:=hv.mono k.mono (fun _ _=>rfl) (fun _ _ h=>h)
theorem b0b {x:AV}{v:AF}{K:AV->List a0f->Prop}(hs:BI w S ρ h)(h0:VR w S ρ x v)(hk:a2m (Ag P A ro E) h x K):
 ∃x' h' S',K x' h'/\Frz w S ρ h S' h'/\VR w S' ρ x' v:=by
 unfold a2m at hk;split at hk
 ·rename_i l sz s n f;obtain⟨sz1,n1,e1,a1,cap1,hk,_,h2⟩:=d4y hs h0 hk;simp only[a0i,a0l] at hk;split at hk
  ·rename_i sz' m e' hl;cases h0 with
   |msl _ _ _ _ _ ob C cap a hρ hc hcap ha=>
    have k:=Chg.frz hs hρ hl;refine⟨_,_,_,hk,⟨k.sim,by simp,fun _ h=> .inl h,fun b hb=> ?_⟩,.d (h2 _ (fun _ h=> .inl h) fun l' _ _ _ _ hx b C' hl'=> ?_)⟩
    ·rcases hb with hb|hb
     ·exact .inl hb
     ·subst hb;exact .inr ⟨l,C,hρ⟩
    ·cases hx;rw[hρ] at hl';cases hl';exact .inr rfl
  ·rename_i hl;have hv: ∀b C,ρ l=AC (AC b,C)->S b:=by
    intro b C hb;obtain⟨oo,h3,h4⟩:=hs.obj l _ C hb;cases oo with
    |arr sz' m e'=>exact absurd h3 (hl sz' m e')
    |frz sz' m e'=>exact h4.1
    |_=>simp only[b3s,a0i,h3] at*
   exact⟨_,_,S,hk,.refl hs,.d (h2 S (fun _ h=>h) fun l' _ _ _ _ hx b C' hl'=>by cases hx;exact hv b C' hl')⟩
 ·cases h0 with
  |dfs sz n e a h1=>exact⟨_,_,S,hk,.refl hs,.d h1⟩
 ·exact⟨_,_,S,hk,.refl hs,h0⟩
end
section
variable {P:Program} {A:Ann} {ro:Option Nat} {E:Ent} {c:Nat} {o:Oper} {io:IOp} {st:St} {K:AV->List a0f->List Nat->Prop}
 {a:Bf} {w:AW} {S:Nat->Prop} {ρ:BR}
theorem a5l {xs:List AV}: ∀{h:List a0f} {S:Nat->Prop} {vs:List AF} {K:List AV->List a0f->Prop},BI w S ρ h->xs.length=vs.length->
 (∀(i:Nat) (x:AV) (v:AF),xs[i]? =AC x->vs[i]? =AC v->VR w S ρ x v)->
 a3t (Ag P A ro E) h xs K-> ∃xs' h' S',K xs' h'/\Frz w S ρ h S' h'/\xs'.length=vs.length/\ ∀(i:Nat) (x:AV) (v:AF),xs'[i]? =AC x->vs[i]? =AC v->VR w S' ρ x v:=by
 induction xs with
 |nil=>intro h S vs K hs hl _ hk;exact⟨[],h,S,hk,.refl hs,hl,by simp⟩
 |cons x xs ih=>
  intro h S vs K hs hl hv hk;cases vs with
  |nil=>simp at hl
  |cons v vs=>
   obtain⟨x',h1,S1,hk,k1,hv1⟩:=b0b hs (hv 0 x v (by simp) (by simp)) hk;obtain⟨xs',h2,S2,hk,k2,hl2,hv2⟩:=ih k1.sim (by simpa using hl) (fun i y u hy hu=>k1.vr (hv (i+1) y u (by simpa using hy) (by simpa using hu))) hk;refine⟨_,h2,S2,hk,k1.trans k2,by simp[hl2],fun i y u hy hu=> ?_⟩;cases i with
   |zero=>simp at hy hu;subst hy;subst hu;exact k2.vr hv1
   |succ i=>simp at hy hu;exact hv2 i y u hy hu
theorem b2b {h:List a0f}{l:Nat}{v:AF}{K:AV->List a0f->Prop}(hs:BI w S ρ h)(h0:VR w S ρ (.ptr l 0) v)(hk:a2p (Ag P A ro E) h l K):
 ∃x' h' S',K x' h'/\Frz w S ρ h S' h'/\VR w S' ρ x' v:=by
 cases h0 with
 |ptr _ _ b C hρ=>
  obtain⟨o,ho,hh⟩:=hs.obj l _ C hρ;unfold a2p at hk;rw[a0i,ho] at hk;split at hk
  ·rename_i cs heq;cases heq;obtain⟨vs,ty,h1,h2,h3⟩:=hh;obtain⟨cs',h',S',hk,k,hl',hv'⟩:=a5l (vs:=vs.toList) hs (by simpa using h2.symm) (fun i x v hx hv=>h3 i x v hx (by simpa using hv)) hk;split at hk
   ·rename_i row hd;obtain⟨d1,d2⟩:=d1o hd;have hlt:l<h'.length:=by rw[<-k.len];exact (AA.1 ho).1
    rw[a0l] at hk;have hnew:BI w (fun x=>S' x\/x=b) ρ (h'.set l .gone):=by
     refine⟨fun x hx=> ?_,fun m ob C' hm=> ?_,k.sim.inj,fun m x C' o hm ho' hf=> ?_⟩
     ·rcases hx with hx|rfl
      ·exact k.sim.sblk x hx
      ·exact hs.blk hρ
     ·by_cases e:m=l
      ·subst e;rw[hρ] at hm;cases hm;exact⟨.gone,by simp[hlt],.inr rfl⟩
      ·obtain⟨o1,h4,h5⟩:=k.sim.obj m ob C' hm;refine⟨o1,by rw[Ad (Ne.symm e)];exact h4,?_⟩;cases ob with
       |none=>exact h5
       |some x=>exact a0z.mono (fun _ h=> .inl h) (fun _ _=>rfl) (fun _ _ h=>h) rfl h5
     ·by_cases e:m=l
      ·subst e;have ho':(h'.set m .gone)[m]? =AC o:=ho';rw[A6 hlt] at ho';cases ho';cases hf
      ·have ho':(h'.set l .gone)[m]? =AC o:=ho';rw[Ad (Ne.symm e)] at ho';rintro (hx|rfl)
       ·exact k.sim.own m x C' o hm ho' hf hx
       ·exact e (k.sim.inj m l _ C' C hm hρ)
    refine⟨_,_,fun x=>S' x\/x=b,hk,⟨hnew,by simp[k.len],fun x hx=> .inl (k.mono x hx),fun x hx=> ?_⟩,?_⟩
    ·rcases hx with hx|rfl
     ·exact k.news x hx
     ·exact .inr ⟨l,C,hρ⟩
    ·have hlen:row.length=vs.size:=by rw[d1,hl'];simp
     refine .dptr row 0 b 0 (fun j=>vs.getD j Ak) (.inr rfl) (fun j hj=> ?_) (fun j x hx=> ?_)
     ·rw[BP,Au h1];simp[show j<vs.size by omega]
     ·obtain⟨y,hy,hd⟩:=d2 j x hx;have hj:j<vs.size:=by rw[<-hlen];exact (AA.1 hx).1
      exact Av (fun _ h=> .inl h) (fun _ _=>rfl) (hd (hv' j y _ hy (by simp[hj])))
   ·exact hk.elim
  ·exact hk.elim
theorem b1x {xs:List AV}: ∀{h:List a0f} {S:Nat->Prop} {vs:List AF} {K:List AV->List a0f->Prop},BI w S ρ h->xs.length=vs.length->
 (∀(i:Nat) (x:AV) (v:AF),xs[i]? =AC x->vs[i]? =AC v->VR w S ρ x v)->
 a1w (Ag P A ro E) h xs K-> ∃xs' h' S',K xs' h'/\Frz w S ρ h S' h'/\xs'.length=vs.length/\ ∀(i:Nat) (x:AV) (v:AF),xs'[i]? =AC x->vs[i]? =AC v->VR w S' ρ x v:=by
 induction xs with
 |nil=>intro h S vs K hs hl _ hk;exact⟨[],h,S,hk,.refl hs,hl,by simp⟩
 |cons x xs ih=>
  intro h S vs K hs hl hv hk;cases vs with
  |nil=>simp at hl
  |cons v vs=>
   have h0:=hv 0 x v (by simp) (by simp);have hx: ∃x' h1 S1,VR w S1 ρ x' v/\Frz w S ρ h S1 h1/\a1w (Ag P A ro E) h1 xs fun r' h''=>K (x'::r') h'':=by
    unfold a1w at hk;split at hk
    ·rename_i heq;cases heq
    ·rename_i heq;cases heq;cases h0 with
     |agg cs us hl' h'=>obtain⟨cs',h1,S1,hk,k1,h2,h3⟩:=a5l hs (vs:=us.toList) (by simpa using hl') (fun i y u hy hu=>h' i y u hy (by simpa using hu)) hk;exact⟨_,h1,S1,.agg cs' us (by simpa using h2) (fun i y u hy hu=>h3 i y u hy (by simpa using hu)),k1,hk⟩
    ·rename_i heq;cases heq;obtain⟨x',h1,S1,hk,k1,h2⟩:=b2b hs h0 hk;exact⟨x',h1,S1,h2,k1,hk⟩
    ·rename_i heq;cases heq;obtain⟨x',h1,S1,hk,k1,h2⟩:=b0b hs h0 hk;exact⟨x',h1,S1,h2,k1,hk⟩
   obtain⟨x',h1,S1,hv1,k1,hk⟩:=hx;obtain⟨xs',h2,S2,hk,k2,hl2,hv2⟩:=ih k1.sim (by simpa using hl) (fun i y u hy hu=>k1.vr (hv (i+1) y u (by simpa using hy) (by simpa using hu))) hk;refine⟨_,h2,S2,hk,k1.trans k2,by simp[hl2],fun i y u hy hu=> ?_⟩;cases i with
   |zero=>simp at hy hu;subst hy;subst hu;exact k2.vr hv1
   |succ i=>simp at hy hu;exact hv2 i y u hy hu
theorem d3o {h:List a0f}{x:AV}{v:AF}{K:List DV->List a0f->Prop}(hs:BI w S ρ h)(h0:VR w S ρ x v)(h1:b5z x.cells=Ax)(hk:b0p (Ag P A ro E) h x K):
 ∃l h' S',K l h'/\Frz w S ρ h S' h'/\l.length=v.cells.size/\ ∀(i:Nat) (x:DV) (u:AF),l[i]? =AC x->v.cells[i]? =AC u->BE w S' x u:=by
 obtain⟨hl,hv⟩:=a7d h0 h1;obtain⟨cs,h',S',hk,k,hl2,hv2⟩:=a5l hs (vs:=v.cells.toList) (by simpa using hl) (fun i y u hy hu=>hv i y u hy (by simpa using hu)) hk;split at hk
 ·rename_i l hl';obtain⟨h3,h4⟩:=d1o hl';refine⟨l,h',S',hk,k,by rw[h3,hl2];simp,fun i x u hx hu=> ?_⟩;obtain⟨y,hy,hyr⟩:=h4 i x hx;exact hyr (hv2 i _ u hy (by simpa using hu))
 ·exact hk.elim
theorem d5p {cs:List AV}(h:b5z cs=Ax): ∀x,x∈cs->x.one=Ax:=by
 induction cs with
 |nil=>simp
 |cons c cs ih=>
  simp only[b5z] at h;split at h
  ·rename_i h1;intro x hx;rcases List.mem_cons.1 hx with rfl|hx
   ·exact h1
   ·exact ih h x hx
  ·cases h
theorem DVR.one {x:DV}{v:AF}(h:BE w S x v):v.oneCell'=Ax:=by
 cases h with
 |raw v h=>exact h
 |_=>rfl
theorem e1z {x:AV}{v:AF}(h:VR w S ρ x v)(h1:x.one=Ax):v.oneCell'=Ax:=by
 cases h with
 |d h=>
  cases h with
  |raw v h=>exact h
  |_=>rfl
 |any v=>simp[A5] at h1
 |und=>simp[A5] at h1
 |agg cs vs hl h=>simp[A5] at h1
 |tuple cs vs hl h=>simp[A5] at h1
 |_=>rfl
theorem a7p {b:Nat}{cs old:Array AF}{ty:AJ}{fr:Nat×Nat}(h:w.heap[b]? =AC (.cells old ty fr)):
 (w.setRow b cs).os=w.os/\((w.setRow b cs).tape=w.tape/\w.drawn<=(w.setRow b cs).drawn)/\(w.setRow b cs).output=w.output/\(w.setRow b cs).heap.size=w.heap.size/\
   (w.setRow b cs).heap[b]? =AC (.cells cs ty fr)/\ ∀k,k≠b->(w.setRow b cs).heap[k]? =w.heap[k]? :=by
 refine⟨rfl,⟨rfl,AO _⟩,rfl,by simp[World.setRow],setRow_heap w b old cs ty fr h,fun k hk=> ?_⟩;simp only[World.setRow,Array.getElem?_modify];rw[if_neg (Ne.symm hk)]
theorem a5r {t:AJ}{sz:Nat}(hsz:b1y P t=AC sz){b off:Nat}{old:Array AF}{ty:AJ}{v:AF}(hb:w.heap[b]? =AC (.cells old ty (0,0)))
 (hv:v.cells.size=sz) (hle:off+sz<=old.size) (h1: ∀u,u∈v.cells.toList->u.oneCell'=Ax):
 (BV t ⟨b,off,AR⟩ v).run P w= .ok () (w.setRow b (old.toList.take off++v.cells.toList++old.toList.drop (off+v.cells.toList.length)).toArray):=by
 have hs:(sizeOf t).run P w= .ok sz w:=by simp[b1y] at hsz;obtain⟨i,hi,rfl⟩:=hsz;simp[sizeOf,An,hi]
 have:=BK (P:=P) b off ty v.cells.toList 0 old w hb (by simpa [hv] using hle) h1;simp only[Am] at this;simp[BV,hs,hv,this]
theorem i1v {x:Option a0f}{vals:List AV}(h:h9m x=AC vals):x=AC (.arrv vals):=by
 unfold h9m at h;split at h
 ·cases h;rfl
 ·cases h
theorem d8r {t:AJ}{X Y:AQ}(hop:o.op= .store t X Y)(hc:a0y P c o=AC io)(hk:a0a (Ag P A ro E) io st K)(hr:BD E st a w S ρ):Yld P o a w S ρ st.h K:=by
 simp[a0y,hop,AB] at hc;obtain⟨sz,hsz,x,hx,y,hy,rfl⟩:=hc;have h0:=a0t hr.ts hx;have h1:=a0t hr.ts hy;simp only[a0a] at hk;have fin: ∀{pa:A7} {w':AW},a.eval X= .pointer (AC pa)->(BV t pa (a.eval Y)).run P w= .ok () w'->(AL a.eval o).run P w= .ok .skip w':=by intro pa w' hp hst;simp[AL,hop,Instr.storeAt,hp,Ae,hst]
 revert hk fin h0 h1;generalize opd st.ts x=p;generalize opd st.ts y=q;generalize a.eval X=pv;generalize a.eval Y=v;intro hk h0 h1 fin;unfold a6o at hk;split at hk
 ·rename_i l off;split at hk
  ·rename_i hch;simp only[Ab,a0u] at hch;obtain⟨hlen,hon⟩:=hch;have hlen:=AD hlen;simp only[a0i,a0l] at hk;split at hk
   ·rename_i cs hl;split at hk
    ·rename_i cs' hput;obtain⟨hle,rfl⟩:=b5h _ _ _ _ hput;obtain⟨hcl,hcv⟩:=a7d h1 hon;cases h0 with
     |ptr _ _ b C hρ=>
      obtain⟨oo,h2,h3⟩:=hr.sim.obj l _ C hρ;rw[hl] at h2;cases h2;obtain⟨vs,ty,h4,h5,h6⟩:=h3;have hall: ∀u,u∈v.cells.toList->u.oneCell'=Ax:=by
       intro u hu;obtain⟨i,hi,rfl⟩:=As hu;have hi':i<q.cells.length:=by rw[hcl];simpa using hi
       exact e1z (hcv i q.cells[i] _ (by simp[hi']) (by simp at hi;simp[hi])) (d5p hon _ (Aw hi'))
      have hst:=a5r hsz (off:=off) h4 (by rw[<-hcl];exact hlen) (by rw[h5];omega) hall;obtain⟨s1,s2,s3,s4,s5,s6⟩:=a7p (cs:=(vs.toList.take off++v.cells.toList++vs.toList.drop (off+v.cells.toList.length)).toArray) h4;refine⟨Ak,_,_,_,[],S,ρ,.inr ⟨fin rfl hst,rfl⟩,hk,Chg.set hr.sim hρ hl rfl s1 s2 s3 s4 s6 ⟨_,ty,s5,?_,fun i z u hz hu=> ?_⟩,.und⟩
      ·simp;omega
      ·have hS: ∀k,S k->(w.setRow b (vs.toList.take off++v.cells.toList++vs.toList.drop (off+v.cells.toList.length)).toArray).heap[k]? =w.heap[k]? :=
        fun k hk=>s6 k (fun e=>hr.sim.own l b C _ hρ hl rfl (e▸hk))
       refine VR.mono (fun _ h=>h) hS (fun _ _ h=>h) (w:=w) (S:=S) (ρ:=ρ) ?_;have hq:q.cells.length=v.cells.toList.length:=by simpa using hcl
       simp only[AT] at hu;by_cases hi1:i<off
       ·rw[AP,AE (by simp;omega)] at hz hu;rw[AU hi1] at hz hu;exact h6 i z u hz (by simpa using hu)
       ·by_cases hi2:i<off+q.cells.length
        ·rw[AP,AI (by simp;omega),AE (by simp;omega)] at hz hu;simp only[AN] at hz hu;rw[show min off cs.length=off by omega] at hz;rw[show min off vs.toList.length=off by simp;omega] at hu;exact hcv _ z u hz (by simpa using hu)
        ·rw[AI (by simp;omega),Af] at hz hu;simp only[AX,AN] at hz hu;rw[show off+q.cells.length+(i-(min off cs.length+q.cells.length))=i by omega] at hz;rw[show off+v.cells.toList.length+(i-(min off vs.toList.length+v.cells.toList.length))=i by simp at*;omega] at hu;exact h6 i z u hz (by simpa using hu)
    ·exact hk.elim
   ·exact hk.elim
  ·exact hk.elim
 ·rename_i l sz' i off;split at hk
  ·rename_i hch;simp only[Ab,a0u] at hch;obtain⟨hlen,hon⟩:=hch;have hlen:=AD hlen;obtain⟨hcl,hcv⟩:=a7d h1 hon;split at hk
   ·rename_i vals hia;have hl:=i1v hia;rw[a0i] at hl;split at hk
    ·rename_i hz;simp only[Ab] at hz;have e1:=AD hz.1.1;have e2:=AD hz.1.2;have e3:=AD hz.2;subst e1 e2 e3;split at hk
     ·rename_i x0 hx0;rw[a0i] at hx0;obtain⟨hin,hk⟩:(i<a3q vals)/\_:=hk;rw[a0u] at hin;rw[a0l,a0l] at hk;cases h0 with
      |aptr _ _ _ _ b C hρ=>
       obtain⟨oo,h2,h3⟩:=hr.sim.obj l _ C hρ;rw[hl] at h2;cases h2;obtain⟨vs,ty,h4,h5,h5',h6⟩:=h3;have hall: ∀u,u∈v.cells.toList->u.oneCell'=Ax:=by
        intro u hu;obtain⟨i,hi,rfl⟩:=As hu;have hi':i<q.cells.length:=by rw[hcl];simpa using hi
        exact e1z (hcv i q.cells[i] _ (by simp[hi']) (by simp at hi;simp[hi])) (d5p hon _ (Aw hi'))
       have hst:=a5r hsz (off:=i*1+0) h4 (by rw[<-hcl];exact hlen) (by omega) hall;obtain⟨s1,s2,s3,s4,s5,s6⟩:=a7p (cs:=(vs.toList.take (i*1+0)++v.cells.toList++vs.toList.drop (i*1+0+v.cells.toList.length)).toArray) h4;have hvl:v.cells.toList.length=1:=by rw[A9,<-hcl];exact hlen
       refine⟨Ak,_,_,_,[],S,ρ,.inr ⟨fin rfl hst,rfl⟩,hk,Chg.set hr.sim hρ hl rfl s1 s2 s3 s4 s6 ⟨_,ty,s5,?_,by simpa using h5',fun j z u hz hu=> ?_⟩,.und⟩
       ·simp only[List.size_toArray,AX,AN,List.length_drop,A9] at hvl⊢;omega
       ·have hS: ∀k,S k->(w.setRow b (vs.toList.take (i*1+0)++v.cells.toList++vs.toList.drop (i*1+0+v.cells.toList.length)).toArray).heap[k]? =w.heap[k]? :=
         fun k hk=>s6 k (fun e=>hr.sim.own l b C _ hρ hl rfl (e▸hk))
        refine VR.mono (fun _ h=>h) hS (fun _ _ h=>h) (w:=w) (S:=S) (ρ:=ρ) ?_;simp only[AT,BS,Am] at hu;by_cases hj:j<i
        ·rw[Ad (by omega)] at hz;rw[AP,AE (by simp;omega),AU hj] at hu;exact h6 j z u hz (by simpa using hu)
        ·by_cases hj2:j=i
         ·subst hj2;rw[A6 hin] at hz;cases hz;rw[AP,AI (by simp;omega),AE (by simp at*;omega)] at hu;simp only[AN] at hu;rw[show j-min j vs.toList.length=0 by simp;omega] at hu;exact hcv 0 x0 u hx0 (by simpa using hu)
         ·rw[Ad (by omega)] at hz;rw[AI (by simp at*;omega),Af] at hu;simp only[AX,AN] at hu;rw[show i+v.cells.toList.length+(j-(min i vs.toList.length+v.cells.toList.length))=j by simp at*;omega] at hu;exact h6 j z u hz (by simpa using hu)
     ·exact hk.elim
    ·exact hk.elim
   obtain⟨new,h',S',hk,k,hnl,hnv⟩:=d3o hr.sim h1 hon hk;simp only[a0i,a0l] at hk;split at hk
   ·rename_i sz'' n e hl;split at hk
    ·rename_i hsz';have hsz':=AD hsz';subst hsz';obtain⟨hin,hk⟩:(i<n)/\_:=hk;split at hk
     ·rename_i row hput;obtain⟨hle,hrow⟩:=b5h _ _ _ _ hput;cases h0 with
      |aptr _ _ _ _ b C hρ=>
       obtain⟨oo,h2,h3⟩:=k.sim.obj l _ C hρ;rw[hl] at h2;cases h2;obtain⟨vs,ty,h4,h5,h5',h6⟩:=h3;have hall: ∀u,u∈v.cells.toList->u.oneCell'=Ax:=by
        intro u hu;obtain⟨i,hi,rfl⟩:=As hu;have hi':i<q.cells.length:=by rw[hcl];simpa using hi
        exact e1z (hcv i q.cells[i] _ (by simp[hi']) (by simp at hi;simp[hi])) (d5p hon _ (Aw hi'))
       have hei:=(h6 i hin).1;have hbound:i*sz'+sz'<=vs.size:=by rw[h5];have:(i+1)*sz'<=C*sz':=AH _ (by omega);rw[AK] at this;omega
       have hst:=a5r hsz (off:=i*sz'+off) h4 (by rw[<-hcl];exact hlen) (by omega) hall;obtain⟨s1,s2,s3,s4,s5,s6⟩:=a7p (cs:=(vs.toList.take (i*sz'+off)++v.cells.toList++vs.toList.drop (i*sz'+off+v.cells.toList.length)).toArray) h4;have hS: ∀m,S' m->(w.setRow b (vs.toList.take (i*sz'+off)++v.cells.toList++vs.toList.drop (i*sz'+off+v.cells.toList.length)).toArray).heap[m]? =w.heap[m]? :=
        fun m hm=>s6 m (fun e'=>k.sim.own l b C _ hρ hl rfl (e'▸hm))
       have c2:=Chg.set k.sim hρ hl rfl s1 s2 s3 s4 s6 (o':= .arr sz' n ((Ag P A ro E).upd e i row)) ⟨_,ty,s5,by simp;omega,h5',fun i' hi'=> ?_⟩
       ·have c1:=k.chg;exact⟨Ak,_,_,_,[],S',ρ,.inr ⟨fin rfl hst,rfl⟩,hk,⟨c2.sim,Nat.le_trans c1.len c2.len,c1.ext.trans c2.ext,fun _ _ _ h=>h,fun _ _ _=>rfl⟩,.und⟩
       ·show ((if i'=i then row else e i').length=sz')/\ ∀(j:Nat) (x:DV) (u:AF),(if i'=i then row else e i')[j]? =AC x->_;have hvl:v.cells.toList.length=new.length:=by simp[hnl]
        have far: ∀j u,(vs.toList.take (i*sz'+off)++v.cells.toList++vs.toList.drop (i*sz'+off+v.cells.toList.length)).toArray[i'*sz'+j]? =AC u->
         (i'*sz'+j<i*sz'+off\/i*sz'+off+new.length<=i'*sz'+j)->vs[i'*sz'+j]? =AC u:=by
         intro j u hu hd;simp only[AT] at hu;have hq0:i*sz'+off+new.length<=vs.size:=by omega
         clear hput hrow hle hst s1 s2 s3 s4 s5 s6 hS hall hbound;generalize i'*sz'+j=m at*
         generalize i*sz'+off=q0 at*
         rcases hd with hd|hd
         ·rw[AP,AE (by simp;omega),AU hd] at hu;simpa using hu
         ·rw[AI (by simp;omega),Af] at hu;simp only[AX,AN] at hu;rw[show q0+v.cells.toList.length+(m-(min q0 vs.toList.length+v.cells.toList.length))=m by simp at*;omega] at hu;simpa using hu
        by_cases e1:i'=i
        ·subst e1;rw[if_pos rfl];refine⟨by rw[hrow];simp;omega,fun j x u hx hu=> ?_⟩;have hj:j<sz':=by have:=(AA.1 hx).1;rw[hrow] at this;simp at this;omega
         refine Av (fun _ h=>h) hS (w:=w) (S:=S') ?_;rw[hrow] at hx;by_cases j1:j<off
         ·rw[AP,AE (by simp;omega),AU j1] at hx;exact (h6 i' hin).2 j x u hx (far j u hu (.inl (by omega)))
         ·by_cases j2:j<off+new.length
          ·rw[AP,AI (by simp;omega),AE (by simp;omega)] at hx;simp only[AN] at hx;rw[show min off (e i').length=off by omega] at hx;simp only[AT] at hu;rw[AP,AI (by simp;omega),AE (by simp at*;omega)] at hu;simp only[AN] at hu;rw[show i'*sz'+j-min (i'*sz'+off) vs.toList.length=j-off by simp;omega] at hu;exact hnv _ x u hx (by simpa using hu)
          ·rw[AI (by simp;omega),Af] at hx;simp only[AX,AN] at hx;rw[show off+new.length+(j-(min off (e i').length+new.length))=j by omega] at hx;exact (h6 i' hin).2 j x u hx (far j u hu (.inr (by omega)))
        ·rw[if_neg e1];refine⟨(h6 i' hi').1,fun j x u hx hu=> ?_⟩;have hj:j<sz':=by have:=(AA.1 hx).1;rw[(h6 i' hi').1] at this;exact this
         refine Av (fun _ h=>h) hS (w:=w) (S:=S') ((h6 i' hi').2 j x u hx (far j u hu ?_));rcases Nat.lt_or_gt_of_ne e1 with e2|e2
         ·left;have:(i'+1)*sz'<=i*sz':=AH _ (by omega);rw[AK] at this;omega
         ·right;have:(i+1)*sz'<=i'*sz':=AH _ (by omega);rw[AK] at this;omega
     ·exact hk.elim
    ·exact hk.elim
   ·exact hk.elim
  ·exact hk.elim
 ·exact hk.elim
end
section
variable {P:Program} {A:Ann} {ro:Option Nat} {E:Ent} {c:Nat} {o:Oper} {io:IOp} {st:St} {K:AV->List a0f->List Nat->Prop}
 {a:Bf} {w:AW} {S:Nat->Prop} {ρ:BR}
theorem d1r {X:AQ}(hop:o.op= .nilCheck X)(hc:a0y P c o=AC io)(hk:a0a (Ag P A ro E) io st K)(hr:BD E st a w S ρ):Yld P o a w S ρ st.h K:=by
 simp[a0y,hop,AB] at hc;obtain⟨x,hx,rfl⟩:=hc;have h0:=a0t hr.ts hx;simp only[a0a] at hk;split at hk
 ·rename_i hp;have: ∃pa,a.eval X= .pointer (AC pa):=by
   revert h0 hp;generalize opd st.ts x=p;generalize a.eval X=v;intro h0 hp;cases h0<;>first|exact⟨_,rfl⟩|cases hp
  obtain⟨pa,hpa⟩:=this;exact .same hr.sim (v:=a.eval X) (by simp[AL,hop,hpa]) hk h0
 ·exact hk.elim
theorem beq'_eq (a b:Int):Int.beq' a b=(a==b):=by rw[Bool.eq_iff_iff,Int.beq'_eq,beq_iff_eq]
theorem e1u {op:BW}{k:Bb}{x y:IX}{K:DV->Prop}(t:AJ)(hk:d0v (Ag P A ro E) op k x y K):
 ∃d v,K d/\(binOp op t (.int k x.val) (.int k y.val)).run P w= .ok v w/\VR w S ρ (.d d) v:=by
 have int: ∀(n:IX) (v:AF),K (.int k n)->v= .int k n.val->(binOp op t (.int k x.val) (.int k y.val)).run P w= .ok v w->
  ∃d v,K d/\(binOp op t (.int k x.val) (.int k y.val)).run P w= .ok v w/\VR w S ρ (.d d) v:=fun n v h1 h2 h3=>⟨_,v,h1,h3,h2▸ .d (.int k n)⟩
 have bol: ∀(b:Bool),K (.bool b)->(binOp op t (.int k x.val) (.int k y.val)).run P w= .ok (.bool b) w->
  ∃d v,K d/\(binOp op t (.int k x.val) (.int k y.val)).run P w= .ok v w/\VR w S ρ (.d d) v:=fun b h1 h3=>⟨_,_,h1,h3,.d (.bool b)⟩
 unfold d0v at hk;split at hk
 ·split at hk
  ·rename_i a b;obtain⟨h1,hk⟩:(k.wrap (a+b)=a+b)/\_:=hk;exact int _ _ hk rfl (by simp[binOp,Aj,IX.val,h1])
  ·obtain⟨h1,hk⟩:(k.wrap (_+_)=_+_)/\_:=hk;exact int _ _ hk rfl (by simp only[binOp,Aj,ne_eq,not_true_eq_false,if_false,AZ,h1];rfl)
 ·split at hk
  ·rename_i a b;obtain⟨h1,hk⟩:(k.wrap (a-b)=a-b)/\_:=hk;exact int _ _ hk rfl (by simp[binOp,Aj,IX.val,h1])
  ·obtain⟨h1,hk⟩:(k.wrap (_-_)=_-_)/\_:=hk;exact int _ _ hk rfl (by simp only[binOp,Aj,ne_eq,not_true_eq_false,if_false,AZ,h1];rfl)
 ·obtain⟨h1,hk⟩:(k.wrap (_*_)=_*_)/\_:=hk;exact int _ _ hk rfl (by simp only[binOp,Aj,ne_eq,not_true_eq_false,if_false,AZ,h1];rfl)
 ·obtain⟨h0,h1,hk⟩:(_≠(0:Int))/\(k.wrap (Int.tdiv _ _)=Int.tdiv _ _)/\_:=hk;exact int _ _ hk rfl (by simp only[binOp,Ba,ne_eq,not_true_eq_false,if_false,h0,AZ,h1];rfl)
 ·obtain⟨h0,hk⟩:(_≠(0:Int))/\_:=hk;exact int _ _ hk rfl (by simp only[binOp,Ba,ne_eq,not_true_eq_false,if_false,h0,AZ];rfl)
 ·split at hk
  ·rename_i a b;exact bol _ hk (by simp[binOp,Ac,IX.val,beq'_eq])
  ·exact bol _ hk (by simp[binOp,Ac,Ag])
 ·split at hk
  ·rename_i a b;exact bol _ hk (by simp[binOp,Ac,IX.val,beq'_eq,bne])
  ·exact bol _ hk (by simp[binOp,Ac,Ag,bne])
 ·exact bol _ hk (by simp[binOp,Ac,Ag])
 ·exact bol _ hk (by simp[binOp,Ac,Ag])
 ·exact bol _ hk (by simp[binOp,Ac,Ag])
 ·exact bol _ hk (by simp[binOp,Ac,Ag])
 ·exact hk.elim
theorem a1q {op:BW}{t:AJ}{x y:AQ}{u v:AF}(hu:(match u with| .nilIface=>A4| .agg _=>A4|_=>Ax)=Ax):(eqGuard op t x y u v).run P w= .ok () w:=by
 unfold eqGuard;cases op<;>first|rfl|(cases u<;>first|(cases hu;done)|(cases v<;>rfl))
theorem f2t {op:BW}{t t':AJ}{X Y:AQ}(hop:o.op= .binOp op t X Y t'){x y:a0h}(hx:a0g X=AC x)(hy:a0g Y=AC y)
 (hk:a0a (Ag P A ro E) (.bin op x y) st K) (hr:BD E st a w S ρ):Yld P o a w S ρ st.h K:=by
 have h0:=a0t hr.ts hx;have h1:=a0t hr.ts hy;simp only[a0a] at hk;split at hk
 ·rename_i k1 x1 k2 y1 e1 e2;rw[e1] at h0;rw[e2] at h1;split at hk
  ·rename_i hkk;subst hkk;obtain⟨d,v,hk,hrun,hvr⟩:=e1u (w:=w) (S:=S) (ρ:=ρ) t hk;refine .same hr.sim (v:=v) ?_ hk hvr;simp only[AL,hop,h0.int,h1.int,Al,a1q (P:=P) (w:=w) (u:= .int k1 x1.val) rfl,AY,hrun];rfl
  ·exact hk.elim
 ·rename_i x1 m e1 e2;rw[e1] at h0;rw[e2] at h1;split at hk
  ·obtain⟨hle,hk⟩:(x1.val<=((m:Nat):Int))/\_:=hk;generalize hv:a.eval Y=v at h1;cases h1 with
   |ge _ n hn=>
    refine .same hr.sim (v:= .bool A4) ?_ hk (.d (.bool A4));have hlt: ¬(n<x1.val):=by omega
    simp[AL,hop,h0.int,hv,a1q (P:=P) (w:=w) (u:= .int .i64 x1.val) rfl,binOp,Ac,hlt]
  ·exact hk.elim
 ·exact hk.elim
theorem g4m {op:BW}{t t':AJ}{X Y:AQ}(hop:o.op= .binOp op t X Y t'){x y:a0h}(hx:a0g X=AC x)(hy:a0g Y=AC y)
 (hk:a0a (Ag P A ro E) (.bw op x y) st K) (hr:BD E st a w S ρ):Yld P o a w S ρ st.h K:=by
 have h0:=a0t hr.ts hx;have h1:=a0t hr.ts hy;simp only[a0a] at hk;split at hk
 ·rename_i k1 x1 k2 y1 e1 e2;rw[e1] at h0;rw[e2] at h1;unfold bwI at hk;split at hk
  ·rename_i hcl;obtain⟨hle,hk⟩:(0<=y1.val)/\_:=hk;refine .same hr.sim (v:= .int k1 (c2b op k1 x1.val y1.val)) ?_ hk (.d (.int k1 (.v _)));have hlt: ¬(y1.val<0):=by omega
   cases op<;>simp[c6z] at hcl<;>simp[AL,hop,h0.int,h1.int,a1q (P:=P) (w:=w) (u:= .int k1 x1.val) rfl,binOp,Op.shift,hlt,c2b]<;>rfl
  ·rename_i hcl;split at hk
   ·rename_i hkk;subst hkk;refine .same hr.sim (v:= .int k1 (d2j op k1 x1.val y1.val)) ?_ hk (.d (.int k1 (.v _)));cases op<;>simp[c6z] at hcl<;>simp[AL,hop,h0.int,h1.int,a1q (P:=P) (w:=w) (u:= .int k1 x1.val) rfl,binOp,Op.intBits,d2j]
   ·exact hk.elim
  ·exact hk.elim
 ·exact hk.elim
theorem e1t {op:BW}{t t':AJ}{X Y:AQ}(hop:o.op= .binOp op t X Y t')(ht:P.underlying t=AC .bool){x y:a0h}(hx:a0g X=AC x)(hy:a0g Y=AC y)
 (hk:a0a (Ag P A ro E) (.binb op x y) st K) (hr:BD E st a w S ρ):Yld P o a w S ρ st.h K:=by
 have h0:=a0t hr.ts hx;have h1:=a0t hr.ts hy;simp only[a0a] at hk;split at hk
 ·rename_i b1 b2 e1 e2;rw[e1] at h0;rw[e2] at h1;have heq:(Op.equal t (.bool b1) (.bool b2)).run P w= .ok (b1==b2) w:=by
   have gen: ∀d,(BZ (d+1) t (.bool b1) (.bool b2)).run P w= .ok (b1==b2) w:=fun d=>by simp[BZ,AG ht]
   exact gen 9999
  split at hk
  ·refine .same hr.sim (v:= .bool (b1==b2)) ?_ hk (.d (.bool _));simp[AL,hop,h0.bool,h1.bool,a1q (P:=P) (w:=w) (u:= .bool b1) rfl,binOp,heq]
  ·refine .same hr.sim (v:= .bool (!(b1==b2))) ?_ hk (.d (.bool _));simp[AL,hop,h0.bool,h1.bool,a1q (P:=P) (w:=w) (u:= .bool b1) rfl,binOp,heq]
  ·exact hk.elim
 ·exact hk.elim
theorem g7l {op:UnOp}{t:AJ}{X:AQ}(hop:o.op= .unOp op t X)(hc:a0y P c o=AC io)(hk:a0a (Ag P A ro E) io st K)(hr:BD E st a w S ρ):Yld P o a w S ρ st.h K:=by
 simp[a0y,hop,AB] at hc;obtain⟨x,hx,rfl⟩:=hc;have h0:=a0t hr.ts hx;simp only[a0a] at hk;split at hk
 ·rename_i e1;rw[e1] at h0;exact .same hr.sim (v:= .bool A4) (by simp[AL,hop,h0.bool,BM]) hk (.d (.bool _))
 ·rename_i e1;rw[e1] at h0;exact .same hr.sim (v:= .bool Ax) (by simp[AL,hop,h0.bool,BM]) hk (.d (.bool _))
 ·rename_i k n e1;rw[e1] at h0;obtain⟨h1,hk⟩:(k.wrap (0-n.val)=0-n.val)/\_:=hk;exact .same hr.sim (v:= .int k (0-n.val)) (by simp only[AL,hop,h0.int,BM,Aj,h1,Al,AZ,AY]) hk (.d (.int k (.v (0-n.val))))
 ·exact hk.elim
theorem c6h {t:AJ}{k:Bb}(h:d0m P t=AC k):P.underlying t=AC (.int k):=by
 simp[d0m,AB] at h;obtain⟨d,hd,h⟩:=h;split at h
 ·cases h;exact hd
 ·cases h
theorem e3m {s d:AJ}{X:AQ}(hop:o.op= .convert s d X)(hc:a0y P c o=AC io)(hk:a0a (Ag P A ro E) io st K)(hr:BD E st a w S ρ):Yld P o a w S ρ st.h K:=by
 simp[a0y,hop,AB] at hc;obtain⟨⟨k0,hs⟩,k,hd,x,hx,rfl⟩:=hc;have h0:=a0t hr.ts hx;have hs:=c6h hs;have hd:=c6h hd;simp only[a0a] at hk;split at hk
 ·rename_i k1 n e1;rw[e1] at h0;refine .same hr.sim (v:= .int k (k.wrap n.val)) ?_ hk (.d (.int k (.v (k.wrap n.val))));simp[AL,hop,h0.int,convert,AG hs,AG hd,Conv.intToInt]
 ·exact hk.elim
theorem e1j {f:FuncId}{X Y:Array AQ}(hop:o.op= .makeFunc (.func f) X Y)(hc:a0y P c o=AC io)(hk:a0a (Ag P A ro E) io st K)(hr:BD E st a w S ρ):Yld P o a w S ρ st.h K:=by simp[a0y,hop,AB] at hc;obtain⟨x,hx,y,hy,rfl⟩:=hc;have h0:=c9w hr.ts hx;have h1:=c9w hr.ts hy;exact .same hr.sim (v:= .func (.func f) (X.map a.eval) (Y.map a.eval)) (by simp[AL,hop,Instr.makeFunc]) hk (.fn f _ _ _ _ h0.1 h0.2 h1.1 h1.2)
theorem b7q {t:AJ}{i:Nat}{f:Field}(h:b5w P t i=AC f): ∃fs,P.underlying t=AC (.struct fs)/\fs[i]? =AC f:=by
 simp[b5w,AB] at h;obtain⟨d,hd,h⟩:=h;split at h
 ·exact⟨_,hd,h⟩
 ·cases h
theorem a1s {t:AJ}{n:Nat}(h:a1x P t=AC n):0<n/\ ∀w,(sizeOf t).run P w= .ok n w:=by simp[a1x,AB] at h;obtain⟨hm,h0⟩:=h;simp[b1y] at hm;obtain⟨i,hi,rfl⟩:=hm;exact⟨by omega,fun w=>by simp[sizeOf,An,hi]⟩
theorem d9h {t:AJ}{X:AQ}{i:Nat}(hop:o.op= .fieldAddr t X i)(hc:a0y P c o=AC io)(hk:a0a (Ag P A ro E) io st K)(hr:BD E st a w S ρ):Yld P o a w S ρ st.h K:=by
 simp[a0y,hop,AB] at hc;obtain⟨f,hf,⟨n,hn⟩,x,hx,rfl⟩:=hc;obtain⟨fs,hu,hfs⟩:=b7q hf;obtain⟨hn0,hsz⟩:=a1s hn;have h0:=a0t hr.ts hx;simp only[a0a] at hk;have run: ∀pa:A7,a.eval X= .pointer (AC pa)->(AL a.eval o).run P w= .ok (.value (.pointer (AC (pa.add f.offset)))) w:=by
  intro pa hp;have: ¬n=0:=by omega
  simp[AL,hop,Instr.fieldAt,AG hu,hfs,hp,Ae,fieldPlace,hsz,this]
 revert hk h0 run;generalize opd st.ts x=p;generalize a.eval X=v;intro hk h0 run;cases h0 with
 |ptr l off b C hρ=>exact .same hr.sim (by rw[run _ rfl,a1n]) hk (.ptr l (off+f.offset) b C hρ)
 |aptr l sz i off b C hρ=>exact .same hr.sim (by rw[run _ rfl,a1n,At]) hk (.aptr l sz i (off+f.offset) b C hρ)
 |dptr row off b base g hb hv hrr=>exact .same hr.sim (by rw[run _ rfl,a1n,At]) hk (.dptr row (off+f.offset) b base g hb hv hrr)
 |_=>exact hk.elim
theorem d7k {t:AJ}{X:AQ}{i:Nat}(hop:o.op= .field t X i)(hc:a0y P c o=AC io)(hk:a0a (Ag P A ro E) io st K)(hr:BD E st a w S ρ):Yld P o a w S ρ st.h K:=by
 simp[a0y,hop,AB] at hc;obtain⟨f,hf,ag,hag,x,hx,rfl⟩:=hc;obtain⟨fs,hu,hfs⟩:=b7q hf;have h0:=a0t hr.ts hx;simp only[a0a] at hk;split at hk
 ·rename_i cs e1;rw[e1] at h0;cases h:a.eval X with
  |agg vs=>
   rw[h] at h0;cases h0 with
   |agg _ _ hl hv=>
    obtain⟨g1,g2⟩:=d5w (w:=w) hag;cases ag with
    |none=>
     simp only[a0i] at hk;split at hk
     ·rename_i y hy;have hlt:=(AA.1 hy).1;have hlt':f.offset<vs.size:=by omega
      refine .same hr.sim (v:=vs[f.offset]) ?_ hk (hv _ y _ hy (by simp[hlt']));simp[AL,hop,h,BN,AG hu,hfs,asAgg,part,g1,hlt']
     ·exact hk.elim
    |some n=>
     simp only at hk;split at hk
     ·rename_i cc hcut;obtain⟨hl2,hget⟩:=c0t _ _ _ _ hcut;have hle:n=0\/f.offset+n<=vs.size:=by
       by_cases hn:n=0
       ·exact .inl hn
       ·right;have h3:=hget (n-1) (by omega);rw[Ai (by omega)] at h3;have:=(AA.1 h3.symm).1;omega
      refine .same hr.sim (v:= .agg (vs.extract f.offset (f.offset+n))) ?_ hk (.agg _ _ (by simp;omega) fun i y v hy hv'=> ?_)
      ·simp[AL,hop,h,BN,AG hu,hfs,asAgg,part,g1,g2 n rfl]
      ·have hi:i<n:=by have:=(AA.1 hy).1;omega
       rw[hget i hi] at hy;rw[Array.getElem?_extract] at hv';split at hv'
       ·exact hv _ y v hy hv'
       ·cases hv'
     ·exact hk.elim
  |_=>rw[h] at h0;cases h0
 ·exact hk.elim
theorem c4n {X:AQ}{i:Nat}(hop:o.op= .extract X i){x:a0h}(hx:a0g X=AC x)(hk:a0a (Ag P A ro E) (.extractF x i) st K)(hr:BD E st a w S ρ):Yld P o a w S ρ st.h K:=by
 have h0:=a0t hr.ts hx;simp only[a0a,a0i] at hk;split at hk
 ·rename_i cs e1;rw[e1] at h0;cases h:a.eval X with
  |tuple vs=>
   rw[h] at h0;cases h0 with
   |tuple _ _ hl hv=>
    have run: ∀{y:AV},cs[i]? =AC y-> ∃hlt:i<vs.size,(AL a.eval o).run P w= .ok (.value vs[i]) w/\VR w S ρ y vs[i]:=fun {y} hy=>by
     have hlt:=(AA.1 hy).1;have hlt':i<vs.size:=by omega
     refine⟨hlt',?_,hv _ y _ hy (by simp[hlt'])⟩;simp[AL,hop,h,BG,hlt']
    split at hk
    ·rename_i ys hy;obtain⟨hlt,hrun,hvr⟩:=run hy;generalize vs[i]=u at hrun hvr;cases hvr with
     |agg _ us hl hvs=>obtain⟨xs',h',S',hk,k,hl',hv'⟩:=a5l (vs:=us.toList) hr.sim (by simpa using hl) (fun i x v hx hu=>hvs i x v hx (by simpa using hu)) hk;exact⟨_,_,_,_,[],S',ρ,.inl hrun,hk,k.chg,.agg _ us (by simpa using hl') fun i x v hx hu=>hv' i x v hx (by simpa using hu)⟩
    ·rename_i l hy;obtain⟨hlt,hrun,hvr⟩:=run hy;obtain⟨x',h',S',hk,k,hv'⟩:=b2b hr.sim hvr hk;exact⟨_,_,_,_,[],S',ρ,.inl hrun,hk,k.chg,hv'⟩
    ·rename_i y _ _ hy;obtain⟨hlt,hrun,hvr⟩:=run hy;obtain⟨x',h',S',hk,k,hv'⟩:=b0b hr.sim hvr hk;exact⟨_,_,_,_,[],S',ρ,.inl hrun,hk,k.chg,hv'⟩
    ·exact hk.elim
  |_=>rw[h] at h0;cases h0
 ·exact hk.elim
theorem c8n {X:AQ}{i:Nat}(hop:o.op= .extract X i){x:a0h}(hx:a0g X=AC x)(hk:a0a (Ag P A ro E) (.extract x i) st K)(hr:BD E st a w S ρ):Yld P o a w S ρ st.h K:=by
 have h0:=a0t hr.ts hx;simp only[a0a,a0i] at hk;split at hk
 ·rename_i cs e1;rw[e1] at h0;cases h:a.eval X with
  |tuple vs=>
   rw[h] at h0;cases h0 with
   |tuple _ _ hl hv=>
    split at hk
    ·rename_i y hy;have hlt:=(AA.1 hy).1;have hlt':i<vs.size:=by omega
     refine .same hr.sim (v:=vs[i]) ?_ hk (hv _ y _ hy (by simp[hlt']));simp[AL,hop,h,BG,hlt']
    ·exact hk.elim
  |_=>rw[h] at h0;cases h0
 ·exact hk.elim
theorem a6l {x:AV}{v:AF}{K:IX->Prop}(h:VR w S ρ x v)(hk:a9r x K): ∃n:IX,v= .int .i64 n.val/\K n:=by
 unfold a9r at hk;split at hk
 ·exact⟨_,h.int,hk⟩
 ·exact hk.elim
theorem a0o (n:IX):nat (Ag P A ro E) n=n.val.toNat:=by cases n<;>rfl
theorem d6m {t e:AJ}{X I:AQ}(hop:o.op= .indexAddr t X I)(hu:P.underlying t=AC (.slice e)){sz:Nat}(hsz:a1x P e=AC sz){x i:a0h}(hx:a0g X=AC x)(hi:a0g I=AC i)
 (hk:a0a (Ag P A ro E) (.iaddr sz x i) st K) (hr:BD E st a w S ρ):Yld P o a w S ρ st.h K:=by
 obtain⟨hn0,hszr⟩:=a1s hsz;have h0:=a0t hr.ts hx;have h1:=a0t hr.ts hi;simp only[a0a] at hk;obtain⟨n,hn,hk⟩:=a6l h1 hk;have run: ∀(pa:A7) (len cap:Nat),a.eval X= .slice (AC pa) len cap->0<=n.val->n.val<len->(AL a.eval o).run P w= .ok (.value (.pointer (AC (pa.add (n.val.toNat*sz))))) w:=by intro pa len cap hp h2 h3;simp[AL,hop,A3,hn,BL,hp,AG hu,h2,h3,hszr]
 revert hk h0 run;generalize opd st.ts x=p;generalize a.eval X=v;intro h0 hk run;unfold a2l at hk;have data: ∀{sz' m:Nat} {e:Nat->List DV},BE w S (.sl sz' m e) v->sz=sz'->0<=n.val->n.val<m->K (.dptr (e n.val.toNat) 0) st.h []->Yld P o a w S ρ st.h K:=by
  intro sz' m e hd hs h2 h3 hk;subst hs;cases hd with
  |sl0 sz e a cap=>omega
  |sl _ _ _ b off cap f hb hc hl hv hrr=>
   have hi:n.val.toNat<m:=by omega
   refine .same hr.sim (by rw[run _ _ _ rfl h2 h3,a1n]) hk ?_;have:=VR.dptr (w:=w) (S:=S) (ρ:=ρ) (e n.val.toNat) 0 b (off+n.val.toNat*sz) (f n.val.toNat) (hb (by omega)) (fun j hj=>hv _ hi j (by rw[hl _ hi] at hj;exact hj)) (hrr _ hi);simpa using this
 split at hk
 ·rename_i l sz' s m f;split at hk
  ·rename_i hs;have hs:=AD hs;subst hs;obtain⟨⟨h2,h3⟩,hk⟩:(0<=n.val/\n.val<m)/\_:=hk;rw[a3n,a0o] at hk;cases h0 with
   |msl _ _ _ _ _ ob C cap aa hρ hc hcap ha=>
    have hcp:0<cap:=by rw[hcap];split<;>omega
    have hb: ∃b,ob=AC b:=by
     cases ob with
     |some b=>exact⟨b,rfl⟩
     |none=>obtain⟨oo,_,h5⟩:=hr.sim.obj l _ C hρ;have:C=0:=h5.1;omega
    obtain⟨b,rfl⟩:=hb;have e1:=ha hcp;subst e1;refine .same hr.sim (by rw[run _ _ _ rfl h2 h3,a1n]) hk ?_;have:=VR.aptr (w:=w) (S:=S) (ρ:=ρ) l sz (s.getD 0+n.val.toNat) 0 b C hρ;simpa [AK] using this
  ·exact hk.elim
 ·split at hk
  ·rename_i hs;obtain⟨⟨h2,h3⟩,hk⟩:(0<=n.val/\n.val<_)/\_:=hk;rw[a0o] at hk;cases h0 with
   |d hd=>exact data hd (AD hs) h2 h3 hk
  ·exact hk.elim
 ·split at hk
  ·rename_i hs;obtain⟨⟨h2,h3⟩,hk⟩:(0<=n.val/\n.val<_)/\_:=hk;rw[a0o] at hk;cases h0 with
   |dfs _ _ _ _ hd=>exact data hd (AD hs) h2 h3 hk
  ·exact hk.elim
 ·exact hk.elim
theorem d1w {t e:AJ}{X I:AQ}{n:Nat}(hop:o.op= .indexAddr t X I)(hu:P.underlying t=AC (.array n e)){sz:Nat}(hsz:a1x P e=AC sz){x i:a0h}(hx:a0g X=AC x)(hi:a0g I=AC i)
 (hk:a0a (Ag P A ro E) (.iaddrA n sz x i) st K) (hr:BD E st a w S ρ):Yld P o a w S ρ st.h K:=by
 obtain⟨hn0,hszr⟩:=a1s hsz;have h0:=a0t hr.ts hx;have h1:=a0t hr.ts hi;simp only[a0a] at hk;obtain⟨m,hm,hk⟩:=a6l h1 hk;split at hk
 ·rename_i l off e1;split at hk
  ·rename_i k;split at hk
   ·rename_i hlt;simp only[Ab,beq'_eq,beq_iff_eq] at hlt;obtain⟨h2,h3⟩:=hlt;have h2:k.toNat+1<=n:=by simpa [Nat.blt] using h2
    rw[e1] at h0;cases h:a.eval X with
    |pointer pa=>
     rw[h] at h0;cases h0 with
     |ptr _ _ b C hρ=>
      refine .same hr.sim (v:= .pointer (AC ⟨b,off+k.toNat*sz,AR⟩)) ?_ hk (.ptr l _ b C hρ);have h4:0<=k:=by rw[<-h3];exact Int.natCast_nonneg _
      have h5:k<n:=by omega
      simp[AL,hop,A3,hm,BL,h,AG hu,Ae,IX.val,h4,h5,hszr,a1n]
    |_=>rw[h] at h0;cases h0
   ·exact hk.elim
  ·rename_i k;obtain⟨⟨h4,h5⟩,hk⟩:=hk;have h4:0<=k:=h4;have h5:k<n:=h5;rw[e1] at h0;cases h:a.eval X with
   |pointer pa=>
    rw[h] at h0;cases h0 with
    |ptr _ _ b C hρ=>refine .same hr.sim (v:= .pointer (AC ⟨b,off+k.toNat*sz,AR⟩)) ?_ hk (.ptr l _ b C hρ);simp[AL,hop,A3,hm,BL,h,AG hu,Ae,IX.val,h4,h5,hszr,a1n]
   |_=>rw[h] at h0;cases h0
 ·exact hk.elim
end
section
variable {P:Program} {A:Ann} {ro:Option Nat} {E:Ent} {c:Nat} {o:Oper} {io:IOp} {st:St} {K:AV->List a0f->List Nat->Prop}
 {a:Bf} {w:AW} {S:Nat->Prop} {ρ:BR} {h:List a0f}
def Els (w:AW)(S:Nat->Prop)(sz n:Nat)(e:Nat->List DV)(a:Option A7)(cap:Nat):Prop:=
 n=0\/ ∃b off,a=AC ⟨b,off,AR⟩/\n<=cap/\ ∀i,i<n->(e i).length=sz/\
  ∀j,j<sz-> ∃u,w.cell? ⟨b,off+i*sz+j,AR⟩=AC u/\ ∀x,(e i)[j]? =AC x->BE w S x u
theorem b4z {x:AV}{v:AF}{K:Nat->Nat->(Nat->List DV)->Prop}(hs:BI w S ρ h)(h0:VR w S ρ x v)(hk:b3s (Ag P A ro E) h x K):
 ∃sz n e a cap,K sz n e/\v= .slice a n cap/\Els w S sz n e a cap:=by
 have data: ∀{sz n:Nat} {e:Nat->List DV} {v:AF},BE w S (.sl sz n e) v-> ∃a cap,v= .slice a n cap/\Els w S sz n e a cap:=by
  intro sz n e v hd;cases hd with
  |sl0 sz e a cap=>exact⟨a,cap,rfl,.inl rfl⟩
  |sl sz n e b off cap f hb hc hl hv hr=>exact⟨_,cap,rfl,.inr ⟨b,off,rfl,hc,fun i hi=>⟨hl i hi,fun j hj=>⟨f i j,hv i hi j hj,fun x hx=>hr i hi j x hx⟩⟩⟩⟩
 unfold b3s at hk;split at hk
 ·cases h0 with
  |d hd=>obtain⟨a,cap,h1,h2⟩:=data hd;exact⟨_,_,_,a,cap,hk,h1,h2⟩
 ·cases h0 with
  |dfs sz n e a hd=>obtain⟨a,cap,h1,h2⟩:=data hd;exact⟨_,_,_,a,cap,hk,h1,h2⟩
 ·rename_i l sz s n f;cases h0 with
  |msl _ _ _ _ _ ob C cap aa hρ hc hcap ha=>
   obtain⟨oo,h1,h2⟩:=hs.obj l ob C hρ;simp only[a0i,h1] at hk;have main: ∀{sz' m:Nat} {e:Nat->List DV},(oo= .arr sz' m e\/oo= .frz sz' m e)->Be sz sz'=Ax->s.getD 0+n<=m->K sz n (fun j=>e (s.getD 0+j))->
    ∃sz1 n1 e1 a' cap',K sz1 n1 e1/\Value.slice aa n cap= .slice a' n1 cap'/\Els w S sz1 n1 e1 a' cap':=by
    intro sz' m e ho hsz hle hk;have hsz:=AD hsz;subst hsz;refine⟨sz,n,_,aa,cap,hk,rfl,?_⟩;by_cases hn:n=0
    ·exact .inl hn
    ·obtain⟨b,vs,ty,fr,rfl,h3,h4,h5,h6⟩:=a8u ho h2 (by omega);have hcp:0<cap:=by rw[hcap];split<;>omega
     refine .inr ⟨b,s.getD 0*sz,ha hcp,by rw[hcap];split<;>omega,fun i hi=> ?_⟩;have hrow:=b1w h3 h4 h5 h6 (i:=s.getD 0+i) (by omega);refine⟨hrow.1,fun j hj=>⟨_,?_,(hrow.2 j hj).2⟩⟩;rw[<-(hrow.2 j hj).1,AK]
   split at hk
   ·simp only[a3n,a6g] at hk;rename_i heq;cases heq;split at hk
    ·rename_i hsz;obtain⟨hle,hk⟩:(s.getD 0+n<=_)/\_:=hk;exact main (.inl rfl) hsz hle hk
    ·exact hk.elim
   ·simp only[a3n,a6g] at hk;rename_i heq;cases heq;split at hk
    ·rename_i hsz;obtain⟨hle,hk⟩:(s.getD 0+n<=_)/\_:=hk;exact main (.inr rfl) hsz hle hk
    ·exact hk.elim
   ·exact hk.elim
 ·exact hk.elim
theorem a1y {sz n:Nat}{e:Nat->List DV}{aa:Option A7}{cap:Nat}(he:Els w S sz n e aa cap)(ha:n=0-> ∀x,aa=AC x->True):
 ∃cs:Array AF,(AM sz n (.slice aa n cap)).run P w= .ok cs w/\cs.size=n*sz/\(∀i,i<n->(e i).length=sz)/\
  ∀i,i<n-> ∀(j:Nat) (x:DV) (u:AF),(e i)[j]? =AC x->cs[i*sz+j]? =AC u->BE w S x u:=by
 rcases he with hn|⟨b,off,rfl,hc,h1⟩
 ·subst hn;refine⟨#[],?_,by simp,fun i hi=>by omega,fun i hi=>by omega⟩;cases aa with
  |none=>simp[AM]
  |some x=>simp[AM,loadCells,BY]
 ·by_cases hsz:sz=0
  ·subst hsz;refine⟨#[],?_,by simp,fun i hi=>(h1 i hi).1,fun i hi j x u hx hu=>by simp at hu⟩;simp[AM,loadCells,BY]
  ·have hex: ∀k,∃u,k<n*sz->w.cell? ⟨b,off+k,AR⟩=AC u/\ ∀x,(e (k/sz))[k % sz]? =AC x->BE w S x u:=by
    intro k;by_cases hk:k<n*sz
    ·have hi:k/sz<n:=(Nat.div_lt_iff_lt_mul (by omega)).2 hk;have hj:k % sz<sz:=Nat.mod_lt _ (by omega);obtain⟨u,hu,hr⟩:=(h1 _ hi).2 _ hj;refine⟨u,fun _=>⟨?_,hr⟩⟩;rw[<-hu,At];congr 3;rw[BQ];exact (Nat.div_add_mod k sz).symm
    ·exact⟨Ak,fun h=>absurd h hk⟩
   have hch:=fun k=>(hex k).choose_spec;have hrun:=BX (P:=P) w ⟨b,off,AR⟩ (n*sz) (fun k=>(hex k).choose) (fun k hk=>by rw[a1n];exact (hch k hk).1);refine⟨_,by simpa [AM] using hrun,by simp,fun i hi=>(h1 i hi).1,fun i hi j x u hx hu=> ?_⟩;have hj:j<sz:=by have:=(AA.1 hx).1;rw[(h1 i hi).1] at this;exact this
   have hlt:i*sz+j<n*sz:=by have:(i+1)*sz<=n*sz:=AH _ (by omega);rw[AK] at this;omega
   have h3:=hch (i*sz+j) hlt;simp only[AT,Ah,BA hlt,Option.map_some,Option.some.injEq] at hu;subst hu;refine h3.2 x ?_;rw[BQ,Nat.mul_add_div (by omega),Nat.mul_add_mod,Nat.div_eq_of_lt hj,BF hj,Am];exact hx
theorem a2r {zs:List DV}{z:AF}(hd:d2l z=AC zs){sz:Nat}(hsz:zs.length=sz)(n:Nat)(S:Nat->Prop)(w:AW):
 ∀i,i<n-> ∀(j:Nat) (x:DV) (u:AF),zs[j]? =AC x->((Ao (n*sz)).map (z.cells[· % z.cells.size]!))[i*sz+j]? =AC u->BE w S x u:=by
 intro i hi j x u hx hu;obtain⟨h1,h2⟩:=a4y hd;have hj:j<sz:=by rw[<-hsz];exact (AA.1 hx).1
 have hlt:i*sz+j<n*sz:=by have:(i+1)*sz<=n*sz:=AH _ (by omega);rw[AK] at this;omega
 have hcs:z.cells.size=sz:=by rw[<-h1,hsz]
 simp[hlt,hcs] at hu;rw[BF hj] at hu;exact h2 w S j x u hx (by rw[<-hu];simp[hcs,hj])
theorem a0n {t e:AJ}(h:a2a P t=AC e):P.underlying t=AC (.slice e):=by
 simp[a2a,AB] at h;obtain⟨d,hd,h⟩:=h;split at h
 ·cases h;exact hd
 ·cases h
theorem b4v {t:AJ}{b:Nat}(h:a5j P t=AC b): ∃i,P.info? t=AC i/\i.bytes=b:=by simpa [a5j] using h
theorem b3n {n:Int}(h0:0<=n)(h1:n<=9223372036854775807):IntKind.i64.wrap n=n:=by unfold IntKind.wrap;simp[IntKind.bits,IntKind.signed];omega
theorem b8a {t:AJ}{N M:AQ}(hop:o.op= .makeSlice t N M)(hNM:a.eval N=a.eval M){e:AJ}(he:P.underlying t=AC (.slice e)){sz b:Nat}{zs:List DV}(hsz:a1x P e=AC sz)
 (hz:a5d P e=AC zs) (hb:a5j P e=AC b) (hzl:zs.length=sz) (hb':b<=250) {x:a0h} (hx:a0g N=AC x)
 (hk:a0a (Ag P A ro E) (.mkslice sz zs b x) st K) (hr:BD E st a w S ρ):Yld P o a w S ρ st.h K:=by
 obtain⟨hn0,hszr⟩:=a1s hsz;obtain⟨i,z,hi,hz0,hd⟩:=a5f hz;obtain⟨i',hi',hbi⟩:=b4v hb;rw[hi] at hi';cases hi';have h0:=a0t hr.ts hx;simp only[a0a] at hk;obtain⟨n,hn,hk⟩:=a6l h0 hk;obtain⟨h1,h2,hk⟩:(0<=n.val)/\(n.val<=(big:Nat))/\_:=hk;rw[a0o,a0u,a0r] at hk;simp only[big] at h2;obtain⟨hl,hv⟩:=a4y hd;have hfresh:ρ st.h.length=AR:=hr.sim.fresh (AO _);have hw:IntKind.i64.wrap n.val=n.val:=b3n h1 (by omega);have hnn:((n.val.toNat:Nat):Int)=n.val:=Int.toNat_of_nonneg h1;have hbn:((b:Nat):Int)*n.val<=281474976710656:=by
  have hb0:(0:Int)<=(b:Int):=Int.natCast_nonneg _;have hb1:(b:Int)<=250:=by omega
  have h3:=Int.mul_le_mul_of_nonneg_right hb1 h1;omega
 refine⟨.slice (AC ⟨w.heap.size,0,AR⟩) n.val.toNat n.val.toNat,{w with heap:=w.heap.push (.cells ((Ao (n.val.toNat*sz)).map (z.cells[· % z.cells.size]!)) e)},_,_,[],S,_,.inl ?_,hk,
  Chg.new hr.sim hfresh (.cells ((Ao (n.val.toNat*sz)).map (z.cells[· % z.cells.size]!)) e) (.arr sz n.val.toNat ((Ag P A ro E).rep n.val.toNat zs)) n.val.toNat
   (fun w' hw'=>⟨(Ao (n.val.toNat*sz)).map (z.cells[· % z.cells.size]!),e,by rw[hw'];simp,by simp,AO _,fun i hi=>by rw[show (Ag P A ro E).rep n.val.toNat zs i=zs from if_pos hi];exact⟨hzl,fun j y u hy hu=>a2r hd hzl _ S w' i hi j y u hy hu⟩⟩),
  .msl _ _ AR _ A4 (AC w.heap.size) n.val.toNat _ _ (by simp) (by simp) (by simp) (by simp)⟩
 have hti:(An e).run P w= .ok i w:=by simp[An,hi]
 simp only[AL,hop,<-hNM,hn,Instr.makeSlice,Al,AG he,AY,asInt,BL,AZ,hti,hw,hbi];rw[if_neg (by
  simp only[Bool.or_eq_true,decide_eq_true_eq];omega)]
 simp only[AY,Al,run_askRoom,hszr];have r0: ∀f:Nat->AF,(Ao 0).map f= #[]:=fun f=>by apply Array.ext';simp
 by_cases hm:n.val.toNat*sz=0
 ·simp[hm,BH,r0]
 ·simp[hm,BH,a3m hi hz0]
end
theorem Chg.world {w w1 w2:AW}{S S':Nat->Prop}{ρ ρ':BR}{h h':List a0f}{pg:List Nat}(k:Chg w S ρ h w1 S' ρ' h' pg)(hh:w2.heap=w1.heap)(h1:w2.os=w1.os)(h2:w2.tape=w1.tape/\w1.drawn<=w2.drawn)(h3:w2.output=w1.output):
 Chg w S ρ h w2 S' ρ' h' pg where
 sim:=⟨fun b hb=>by rw[hh];exact k.sim.sblk b hb,fun l ob C hl=>by
  obtain⟨o,h4,h5⟩:=k.sim.obj l ob C hl;refine⟨o,h4,?_⟩;cases ob with
  |none=>exact h5
  |some b=>exact a0z.mono (fun _ h=>h) (fun _ _=>by rw[hh]) (fun _ _ h=>h) (by rw[hh]) h5,k.sim.inj,k.sim.own⟩
 len:=k.len
 ext:=⟨h1.trans k.ext.os,k3o k.ext.tape h2,h3.trans k.ext.output,by rw[hh];exact k.ext.size,k.ext.mono,fun b hb=>by rw[hh];exact k.ext.cell b hb,k.ext.news,fun b hb hn=>by rw[hh];exact k.ext.frame b hb hn,k.ext.owned⟩
 keep:=k.keep
 low:=k.low
section
variable {P:Program} {A:Ann} {ro:Option Nat} {E:Ent} {c:Nat} {o:Oper} {io:IOp} {st:St} {K:AV->List a0f->List Nat->Prop}
 {a:Bf} {w:AW} {S:Nat->Prop} {ρ:BR} {h:List a0f}
theorem getD_some (X:Array AF)(i:Nat)(h:i<X.size):X[i]? =AC (X.getD i Ak):=by simp[h]
theorem c6q (need:Nat): ∀(r c:Nat),BB need r c<=max c (2*need+192):=by
 intro r
 induction r with
 |zero=>intro c;simp[BB];omega
 |succ r ih=>
  intro c;unfold BB;split
  ·omega
  ·have:=ih (c+(c+768)/4);omega
theorem b1u {need cap:Nat}(h:cap<need):Aa need cap<=2*need+192:=by
 unfold Aa;split
 ·omega
 ·split
  ·omega
  ·have:=c6q need 4 cap;omega
theorem a6j {t u e e':AJ}{sz b:Nat}{base a2:Option A7}{n cap m cap2:Nat}{old new:Array AF}{zs:List DV}
 (ht:P.underlying t=AC (.slice e)) (hu:P.underlying u=AC (.slice e')) (hsz:a1x P e=AC sz) (hb:a5j P e=AC b) (hb':b<=250) (hz:a5d P e=AC zs)
 (hroom:cap<n+m) (hbig:n+m<=big)
 (hold:(AM sz n (.slice base n cap)).run P w.drew= .ok old w.drew)
 (hnew:(AM sz m (.slice a2 m cap2)).run P w.drew= .ok new w.drew):
 ∃(newCap:Nat) (rest:Array AF),n+m<=newCap/\rest.size=(newCap-(n+m))*zs.length/\
  (AS #[t,u] t #[.slice base n cap,.slice a2 m cap2]).run P w= .ok (.slice (AC ⟨w.heap.size,0,AR⟩) (n+m) newCap) (w.drew.alloc (.cells (old++(new++rest)) e)):=by
 obtain⟨hn0,hszr⟩:=a1s hsz;obtain⟨i,z,hi,hz0,hd⟩:=a5f hz;obtain⟨i',hi',hbi⟩:=b4v hb;rw[hi] at hi';cases hi';have hti: ∀w:AW,(An e).run P w= .ok i w:=fun w=>by simp[An,hi]
 simp only[big] at hbig;have hcap:=b1u hroom;have hmul:Aa (n+m) cap*b<=281474976710656:=by have h1:Aa (n+m) cap*b<=(2*(n+m)+192)*250:=Nat.mul_le_mul hcap hb';omega
 refine⟨(Ap (n+m) cap e).cut (w.tape w.drawn (.appendCap (n+m) cap e)),A8 z.cells ((Ap (n+m) cap e).cut (w.tape w.drawn (.appendCap (n+m) cap e))-(n+m)),?_,?_,?_⟩
 ·simp only[Bd];omega
 ·obtain⟨h1,_⟩:=a4y hd;simp[A8,h1]
 ·have hf: ∀k:Nat,(Ap (n+m) cap e).forced=A4:=fun _=>rfl;have h1: ¬n+m<=cap:=by omega
  have h2: ¬((9223372036854775807:Int)<(n:Int)+(m:Int)/\b=0):=by omega
  have h3: ¬Aa (n+m) cap*b>281474976710656:=by omega
  simp[AS,AG ht,AG hu,hszr,Az,hti,hbi,h1,h2,h3,hf 0,hold,hnew,a3m hi hz0,BH]
theorem a5o {t u e e':AJ}{sz:Nat}{b off:Nat}{a2:Option A7}{n cap m cap2:Nat}{new vs:Array AF}{ty:AJ}
 (ht:P.underlying t=AC (.slice e)) (hu:P.underlying u=AC (.slice e')) (hsz:a1x P e=AC sz)
 (hroom:n+m<=cap) (hnew:(AM sz m (.slice a2 m cap2)).run P w= .ok new w) (hb:w.heap[b]? =AC (.cells vs ty (0,0))) (hl:off+n*sz+new.size<=vs.size)
 (h1: ∀v,v∈new.toList->v.oneCell'=Ax):
 (AS #[t,u] t #[.slice (AC ⟨b,off,AR⟩) n cap,.slice a2 m cap2]).run P w= .ok (.slice (AC ⟨b,off,AR⟩) (n+m) cap)
   (w.setRow b (vs.toList.take (off+n*sz)++new.toList++vs.toList.drop (off+n*sz+new.toList.length)).toArray):=by
 obtain⟨hn0,hszr⟩:=a1s hsz;have hst:=BK (P:=P) b (off+n*sz) ty new.toList 0 vs w hb (by simpa using hl) h1;simp only[Am] at hst;simp[AS,AG ht,AG hu,hszr,Az,hroom,hnew,a1n,hst]
theorem a5h {t u e e':AJ}{sz:Nat}{a2:Option A7}{cap2:Nat}{new:Array AF}
 (ht:P.underlying t=AC (.slice e)) (hu:P.underlying u=AC (.slice e')) (hsz:a1x P e=AC sz)
 (hnew:(AM sz 0 (.slice a2 0 cap2)).run P w= .ok new w):
 (AS #[t,u] t #[.slice AR 0 0,.slice a2 0 cap2]).run P w= .ok (.slice AR 0 0) w:=by
 obtain⟨hn0,hszr⟩:=a1s hsz;simp[AS,AG ht,AG hu,hszr,Az,hnew]
theorem Els.drew {sz n:Nat}{e:Nat->List DV}{aa:Option A7}{cap:Nat}(h:Els w S sz n e aa cap):Els w.drew S sz n e aa cap:=by
 rcases h with h|⟨b,off,h1,h2,h3⟩
 ·exact .inl h
 ·refine .inr ⟨b,off,h1,h2,fun i hi=>⟨(h3 i hi).1,fun j hj=> ?_⟩⟩;obtain⟨u,h4,h5⟩:=(h3 i hi).2 j hj;exact⟨u,h4,fun x hx=>Av (w:=w) (w':=w.drew) (fun _ h=>h) (fun _ _=>rfl) (h5 x hx)⟩
theorem b0z {sz n m newCap:Nat}{e e2:Nat->List DV}{old new rest:Array AF}{zl:Nat}(hz:zl=sz)(hn:old.size=n*sz)(hm:new.size=m*sz)(hr:rest.size=(newCap-(n+m))*zl)(hle:n+m<=newCap)
 (ho:(∀i,i<n->(e i).length=sz)/\ ∀i,i<n-> ∀(j:Nat) (x:DV) (u:AF),(e i)[j]? =AC x->old[i*sz+j]? =AC u->BE w S x u)
 (hnw:(∀i,i<m->(e2 i).length=sz)/\ ∀i,i<m-> ∀(j:Nat) (x:DV) (u:AF),(e2 i)[j]? =AC x->new[i*sz+j]? =AC u->BE w S x u):
 (old++(new++rest)).size=newCap*sz/\ ∀i,i<n+m->((Ag P A ro E).app n e e2 i).length=sz/\
   ∀(j:Nat) (x:DV) (u:AF),((Ag P A ro E).app n e e2 i)[j]? =AC x->(old++(new++rest))[i*sz+j]? =AC u->BE w S x u:=by
 subst hz;refine⟨?_,fun i hi=> ?_⟩
 ·simp[hn,hm,hr,<-AK];congr 1;omega
 ·show (if i<n then e i else e2 (i-n)).length=zl/\ ∀(j:Nat) (x:DV) (u:AF),(if i<n then e i else e2 (i-n))[j]? =AC x->_;by_cases h1:i<n
  ·rw[if_pos h1];refine⟨ho.1 i h1,fun j x u hx hu=> ?_⟩;have hj:j<zl:=by have:=(AA.1 hx).1;rw[ho.1 i h1] at this;exact this
   have:(i+1)*zl<=n*zl:=AH _ (by omega);rw[AK] at this;rw[A2 (by omega)] at hu;exact ho.2 i h1 j x u hx hu
  ·rw[if_neg h1];have h2:i-n<m:=by omega
   refine⟨hnw.1 _ h2,fun j x u hx hu=> ?_⟩;have hj:j<zl:=by have:=(AA.1 hx).1;rw[hnw.1 _ h2] at this;exact this
   have h3:(i-n+1)*zl<=m*zl:=AH _ (by omega);rw[AK] at h3;have h4:i*zl=n*zl+(i-n)*zl:=by rw[<-AK];congr 1;omega
   rw[Array.getElem?_append_right (by omega),A2 (by omega)] at hu;rw[show i*zl+j-old.size=(i-n)*zl+j by omega] at hu;exact hnw.2 _ h2 j x u hx hu
theorem Els.zero {sz:Nat}{e:Nat->List DV}{aa:Option A7}{cap:Nat}:Els w S sz 0 e aa cap:= .inl rfl
theorem a8z {t u e e':AJ}{sz b:Nat}{zs:List DV}{v v2:AF}{n cap m:Nat}{es es2:Nat->List DV}{base a2:Option A7}{cap2:Nat}{mu:Bool}
 (hop: ∀r w',(AS #[t,u] t #[v,v2]).run P w= .ok r w'->(AL a.eval o).run P w= .ok (.value r) w')
 (ht:P.underlying t=AC (.slice e)) (hu:P.underlying u=AC (.slice e')) (hsz:a1x P e=AC sz) (hb:a5j P e=AC b) (hb':b<=250) (hz:a5d P e=AC zs) (hzl:zs.length=sz)
 (hs:BI w S ρ h) (hv:v= .slice base n cap) (hv2:v2= .slice a2 m cap2) (he:Els w S sz n es base cap) (he2:Els w S sz m es2 a2 cap2) (hroom:cap<n+m) (hbig:n+m<=big)
 (hk:if mu then K (.msl h.length sz AR (n+m) A4) (h++[.arr sz (n+m) ((Ag P A ro E).app n es es2)]) [] else K (.d (.sl sz (n+m) ((Ag P A ro E).app n es es2))) h []):
 Yld P o a w S ρ h K:=by
 subst hv hv2;obtain⟨old,hold,ho1,ho2⟩:=a1y (P:=P) he.drew (fun _ _ _=>trivial);obtain⟨new,hnew,hn1,hn2⟩:=a1y (P:=P) he2.drew (fun _ _ _=>trivial);obtain⟨newCap,rest,hle,hrs,hrun⟩:=a6j ht hu hsz hb hb' hz hroom hbig hold hnew;have hrows: ∀w':AW,(∀b,S b->w'.heap[b]? =w.heap[b]?)->_:=fun w' hw'=>b0z (P:=P) (A:=A) (ro:=ro) (E:=E) (w:=w') (S:=S) (sz:=sz) (newCap:=newCap) (rest:=rest) hzl ho1 hn1 hrs hle
  ⟨ho2.1,fun i hi j x u hx hu=>Av (w:=w.drew) (w':=w') (fun _ h=>h) hw' (ho2.2 i hi j x u hx hu)⟩ ⟨hn2.1,fun i hi j x u hx hu=>Av (w:=w.drew) (w':=w') (fun _ h=>h) hw' (hn2.2 i hi j x u hx hu)⟩
 have hpush: ∀w':AW,w'.heap=w.heap.push (.cells (old++(new++rest)) e)-> ∀b,S b->w'.heap[b]? =w.heap[b]? :=by intro w' hw' b hb;rw[hw',Ar,if_neg];have:=hs.sblk b hb;omega
 have hfresh:ρ h.length=AR:=hs.fresh (AO _);cases mu with
 |true=>simp only[if_true] at hk;have k:=Chg.new hs hfresh (.cells (old++(new++rest)) e) (.arr sz (n+m) ((Ag P A ro E).app n es es2)) newCap (fun w' hw'=>⟨_,e,by rw[hw'];simp,(hrows w' (hpush w' hw')).1,hle,(hrows w' (hpush w' hw')).2⟩);refine⟨_,_,_,_,[],S,_,.inl (hop _ _ hrun),hk,k.world (w2:=w.drew.alloc (.cells (old++(new++rest)) e)) rfl rfl ⟨rfl,BU _⟩ rfl,?_⟩;exact .msl _ _ AR _ A4 (AC w.heap.size) newCap _ _ (by simp) (by simpa using hle) (by simp) (by simp)
 |false=>
  simp only[Bool.false_eq_true,if_false] at hk;have k:=Chg.new hs hfresh (.cells (old++(new++rest)) e) (.arr sz (n+m) ((Ag P A ro E).app n es es2)) newCap (fun w' hw'=>⟨_,e,by rw[hw'];simp,(hrows w' (hpush w' hw')).1,hle,(hrows w' (hpush w' hw')).2⟩)
  let w2:AW:=w.drew.alloc (.cells (old++(new++rest)) e)
  have hh:w2.heap=w.heap.push (.cells (old++(new++rest)) e):=rfl;have hS': ∀b,S b->w2.heap[b]? =w.heap[b]? :=hpush w2 hh;have hlast:w2.heap[w.heap.size]? =AC (.cells (old++(new++rest)) e (0,0)):=by rw[hh];simp
  let S':Nat->Prop:=fun b=>S b\/b=w.heap.size
  have hold': ∀b,b<w.heap.size->w2.heap[b]? =w.heap[b]? :=fun b hb=>by rw[hh,Ar,if_neg (by omega)]
  obtain⟨hr1,hr2⟩:=hrows w2 hS';refine⟨_,w2,_,_,[],S',ρ,.inl (hop _ _ hrun),hk,⟨⟨fun b hb=> ?_,fun l ob C hl=> ?_,hs.inj,fun l b C ao hl hao hf=> ?_⟩,AO _,⟨rfl,⟨rfl,BU _⟩,rfl,by rw[hh];simp,fun _ h=> .inl h,hS',fun b hb=> ?_,fun b hb _=>hold' b hb,fun l b C hl=> .inr ⟨l,C,hl⟩⟩,fun _ _ _ h=>h,fun _ _ _=>rfl⟩,.d ?_⟩
  ·rw[hh];simp;rcases hb with hb|hb
   ·have:=hs.sblk b hb;omega
   ·omega
  ·obtain⟨o',h1,h2⟩:=hs.obj l ob C hl;refine⟨o',h1,?_⟩;cases ob with
   |none=>exact h2
   |some b=>exact a0z.mono (fun _ h=> .inl h) hS' (fun _ _ h=>h) (hold' b (hs.blk hl)) h2
  ·intro hb;rcases hb with hb|hb
   ·exact hs.own l b C ao hl hao hf hb
   ·have:=hs.blk hl;omega
  ·rcases hb with hb|hb
   ·exact .inl hb
   ·exact .inr (.inl (by omega))
  ·refine .sl sz (n+m) _ w.heap.size 0 newCap (fun i j=>(old++(new++rest)).getD (i*sz+j) Ak) (fun _=> .inr rfl) hle (fun i hi=>(hr2 i hi).1) (fun i hi j hj=> ?_) (fun i hi j x hx=> ?_)
   ·rw[Au hlast,BP];have:i*sz+j<(old++(new++rest)).size:=by rw[hr1];have:(i+1)*sz<=newCap*sz:=AH _ (by omega);rw[AK] at this;omega
    exact getD_some _ _ this
   ·have hj:j<sz:=by have:=(AA.1 hx).1;rw[(hr2 i hi).1] at this;exact this
    have:i*sz+j<(old++(new++rest)).size:=by rw[hr1];have:(i+1)*sz<=newCap*sz:=AH _ (by omega);rw[AK] at this;omega
    exact ((hr2 i hi).2 j x _ hx (getD_some _ _ this)).mono (fun _ h=> .inl h) (fun _ _=>rfl)
end
end Go.Vf
