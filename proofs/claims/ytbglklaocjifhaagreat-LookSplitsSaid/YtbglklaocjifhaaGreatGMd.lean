/- The executor's text on keys of maps. Conditions: none. -/
import Derived.Test.YtbglklaocjifhaaGreatGMb
import Derived.Laws.Tables
import Derived.Maps.Keyed
import Derived.DeepKeys4
import Derived.WideShapes4
import Derived.DeepKeys
import Derived.Lib.Overlaps
import Derived.Maps.RangeRun
open Option renaming bind_eq_some_iff->AA,some->AF,bind_eq_bind->AG,pure_def->AH,none->Af,map_some->A7
open Option.some renaming injEq->AB,inj->Bo
open List renaming getElem?_eq_some_iff->AC,getElem?_append_right->AD,getElem?_append_left->AE,getElem?_eq_getElem->AN,length_take->AO,length_append->AQ,getElem?_set_ne->AT,getElem?_set_self->AU,getElem?_map->AZ,append_assoc->Aa,getElem?_take_of_lt->Ad,getElem?_toArray->Ag,mem_of_getElem?->Am,length_eq_zero_iff->Au,getElem?_drop->Ax,ext_getElem?->A2,length_drop->A5,pairwise_map->A8,mem_or_eq_of_mem_set->BC,getElem?_cons_zero->BH,getElem?_cons_succ->BI,zipWith->BK,size_toArray->BL,replicate->BM,getElem_of_mem->BS,getElem?_range->BU,pairwise_cons->BY,mapM_cons->BZ,pairwise_append->Bl,length_map->By,map_cons->B7,take->B8,map_set->CB,getElem?_zipWith->CJ,getElem?_eq_none->CL,range->CP,take_length->CU,length_cons->CV,cons_append->CW,length_set->CZ,drop_zero->Cd,mem_cons->Ch
open Go renaming run_underlying->AI,Value->AM,execOp->AS,Operand->AX,TypeId->AY,IntKind->Ai,MapEntry->Al,World->A4,info_of_underlying->BN,storeCells->BR,resolve->Bm,laidOutB->Br,invoke->Bw,run_storeCells_at->B0,Addr->B6,Program->B9,goInt->CF,undef->CX,FuncId->Ci,asIntOf->Cl,zeroValue->Cn,Act->Cp,getObj->Cv,callsIn_wide->Cz,keyOf->C6,Field->C7,newRow->C8,BoundsCode->DF
open Nat renaming le_refl->AJ,eq_of_beq_eq_true->AK,mul_le_mul_right->AP,add_mul->Ae,zero_add->A3,add_zero->BW,lt_of_lt_of_le->Bb,add_sub_cancel_left->Bd,succ_mul->Bf,div_lt_iff_lt_mul->Bk,mul_one->Bn,lt_of_not_le->Bx,div_add_mod->B2,mul_comm->CG,le_trans->CI,le_succ->CN,mod_lt->CR,min_le_right->CY,zero_le->Cr
open Go.Builtin renaming append_->AL,lenOf->Ap,firstCells->A6,clear_->Bg,len_->Bp,copy_->B3,zeroCells->CM,min_->C9,min2->DA,max_->DB,max2->DC,cap_->DE
open Array renaming length_toList->AR,getElem?_toList->AW,getElem?_setIfInBounds_ne->Ab,getElem?_push->Ar,toList_push->At,getElem?_eq_some_iff->Aw,range->A9,ext'->BG,toList_modify->BQ,getElem?_append_left->BX,getElem?_append_right->Bz,toList_setIfInBounds->B4,size_append->CQ
open Go.MapKept renaming run_getObj_map->Ac,run_setObj_map->Aq
open Bool renaming false->Ah,true->An,false_eq_true->Ay,and_eq_true->BB,and_self->Cj
open Int renaming toNat_of_nonneg->Aj
open Go.Result renaming andThen->Ak,andThen_ok->Ba
open Go.Vf renaming keyOf->Ao,ms->Az,Wb->Bj,Rel->Bt,Vw->Cb,lw->Cg,v4->Cm,i7->Cu,cell?_of->Cw,n8->Cx,qn->C3
open Ne renaming symm->As
open Go.Value renaming formed->Av,cells->BP,int->BV,agg->Cq
open Go.ChangeMaps renaming modify_eq_set->BA
open Go.Instr renaming sliceAt->BD,mapUpdate->BE,fill->BF,sliceBounds->BJ,sliceBound->Bc,lookup->Bs,buildSlice->Bu,findKey->B5,mapEntry->Ca,makeMap->Ce
open Go.Vf.AV renaming rg->BO,n4->Cf,free->Ct,LT->Cy
open Go.Sem renaming run_bind->Be,run->C4
open Go.Op renaming equalIn->Bh,eqFields->CO,eqItems->CT,equal->C5
open Go.Vf.IX renaming val->Bi
open Go.Deferred renaming ofValue->Bq
open Go.Vf.qn renaming mono->Bv,one->Co
set_option linter.unusedSimpArgs false
set_option linter.unusedVariables false
namespace Go.Vf
open Go
section
variable {P:B9} {A:t7} {ro:Option Nat} {E:x4} {c:Nat} {o:Oper} {io:qr} {st:St} {K:AV->List ae->List Nat->Prop}
 {a:Cp} {w:A4} {S:Nat->Prop} {ρ:Cg} {h:List ae}
theorem n8.YA {e:Nat->List DV}(hs:Cm w S ρ h)(sz:Nat):
 Cx w S ρ h w S (fun m=>if m=h.length then AF (Af,0) else ρ m) (h++[.arr sz 0 e]) []/\
  VR w S (fun m=>if m=h.length then AF (Af,0) else ρ m) (.bi h.length sz Af 0 Ah) (.slice Af 0 0):=by
 have hn:ρ h.length=Af:=hs.fresh (AJ _);have hρ: ∀m p,ρ m=AF p->(if m=h.length then AF (Af,0) else ρ m)=AF p:=by intro m p hm;rw[if_neg (fun e=>by subst e;simp[hn] at hm)];exact hm
 refine⟨⟨⟨hs.i0,fun m ob C hm=> ?_,fun m m' b C C' h1 h2=> ?_,fun m b C ao hm ju hf=> ?_⟩,by simp,
  ⟨rfl,⟨rfl,AJ _⟩,rfl,AJ _,fun _ h=>h,fun _ _=>rfl,fun _ h=> .inl h,fun _ _ _=>rfl,fun m b C hm=> ?_⟩,fun m p _ hm=>hρ m p hm,fun m hm _=>if_neg (by omega)⟩,
  .bi _ _ Af 0 Ah Af 0 0 Af (by simp) (by simp) (by simp) (by simp)⟩
 ·show∃o,(h++[.arr sz 0 e])[m]? =AF o/\_;by_cases e1:m=h.length
  ·rw[if_pos e1] at hm;cases hm;exact⟨_,by rw[e1];simp,rfl,sz,e,.inl rfl⟩
  ·rw[if_neg e1] at hm;obtain⟨o',h1,h2⟩:=hs.obj m ob C hm;refine⟨o',by rw[AE (AC.1 h1).1];exact h1,?_⟩;cases ob with
   |none=>exact h2
   |some b=>exact fv.mono (fun _ h=>h) (fun _ _=>rfl) hρ rfl h2
 ·by_cases e1:m=h.length
  ·rw[if_pos e1] at h1;cases h1
  ·by_cases e2:m'=h.length
   ·rw[if_pos e2] at h2;cases h2
   ·rw[if_neg e1] at h1;rw[if_neg e2] at h2;exact hs.inj m m' b C C' h1 h2
 ·by_cases e1:m=h.length
  ·rw[if_pos e1] at hm;cases hm
  ·rw[if_neg e1] at hm;obtain⟨o',h1,h2⟩:=hs.obj m _ C hm;have ju:(h++[.arr sz 0 e])[m]? =AF ao:=ju;rw[AE (AC.1 h1).1] at ju;exact hs.own m b C ao hm ju hf
 ·by_cases e1:m=h.length
  ·rw[if_pos e1] at hm;cases hm
  ·rw[if_neg e1] at hm;exact .inr ⟨m,C,hm⟩
theorem c0i {t u e e':AY}{sz b:Nat}{zs:List DV}{v v2:AM}{n m l:Nat}{es wq:Nat->List DV}{a2:Option B6}{cap2:Nat}
 (bc: ∀r w',(AL #[t,u] t #[v,v2]).run P w= .ok r w'->(AS a.eval o).run P w= .ok (.value r) w')
 (ht:P.underlying t=AF (.slice e)) (hu:P.underlying u=AF (.slice e')) (bl:l6 P e=AF sz) (hb:zu P e=AF b) (k7:b<=250) (hz:uo P e=AF zs) (lr:zs.length=sz)
 (hs:Cm w S ρ h) (hv:VR w S ρ (.bi l sz Af n Ah) v) (hl:h[l]? =AF (.arr sz n es)) (jh:v2= .slice a2 m cap2) (sg:WB w S sz m wq a2 cap2) (ln:n+m<=VU)
 (hk:K (.bi l sz Af (n+m) Ah) (pq l Ah (h.set l (.arr sz (n+m) ((Az P A ro E).app n es wq)))) [l]):
 Bj P o a w S ρ h K:=by
 subst jh;have hlt:=(AC.1 hl).1;cases hv with
 |bi _ _ _ _ _ ob C cap aa hρ hc b9 ha=>
  obtain⟨oo,h1,h2⟩:=hs.obj l ob C hρ;rw[hl] at h1;cases h1;simp at b9 hc ha;subst b9;by_cases jz:n+m<=cap
  ·cases ob with
   |none=>
    have hC:cap=0:=h2.1;subst hC;have hn:n=0:=by omega
    have hm:m=0:=by omega
    subst hn hm;have aj:(AL #[t,u] t #[.slice aa 0 0,.slice a2 0 cap2]).run P w= .ok (.slice aa 0 0) w:=by
     obtain⟨new,cm,ky,oa⟩:=Iv (P:=P) sg (fun _ _ _=>trivial);obtain⟨lz,cw⟩:=vu bl;have:new.toList=[]:=by
      have:new.size=0:=by omega
      simpa using this
     cases aa with
     |none=>simp[AL,AI ht,AI hu,cw,Ap,cm]
     |some pa=>simp[AL,AI ht,AI hu,cw,Ap,cm,this,BR]
    have Qg:Cm w S ρ (h.set l (.arr sz (0+0) ((Az P A ro E).app 0 es wq))):=by
     refine⟨hs.i0,fun l' yg C' bu=> ?_,hs.inj,fun l' b' C' ao bu ju hf=> ?_⟩
     ·by_cases e1:l'=l
      ·subst e1;rw[hρ] at bu;cases bu;exact⟨_,by simp[hlt];rfl,rfl,sz,_,.inl rfl⟩
      ·obtain⟨o1,h3,h4⟩:=hs.obj l' yg C' bu;exact⟨o1,by rw[AT (As e1)];exact h3,h4⟩
     ·by_cases e1:l'=l
      ·subst e1;rw[hρ] at bu;cases bu
      ·rw[AT (As e1)] at ju;exact hs.own l' b' C' ao bu ju hf
    refine⟨_,w,_,_,[l],S,ρ,.inl (bc _ _ aj),hk,⟨Qg.forget l Ah,by rw[JT];simp,.refl _ _ _,fun _ _ _ h=>h,fun _ _ _=>rfl⟩,.bi l sz Af _ Ah Af 0 0 aa hρ (by simp) (by simp) (by simp)⟩
   |some b0=>
    obtain⟨new,cm,ky,oa⟩:=Iv (P:=P) sg (fun _ _ _=>trivial);obtain⟨vs,ty,h4,h5,O7,h6⟩:=h2;obtain⟨lz,cw⟩:=vu bl;have kp:(n+m)*sz<=cap*sz:=AP _ jz;rw[Ae] at kp;have Hv: ∀v,v∈new.toList->v.oneCell'=An:=by
     intro v hv;obtain⟨k,ij,rfl⟩:=BS hv;have cp:k<m*sz:=by simpa [ky] using ij
     have hi:k/sz<m:=(Bk lz).2 cp;have hj:k % sz<sz:=CR _ lz;have hlen:=oa.1 _ hi;have hx:(wq (k/sz))[k % sz]? =AF ((wq (k/sz))[k % sz]'(by omega)):=AN _;refine Co (oa.2 (k/sz) hi (k % sz) _ new.toList[k] hx ?_);rw[show k/sz*sz+k % sz=k by rw[CG];exact B2 k sz];simp at ij;simp[ij]
    by_cases yw:0<cap
    ·have M9:=ha yw;simp at M9;subst M9;have aj:=a5o (P:=P) (b:=b0) (off:=0) ht hu bl jz cm h4 (by rw[h5,ky];omega) Hv;simp only[A3] at aj;obtain⟨s1,s2,s3,s4,s5,s6⟩:=Md (cs:=(vs.toList.take (n*sz)++new.toList++vs.toList.drop (n*sz+new.toList.length)).toArray) h4;have hS: ∀k,S k->(w.setRow b0 (vs.toList.take (n*sz)++new.toList++vs.toList.drop (n*sz+new.toList.length)).toArray).heap[k]? =w.heap[k]? :=
      fun k hk=>s6 k (fun e=>hs.own l b0 cap _ hρ hl rfl (e▸hk))
     have so:((vs.toList.take (n*sz)++new.toList++vs.toList.drop (n*sz+new.toList.length)).toArray).size=cap*sz:=by simp only[BL,AQ,AO,A5,AR];omega
     have k:=n8.set hs hρ hl rfl s1 s2 s3 s4 s6 (o':= .arr sz (n+m) ((Az P A ro E).app n es wq)) ⟨_,ty,s5,so,jz,fun i hi=> ?_⟩
     ·refine⟨_,_,_,_,[l],S,ρ,.inl (bc _ _ aj),hk,(k.WR l).WX [l],.bi l sz Af _ Ah (AF b0) cap cap _ hρ (by simpa using jz) (by simp) (by simp)⟩
     ·show (if i<n then es i else wq (i-n)).length=sz/\ ∀(j:Nat) (x:DV) (u:AM),(if i<n then es i else wq (i-n))[j]? =AF x->_;have jy:new.toList.length=m*sz:=by simpa using ky
      by_cases i1:i<n
      ·rw[if_pos i1];refine⟨(h6 i i1).1,fun j x u hx hu=> ?_⟩;have hj:j<sz:=by have:=(AC.1 hx).1;rw[(h6 i i1).1] at this;exact this
       have h7:(i+1)*sz<=n*sz:=AP _ (by omega);rw[Ae] at h7;simp only[Ag] at hu;rw[Aa,AE (by simp;omega),Ad (by omega)] at hu;exact Bv (w:=w) (fun _ h=>h) hS ((h6 i i1).2 j x u hx (by simpa using hu))
      ·rw[if_neg i1];have i2:i-n<m:=by omega
       refine⟨oa.1 _ i2,fun j x u hx hu=> ?_⟩;have hj:j<sz:=by have:=(AC.1 hx).1;rw[oa.1 _ i2] at this;exact this
       have h7:(i-n+1)*sz<=m*sz:=AP _ (by omega);rw[Ae] at h7;have h8:i*sz=n*sz+(i-n)*sz:=by rw[<-Ae];congr 1;omega
       simp only[Ag] at hu;rw[Aa,AD (by simp;omega),AE (by simp;omega)] at hu;rw[show i*sz+j-(B8 (n*sz) vs.toList).length=(i-n)*sz+j by simp;omega] at hu;exact Bv (w:=w) (fun _ h=>h) hS (oa.2 _ i2 j x u hx (by simpa using hu))
    ·have hC:cap=0:=by omega
     subst hC;have hn:n=0:=by omega
     have hm:m=0:=by omega
     subst hn hm;have jy:new.toList=[]:=by
      have:new.size=0:=by omega
      simpa using this
     have aj:(AL #[t,u] t #[.slice aa 0 0,.slice a2 0 cap2]).run P w= .ok (.slice aa 0 0) w:=by
      cases aa with
      |none=>simp[AL,AI ht,AI hu,cw,Ap,cm]
      |some pa=>simp[AL,AI ht,AI hu,cw,Ap,cm,jy,BR]
     have k:=n8.set hs hρ hl rfl (w':=w) rfl ⟨rfl,AJ _⟩ rfl rfl (fun _ _=>rfl) (o':= .arr sz (0+0) ((Az P A ro E).app 0 es wq)) ⟨vs,ty,h4,h5,by omega,fun i hi=>by omega⟩;exact⟨_,w,_,_,[l],S,ρ,.inl (bc _ _ aj),hk,(k.WR l).WX [l],.bi l sz Af _ Ah (AF b0) 0 0 aa hρ (by simp) (by simp) (by simp)⟩
  ·have Hh:WB w S sz n es aa cap:=by
    by_cases hn:n=0
    ·exact .inl hn
    ·obtain⟨b1,vs,ty,fr,rfl,h3,h4,h5,h6⟩:=a8u (.inl rfl) h2 (by omega);refine .inr ⟨b1,0,by simpa using ha (by omega),by omega,fun i hi=> ?_⟩;have ft:=b1w h3 h4 h5 h6 hi;refine⟨ft.1,fun j hj=>⟨_,?_,(ft.2 j hj).2⟩⟩;rw[<-(ft.2 j hj).1,A3]
   obtain⟨kq,hold,Ng,xu⟩:=Iv (P:=P) Hh.drew (fun _ _ _=>trivial);obtain⟨new,cm,ky,oa⟩:=Iv (P:=P) sg.drew (fun _ _ _=>trivial);obtain⟨newCap,rest,hle,Qf,aj⟩:=a6j ht hu bl hb k7 hz (by omega) ln hold cm;have j3: ∀w':A4,(∀b,S b->w'.heap[b]? =w.heap[b]?)->_:=fun w' gd=>b0z (P:=P) (A:=A) (ro:=ro) (E:=E) (w:=w') (S:=S) (sz:=sz) (newCap:=newCap) (rest:=rest) lr Ng ky Qf hle
    ⟨xu.1,fun i hi j x u hx hu=>Bv (w:=w.drew) (w':=w') (fun _ h=>h) gd (xu.2 i hi j x u hx hu)⟩ ⟨oa.1,fun i hi j x u hx hu=>Bv (w:=w.drew) (w':=w') (fun _ h=>h) gd (oa.2 i hi j x u hx hu)⟩
   have kf: ∀w':A4,w'.heap=w.heap.push (.cells (kq++(new++rest)) e)-> ∀b,S b->w'.heap[b]? =w.heap[b]? :=by intro w' gd b hb;rw[gd,Ar,if_neg];have:=hs.i0 b hb;omega
   have k:=n8.move hs hρ hlt (.cells (kq++(new++rest)) e) sz (n+m) ((Az P A ro E).app n es wq) newCap (fun w' gd=>⟨_,e,by rw[gd];simp,(j3 w' (kf w' gd)).1,hle,(j3 w' (kf w' gd)).2⟩);refine⟨_,_,_,_,[l],S,_,.inl (bc _ _ aj),hk,k.world (w2:=w.drew.alloc (.cells (kq++(new++rest)) e)) rfl rfl ⟨rfl,CN _⟩ rfl,?_⟩;exact .bi _ _ Af _ Ah (AF w.heap.size) newCap _ _ (by simp) (by simpa using hle) (by simp) (by simp)
theorem d1n {l sz n:Nat}{s:Option Nat}{f:Bool}{K:Nat->Nat->(Nat->List DV)->Prop}(hk:um (Az P A ro E) h (.bi l sz s n f) K):
 um (Az P A ro E) h (.bi l sz s n f) fun qf n2 e=>qf=sz/\n2=n/\K qf n2 e:=by
 simp only[um] at hk⊢;split at hk
 ·split at hk
  ·rename_i h1 h2;rw[if_pos h2];exact⟨hk.1,trivial,trivial,hk.2⟩
  ·exact hk.elim
 ·split at hk
  ·rename_i h1 h2;rw[if_pos h2];exact⟨hk.1,trivial,trivial,hk.2⟩
  ·exact hk.elim
 ·exact hk.elim
theorem b5f {t u e e':AY}{X Y:AX}(bc:o.op= .call {callee:= .builtin .append,args:= #[X,Y],argTypes:= #[t,u]})
 (ht:P.underlying t=AF (.slice e)) (hu:P.underlying u=AF (.slice e')) {sz b:Nat} {zs:List DV} (bl:l6 P e=AF sz) (hb:zu P e=AF b) (k7:b<=250) (hz:uo P e=AF zs) (lr:zs.length=sz)
 {x y:ah} {mu:Bool} (hx:bh X=AF x) (hy:bh Y=AF y) (hk:af (Az P A ro E) (.append sz b x y mu) st K) (hr:Bt E st a w S ρ):Bj P o a w S ρ st.h K:=by
 have h0:=dm hr.ts hx;have h1:=dm hr.ts hy;simp only[af] at hk;have run: ∀r w',(AL #[t,u] o.type #[a.eval X,a.eval Y]).run P w= .ok r w'->(AS a.eval o).run P w= .ok (.value r) w':=by intro r w' h;simp[AS,bc,Bm,Bw,builtin,h]
 have run: ∀r w',(AL #[t,u] t #[a.eval X,a.eval Y]).run P w= .ok r w'->(AS a.eval o).run P w= .ok (.value r) w':=run;revert h0 h1 hk run;generalize Cu st.ts x=p;generalize Cu st.ts y=q;generalize a.eval X=v;generalize a.eval Y=v2;intro hk h0 h1 run;unfold KI at hk;have Qs: ∀{K:Nat->Nat->(Nat->List DV)->Prop},zm (Az P A ro E) sz st.h q K-> ∃sz n e a cap,K sz n e/\v2= .slice a n cap/\WB w S sz n e a cap:=by
  intro K hk;unfold zm at hk;split at hk
  ·exact⟨sz,0,_,Af,0,hk,h1.nil,.inl rfl⟩
  ·cases h1 with
   |d hd=>
    cases hd with
    |raw _ _=>exact⟨sz,0,_,_,_,hk,rfl,.inl rfl⟩
  ·exact b4z hr.co h1 hk
 obtain⟨qf,m,e2,a2,cap2,cp,jh,sg⟩:=Qs hk;clear hk;have hk:=cp;clear cp;split at hk
 ·rename_i Hw;have Hw:=AK Hw;subst Hw;split at hk
  ·have hv:=h0.nil;obtain⟨ln,hk⟩:(m<=VU)/\_:=hk;by_cases hm:m=0
   ·subst hm;subst hv jh;obtain⟨new,cm,ky,oa⟩:=Iv (P:=P) sg (fun _ _ _=>trivial);have aj:=run _ _ (a5h ht hu bl cm);cases mu with
    |true=>simp only[if_true,cv,fi] at hk;obtain⟨k,hv⟩:=n8.YA (e:=e2) hr.co sz;exact⟨_,w,_,_,[],S,_,.inl aj,hk,k,hv⟩
    |false=>exact .same hr.co aj hk (.d (.VO sz e2 Af 0))
   ·have happ:(Az P A ro E).app 0 (fun _=>[]) e2=e2:=by funext j;simp[Az]
    refine UI (A:=A) (ro:=ro) (E:=E) (mu:=mu) run ht hu bl hb k7 hz lr hr.co hv jh (es:=fun _=>[]) WB.zero sg (by omega) (by simpa using ln) ?_;rw[happ,A3];cases mu with
    |true=>simpa [cv,fi] using hk
    |false=>simpa using hk
  ·rename_i sz' n e1;split at hk
   ·rename_i lq;have lq:=AK lq;subst lq;obtain⟨ln,hm,hk⟩:(n+m<=VU)/\(0<m)/\_:=hk;cases h0 with
    |lm _ _ _ aa hd=>
     have Hh:WB w S sz n e1 aa n:=by
      cases hd with
      |VO sz e a cap=>exact .inl rfl
      |sl _ _ _ b off cap f hb hc hl hv hr=>exact .inr ⟨b,off,rfl,hc,fun i hi=>⟨hl i hi,fun j hj=>⟨f i j,hv i hi j hj,fun x hx=>hr i hi j x hx⟩⟩⟩
     refine UI (A:=A) (ro:=ro) (E:=E) (mu:=mu) run ht hu bl hb k7 hz lr hr.co rfl jh Hh sg (by omega) ln ?_;cases mu with
     |true=>simp only[if_true,cv,fi] at hk⊢;exact hk
     |false=>exact hk
   ·exact hk.elim
  ·rename_i l sz' n;split at hk
   ·rename_i lq;have lq:=AK lq;subst lq;simp only[cy,fg] at hk;split at hk
    ·rename_i ec n' e1 hl;split at hk
     ·rename_i w0;have w0:=AK w0;subst w0;obtain⟨wz,ln,hk⟩:(n'=n)/\(n+m<=VU)/\_:=hk;subst wz;exact c0i run ht hu bl hb k7 hz lr hr.co h0 hl jh sg ln hk
     ·exact hk.elim
    ·exact hk.elim
   ·exact hk.elim
  ·rename_i l sz' s n;split at hk
   ·rename_i lq;have lq:=AK lq;subst lq;obtain⟨sz3,n3,e3,a3,UV,⟨h3,h4,nj⟩,Nm,he3⟩:=b4z hr.co h0 (d1n hk);clear hk;have hk:=nj;clear nj;subst h3 h4;have b9:UV=n3:=by
     cases h0 with
     |bi _ _ _ _ _ ob C cap aa hρ hc b9 ha=>cases Nm;simpa using b9
    subst b9;obtain⟨ln,hm,hk⟩:(_+m<=VU)/\(0<m)/\_:=hk;refine UI (A:=A) (ro:=ro) (E:=E) (mu:=mu) run ht hu bl hb k7 hz lr hr.co Nm jh he3 sg (by omega) ln ?_;cases mu with
    |true=>simp only[if_true,cv,fi] at hk⊢;exact hk
    |false=>exact hk
   ·exact hk.elim
  ·exact hk.elim
 ·exact hk.elim
def KP (w:A4)(S:Nat->Prop)(ρ:Cg)(l:List AV)(a:Option B6)(cap:Nat):Prop:=
 l=[]\/ ∃b off,a=AF ⟨b,off,Af⟩/\l.length<=cap/\ ∀(i:Nat) (x:AV),l[i]? =AF x-> ∃u,w.cell? ⟨b,off+i,Af⟩=AF u/\VR w S ρ x u
theorem i3q {e:Nat->List DV}: ∀{n:Nat} {l:List AV},zh e n=AF l->l.length=n/\ ∀i x,l[i]? =AF x-> ∃y,x= .d y/\e i=[y]:=by
 intro n
 induction n with
 |zero=>intro l h;simp[zh] at h;subst h;simp
 |succ n ih=>
  intro l h;unfold zh at h;split at h
  ·rename_i l0 yz;split at h
   ·rename_i y hy;cases h;obtain⟨h1,h2⟩:=ih yz;refine⟨by simp[fi,h1],fun i x hx=> ?_⟩;rw[fi] at hx;by_cases hi:i<l0.length
    ·rw[AE hi] at hx;exact h2 i x hx
    ·rw[AD (by omega)] at hx;have:i-l0.length=0:=by have:=(AC.1 hx).1;simpa using this
     rw[this] at hx;simp at hx;subst hx;exact⟨y,rfl,by rw[show i=n by omega];exact hy⟩
   ·cases h
  ·cases h
theorem i1i {y:AV}{v:AM}{K:List AV->Prop}(hs:Cm w S ρ h)(h0:VR w S ρ y v)(hk:NX h y K):
 ∃l a cap,K l/\v= .slice a l.length cap/\KP w S ρ l a cap:=by
 unfold NX at hk;split at hk
 ·exact⟨[],Af,0,hk,h0.nil,.inl rfl⟩
 ·rename_i n e;split at hk
  ·rename_i l hl;obtain⟨h1,h2⟩:=i3q hl;cases h0 with
   |d hd=>
    cases hd with
    |VO sz e a cap=>
     have:l=[]:=by simpa using h1
     subst this;exact⟨[],a,cap,hk,rfl,.inl rfl⟩
    |sl _ _ _ b off cap f hb hc hl hv hr=>
     refine⟨l,_,cap,hk,by rw[h1],.inr ⟨b,off,rfl,by omega,fun i x hx=> ?_⟩⟩;have hi:i<n:=by have:=(AC.1 hx).1;omega
     obtain⟨y,rfl,hy⟩:=h2 i x hx;refine⟨f i 0,by simpa using hv i hi 0 (by omega),.d (hr i hi 0 y (by rw[hy];rfl))⟩
  ·exact hk.elim
 ·rename_i l s n f;split at hk
  ·rename_i ap hl;rw[cy] at hl;split at hk
   ·rename_i c hc;obtain⟨c1,c2⟩:=Tf _ _ _ _ hc;cases h0 with
    |bi _ _ _ _ _ ob C cap aa hρ qq b9 ha=>
     obtain⟨oo,h1,h2⟩:=hs.obj l ob C hρ;rw[hl] at h1;cases h1;cases ob with
     |none=>obtain⟨_,sz',e',h3|h3⟩:=h2<;>cases h3
     |some b=>
      obtain⟨vs,ty,h3,h4,h5,h6⟩:=h2;refine⟨c,aa,cap,hk,by rw[c1],?_⟩;by_cases hn:n=0
      ·exact .inl (Au.1 (by omega))
      ·have yw:0<cap:=by rw[b9];split<;>omega
       refine .inr ⟨b,s.getD 0,by simpa using ha yw,by rw[c1,b9];split<;>omega,fun i x hx=> ?_⟩;have hi:i<n:=by have:=(AC.1 hx).1;omega
       rw[c2 i hi] at hx;have fj:NS s=s.getD 0:=by cases s<;>rfl
       rw[fj] at hx;have hlt:=(AC.1 hx).1;have hlt2:s.getD 0+i<vs.size:=by omega
       refine⟨vs[s.getD 0+i]'hlt2,?_,h6 _ x _ hx (by simp[hlt2])⟩;rw[Cw h3];simp[hlt2]
   ·exact hk.elim
  ·exact hk.elim
 ·exact hk.elim
theorem KP.drew {l:List AV}{aa:Option B6}{cap:Nat}(h:KP w S ρ l aa cap):KP w.drew S ρ l aa cap:=by
 rcases h with h|⟨b,off,h1,h2,h3⟩
 ·exact .inl h
 ·refine .inr ⟨b,off,h1,h2,fun i x hx=> ?_⟩;obtain⟨u,h4,h5⟩:=h3 i x hx;exact⟨u,h4,VR.mono (w:=w) (w':=w.drew) (fun _ h=>h) (fun _ _=>rfl) (fun _ _ h=>h) h5⟩
theorem h5p {l:List AV}{aa:Option B6}{cap:Nat}(he:KP w S ρ l aa cap):
 ∃cs:Array AM,(A6 1 l.length (.slice aa l.length cap)).run P w= .ok cs w/\cs.size=l.length/\
  ∀(i:Nat) (x:AV) (u:AM),l[i]? =AF x->cs[i]? =AF u->VR w S ρ x u:=by
 rcases he with hn|⟨b,off,rfl,hc,h1⟩
 ·subst hn;refine⟨#[],?_,by simp,fun i x u hx=>by simp at hx⟩;cases aa with
  |none=>simp[A6]
  |some x=>simp[A6,loadCells,loadCellsFrom]
 ·have hex: ∀k,∃u,k<l.length->w.cell? ⟨b,off+k,Af⟩=AF u/\ ∀x,l[k]? =AF x->VR w S ρ x u:=by
   intro k;by_cases hk:k<l.length
   ·obtain⟨u,hu,hr⟩:=h1 k _ (AN hk);exact⟨u,fun _=>⟨hu,fun x hx=>by rw[AN hk] at hx;cases hx;exact hr⟩⟩
   ·exact⟨CX,fun h=>absurd h hk⟩
  have tb:=fun k=>(hex k).choose_spec;have aj:=run_loadCells (P:=P) w ⟨b,off,Af⟩ (l.length*1) (fun k=>(hex k).choose) (fun k hk=>by rw[xi];exact (tb k (by omega)).1);refine⟨_,by simpa [A6] using aj,by simp,fun i x u hx hu=> ?_⟩;have hlt:i<l.length:=(AC.1 hx).1;simp only[Bn,Ag,AZ,BU hlt,A7,AB] at hu;subst hu;exact (tb i hlt).2 x hx
theorem h7j {t u e e':AY}{b:Nat}{zs:List DV}{v v2:AM}{l:Nat}{ap new:List AV}{a2:Option B6}{cap2:Nat}
 (bc: ∀r w',(AL #[t,u] t #[v,v2]).run P w= .ok r w'->(AS a.eval o).run P w= .ok (.value r) w')
 (ht:P.underlying t=AF (.slice e)) (hu:P.underlying u=AF (.slice e')) (bl:l6 P e=AF 1) (hb:zu P e=AF b) (k7:b<=250) (hz:uo P e=AF zs) (lr:zs.length=1)
 (hs:Cm w S ρ h) (hv:VR w S ρ (.bi l 1 Af ap.length Ah) v) (hl:h[l]? =AF (.n7 ap)) (jh:v2= .slice a2 new.length cap2) (sg:KP w S ρ new a2 cap2) (ln:ap.length+new.length<=VU) (Hu:tv new=An)
 (hk:K (.bi l 1 Af (ap.length+new.length) Ah) (pq l Ah (h.set l (.n7 (ap++new)))) [l]):
 Bj P o a w S ρ h K:=by
 subst jh;have hlt:=(AC.1 hl).1;cases hv with
 |bi _ _ _ _ _ ob C cap aa hρ hc b9 ha=>
  obtain⟨oo,h1,h2⟩:=hs.obj l ob C hρ;rw[hl] at h1;cases h1;simp at b9 hc ha;subst b9;cases ob with
  |none=>obtain⟨_,sz',e',h3|h3⟩:=h2<;>cases h3
  |some b0=>
   obtain⟨vs,ty,h4,h5,O7,h6⟩:=h2;obtain⟨lz,cw⟩:=vu bl;by_cases jz:ap.length+new.length<=cap
   ·obtain⟨cs,cm,ky,oa⟩:=h5p (P:=P) sg;have Hv: ∀v,v∈cs.toList->v.oneCell'=An:=by
     intro v hv;obtain⟨k,ij,rfl⟩:=BS hv;have cp:k<new.length:=by simpa [ky] using ij
     exact TF (oa k new[k] _ (by simp[cp]) (by simp at ij;simp[ij])) (TG Hu _ (List.getElem_mem cp))
    have ig:cs.toList.length=new.length:=by simpa using ky
    by_cases yw:0<cap
    ·have M9:=ha yw;subst M9;have aj:=a5o (P:=P) (b:=b0) (off:=0) ht hu bl jz cm h4 (by rw[h5,ky];omega) Hv;simp only[A3,Bn] at aj;obtain⟨s1,s2,s3,s4,s5,s6⟩:=Md (cs:=(vs.toList.take ap.length++cs.toList++vs.toList.drop (ap.length+cs.toList.length)).toArray) h4;have hS: ∀k,S k->(w.setRow b0 (vs.toList.take ap.length++cs.toList++vs.toList.drop (ap.length+cs.toList.length)).toArray).heap[k]? =w.heap[k]? :=
      fun k hk=>s6 k (fun e=>hs.own l b0 cap _ hρ hl rfl (e▸hk))
     have so:((vs.toList.take ap.length++cs.toList++vs.toList.drop (ap.length+cs.toList.length)).toArray).size=cap:=by simp only[BL,AQ,AO,A5,AR] at ig⊢;omega
     have k:=n8.set hs hρ hl rfl s1 s2 s3 s4 s6 (o':= .n7 (ap++new)) ⟨_,ty,s5,so,by simpa using jz,fun i x u hx hu=> ?_⟩
     ·refine⟨_,_,_,_,[l],S,ρ,.inl (bc _ _ aj),hk,(k.WR l).WX [l],.bi l 1 Af _ Ah (AF b0) cap cap _ hρ (by simpa using jz) (by simp) (by simp)⟩
     ·refine VR.mono (w:=w) (fun _ h=>h) hS (fun _ _ h=>h) (S:=S) (ρ:=ρ) ?_;simp only[Ag] at hu;by_cases i1:i<ap.length
      ·rw[AE i1] at hx;rw[Aa,AE (by simp;omega),Ad i1] at hu;exact h6 i x u hx (by simpa using hu)
      ·rw[AD (by omega)] at hx;have i2:=(AC.1 hx).1;rw[Aa,AD (by simp;omega),AE (by simp at*;omega)] at hu;rw[show i-(B8 ap.length vs.toList).length=i-ap.length by simp;omega] at hu;exact oa _ x u hx (by simpa using hu)
    ·have hC:cap=0:=by omega
     subst hC;have hn:ap=[]:=Au.1 (by omega);have hm:new=[]:=Au.1 (by omega);subst hn hm;have jy:cs.toList=[]:=Au.1 (by simpa using ig);have aj:(AL #[t,u] t #[.slice aa 0 0,.slice a2 0 cap2]).run P w= .ok (.slice aa 0 0) w:=by
      simp only[List.length_nil] at cm;cases aa with
      |none=>simp[AL,AI ht,AI hu,cw,Ap,cm]
      |some pa=>simp[AL,AI ht,AI hu,cw,Ap,cm,jy,BR]
     have k:=n8.set hs hρ hl rfl (w':=w) rfl ⟨rfl,AJ _⟩ rfl rfl (fun _ _=>rfl) (o':= .n7 ([]++[])) ⟨vs,ty,h4,h5,by simp,fun i x u hx=>by simp at hx⟩;exact⟨_,w,_,_,[l],S,ρ,.inl (bc _ _ aj),hk,(k.WR l).WX [l],.bi l 1 Af _ Ah (AF b0) 0 0 aa hρ (by simp) (by simp) (by simp)⟩
   ·have Hh:KP w S ρ ap aa cap:=by
     by_cases hn:ap=[]
     ·exact .inl hn
     ·have fz:0<ap.length:=List.length_pos_iff.2 hn;refine .inr ⟨b0,0,by simpa using ha (by omega),by omega,fun i x hx=> ?_⟩;have hi:=(AC.1 hx).1;have hlt2:i<vs.size:=by omega
      refine⟨vs[i]'hlt2,?_,h6 i x _ hx (by simp[hlt2])⟩;rw[Cw h4];simp[hlt2]
    obtain⟨kq,hold,Ng,xu⟩:=h5p (P:=P) Hh.drew;obtain⟨cs,cm,ky,oa⟩:=h5p (P:=P) sg.drew;obtain⟨newCap,rest,hle,Qf,aj⟩:=a6j ht hu bl hb k7 hz (by omega) ln hold cm;have kf: ∀w':A4,w'.heap=w.heap.push (.cells (kq++(cs++rest)) e)-> ∀b,S b->w'.heap[b]? =w.heap[b]? :=by intro w' gd b hb;rw[gd,Ar,if_neg];have:=hs.i0 b hb;omega
    have so:(kq++(cs++rest)).size=newCap:=by rw[CQ,CQ,Ng,ky,Qf,lr];omega
    have k:=n8.Yo hs hρ hlt (.cells (kq++(cs++rest)) e) (.n7 (ap++new)) rfl newCap (fun w' gd=>by
     refine⟨kq++(cs++rest),e,by rw[gd];simp,so,by simpa using hle,fun i x u hx hu=> ?_⟩;by_cases i1:i<ap.length
     ·rw[AE i1] at hx;rw[BX (by omega)] at hu;exact VR.mono (w:=w.drew) (w':=w') (fun _ h=>h) (kf w' gd) (fun _ _ h=>h) (xu i x u hx hu)
     ·rw[AD (by omega)] at hx;have i2:=(AC.1 hx).1;rw[Bz (by omega),BX (by omega),Ng] at hu;exact VR.mono (w:=w.drew) (w':=w') (fun _ h=>h) (kf w' gd) (fun _ _ h=>h) (oa _ x u hx hu))
    refine⟨_,_,_,_,[l],S,_,.inl (bc _ _ aj),hk,k.world (w2:=w.drew.alloc (.cells (kq++(cs++rest)) e)) rfl rfl ⟨rfl,CN _⟩ rfl,?_⟩;exact .bi _ _ Af _ Ah (AF w.heap.size) newCap _ _ (by simp) (by simpa using hle) (by simp) (by simp)
theorem i1k {t u e e':AY}{X Y:AX}(bc:o.op= .call {callee:= .builtin .append,args:= #[X,Y],argTypes:= #[t,u]})
 (ht:P.underlying t=AF (.slice e)) (hu:P.underlying u=AF (.slice e')) {b:Nat} {zs:List DV} (bl:l6 P e=AF 1) (hb:zu P e=AF b) (k7:b<=250) (hz:uo P e=AF zs) (lr:zs.length=1)
 {x y:ah} (hx:bh X=AF x) (hy:bh Y=AF y) (hk:af (Az P A ro E) (.x5 b x y) st K) (hr:Bt E st a w S ρ):Bj P o a w S ρ st.h K:=by
 have h0:=dm hr.ts hx;have h1:=dm hr.ts hy;simp only[af] at hk;have run: ∀r w',(AL #[t,u] o.type #[a.eval X,a.eval Y]).run P w= .ok r w'->(AS a.eval o).run P w= .ok (.value r) w':=by intro r w' h;simp[AS,bc,Bm,Bw,builtin,h]
 have run: ∀r w',(AL #[t,u] t #[a.eval X,a.eval Y]).run P w= .ok r w'->(AS a.eval o).run P w= .ok (.value r) w':=run;unfold Rg at hk;obtain⟨new,a2,cap2,hk,jh,sg⟩:=i1i hr.co h1 hk;revert h0 hk;generalize Cu st.ts x=p;intro h0 hk;split at hk
 ·rename_i l n;simp only[cy,fg,fi,cv] at hk;split at hk
  ·rename_i ap hl;obtain⟨hn,ln,Hu,hk⟩:(ap.length=n)/\(n+new.length<=VU)/\(tv new=An)/\_:=hk;subst hn;exact h7j run ht hu bl hb k7 hz lr hr.co h0 hl jh sg ln Hu hk
  ·exact hk.elim
 ·exact hk.elim
end
section
variable {P:B9} {A:t7} {ro:Option Nat} {E:x4} {c:Nat} {o:Oper} {io:qr} {st:St} {K:AV->List ae->List Nat->Prop}
 {a:Cp} {w:A4} {S:Nat->Prop} {ρ:Cg} {h:List ae}
theorem KD {t e:AY}{sz:Nat}(ht:P.underlying t=AF (.slice e))(bl:l6 P e=AF sz){aa:Option B6}{len cap L H M:Nat}{lv hv mv:Option AM}
 (hL:(lv=Af/\L=0)\/lv=AF (.int .i64 L)) (hH:(hv=Af/\H=len/\mv=Af)\/hv=AF (.int .i64 H)) (hM:(mv=Af/\M=cap)\/mv=AF (.int .i64 M))
 (h1:L<=H) (h2:H<=M) (h3:M<=cap):
 (BD t (.slice aa len cap) lv hv mv).run P w= .ok (.slice (if M=L then aa else aa.map (·.add (L*sz))) (H-L) (M-L)) w:=by
 obtain⟨lz,cw⟩:=vu bl;have MB: ∀(i n:Nat) (code:DF),i<=n->(Bc (.int .i64 i) n code).run P w= .ok i w:=by
  intro i n code hi;have:((0:Int)<=(i:Int))/\((i:Int)<=(n:Int)):=by omega
  simp[Bc,Cl,this]
 have hb:(BJ An len cap lv hv mv).run P w= .ok (L,H,M) w:=by
  rcases hM with⟨rfl,rfl⟩|rfl<;>rcases hH with⟨rfl,rfl,hm⟩|rfl<;>rcases hL with⟨rfl,rfl⟩|rfl<;>
   first|(cases hm;done)|simp[BJ,MB _ _ _ h1,MB _ _ _ h2,MB _ _ _ h3]
 simp only[BD,Be,AI ht,Ba];simp[Instr.slice,AI ht,hb,cw]
theorem zt {ts:List AV}(Gd:Cb w S ρ ts a.tmps){X:Option AX}{x:Option ah}(hx:mz X=AF x){d:IX}{K:IX->Prop}(hk:rz ts x d K):
 ∃n:IX,K n/\((X=Af/\n=d)\/X.map a.eval=AF (.int .i64 n.val)):=by
 cases X with
 |none=>simp[mz] at hx;subst hx;exact⟨d,hk,.inl ⟨rfl,rfl⟩⟩
 |some X=>simp[mz,AA] at hx;obtain⟨y,hy,rfl⟩:=hx;obtain⟨n,hn,hk⟩:=Ip (dm Gd hy) hk;exact⟨n,hk,.inr (by simp[hn])⟩
theorem KH (s:Option Nat)(lo:IX):(Iy (Az P A ro E) s lo).getD 0=s.getD 0+lo.val.toNat:=by
 unfold Iy;split
 ·simp[Bi]
 ·split
  ·simp[j5]
  ·show _+nat (Az P A ro E) lo=_;rw[j5];rfl
theorem c5m (e:Nat->List DV)(lo:IX):n4 (Az P A ro E) e lo=fun j=>e (lo.val.toNat+j):=by
 unfold n4;split
 ·funext j;simp[Bi]
 ·funext j;show e (nat (Az P A ro E) lo+j)=_;rw[j5]
theorem d8l {t e:AY}{X:AX}{LO HI MX:Option AX}(bc:o.op= .slice t X LO HI MX)(ht:P.underlying t=AF (.slice e)){sz:Nat}(bl:l6 P e=AF sz)
 {x:ah} {lo hi mx:Option ah} (hx:bh X=AF x) (kv:mz LO=AF lo) (ly:mz HI=AF hi) (mq:mz MX=AF mx) (kp:HI=Af->MX=Af)
 (hk:af (Az P A ro E) (.slice sz x lo hi mx) st K) (hr:Bt E st a w S ρ):Bj P o a w S ρ st.h K:=by
 have h0:=dm hr.ts hx;simp only[af] at hk;have run: ∀{v r:AM},a.eval X=v->(BD t v (LO.map a.eval) (HI.map a.eval) (MX.map a.eval)).run P w= .ok r w->(AS a.eval o).run P w= .ok (.value r) w:=by intro v r hv h;simp[AS,bc,hv,h]
 revert h0 hk run;generalize Cu st.ts x=p;generalize a.eval X=v;intro hk h0 run;have run: ∀{r:AM},(BD t v (LO.map a.eval) (HI.map a.eval) (MX.map a.eval)).run P w= .ok r w->(AS a.eval o).run P w= .ok (.value r) w:=fun h=>run rfl h;have QW: ∀{MX:Option AX} {mx:Option ah},mz MX=AF mx->(mx=Af↔MX=Af):=by
  intro MX mx h;cases MX with
  |none=>simp[mz] at h;simp[<-h]
  |some M=>simp[mz,AA] at h;obtain⟨y,_,rfl⟩:=h;simp
 unfold xg at hk;split at hk
 ·rename_i l sz' s n f;split at hk
  ·rename_i hs;have hs:=AK hs;subst hs;obtain⟨L,ij,hL⟩:=zt hr.ts kv hk;obtain⟨H,cp,hH⟩:=zt hr.ts ly ij;clear hk ij;obtain⟨g1,g2,g3,hk⟩:(0<=L.val)/\(L.val<=H.val)/\(H.val<=(n:Int))/\_:=cp;cases h0 with
   |bi _ _ _ _ _ ob C cap aa hρ hc b9 ha=>
    have I7:((L.val.toNat:Nat):Int)=L.val:=Aj g1;have Hd:((H.val.toNat:Nat):Int)=H.val:=Aj (by omega);have yt:(LO.map a.eval=Af/\L.val.toNat=0)\/LO.map a.eval=AF (.int .i64 (L.val.toNat:Nat)):=by
     rcases hL with⟨h1,h2⟩|h1
     ·left;simp[h1,h2,Bi]
     ·right;rw[h1,I7]
    have uw:(HI.map a.eval=Af/\H.val.toNat=n/\MX.map a.eval=Af)\/HI.map a.eval=AF (.int .i64 (H.val.toNat:Nat)):=by
     rcases hH with⟨h1,h2⟩|h1
     ·left;exact⟨by simp[h1],by simp[h2,Bi,Az],by simp[kp h1]⟩
     ·right;rw[h1,Hd]
    have hncap:n<=cap:=by rw[b9];split<;>omega
    have addr: ∀{M:Nat},L.val.toNat<=H.val.toNat->M<=cap->0<M-L.val.toNat->(if M=L.val.toNat then aa else aa.map (·.add (L.val.toNat*sz)))=ob.map fun b=>⟨b,(Iy (Az P A ro E) s L).getD 0*sz,Af⟩:=by
     intro M h1 h2 h3;rw[if_neg (by omega),ha (by omega),KH];cases ob with
     |none=>rfl
     |some b=>simp[xi,Ae]
    split at hk
    ·have GC:=(QW mq).1 rfl;have aj:=fun h2=>KD (w:=w) ht bl (aa:=aa) yt uw (.inl ⟨by simp[GC],rfl⟩) (by omega) h2 (AJ cap);split at hk
     ·rename_i hf;subst hf;obtain⟨g4,hk⟩:(H.val=(n:Int))/\_:=hk;simp at b9;refine .same hr.co (run (aj (by omega))) hk ?_;rw[j5,j5];exact .bi l sz _ _ An ob C _ _ hρ (by rw[KH];simp only[Az];omega) (by simp only[Az,if_true];omega) (fun h5=>addr (by omega) (AJ _) h5)
     ·rename_i hf;have hf:f=Ah:=by simpa using hf
      subst hf;simp at b9;refine .same hr.co (run (aj (by omega))) hk ?_;rw[j5,j5];exact .bi l sz _ _ Ah ob C _ _ hρ (by rw[KH];simp only[Az];omega) (by rw[KH];simp;omega) (fun h5=>addr (by omega) (AJ _) h5)
    ·rename_i m;obtain⟨M,hMk,hk⟩: ∃M:IX,MX.map a.eval=AF (.int .i64 M.val)/\(M.val=H.val/\K (.bi l sz (Iy (Az P A ro E) s L) ((Az P A ro E).T9 (nat (Az P A ro E) H) (nat (Az P A ro E) L)) An) st.h []):=by
      cases MX with
      |none=>simp[mz] at mq
      |some M=>simp[mz,AA] at mq;obtain⟨n',P2,hk⟩:=Ip (dm hr.ts mq) hk;exact⟨n',by simp[P2],hk⟩
     obtain⟨g4,hk⟩:=hk;have aj:=KD (w:=w) ht bl (aa:=aa) (len:=n) (cap:=cap) (M:=H.val.toNat) yt uw (.inr (by rw[hMk,g4,Hd])) (by omega) (AJ _) (by omega);refine .same hr.co (run aj) hk ?_;rw[j5,j5];exact .bi l sz _ _ An ob C _ _ hρ (by rw[KH];simp only[Az];omega) (by simp only[Az,if_true]) (fun h5=>addr (by omega) (by omega) h5)
  ·exact hk.elim
 ·rename_i sz' n e1;split at hk
  ·rename_i hs;have hs:=AK hs;subst hs;obtain⟨L,ij,hL⟩:=zt hr.ts kv hk;obtain⟨H,cp,hH⟩:=zt hr.ts ly ij;clear hk ij;obtain⟨g1,g2,g3,hk⟩:(0<=L.val)/\(L.val<=H.val)/\(H.val<=(n:Int))/\_:=cp;have I7:((L.val.toNat:Nat):Int)=L.val:=Aj g1;have Hd:((H.val.toNat:Nat):Int)=H.val:=Aj (by omega);have yt:(LO.map a.eval=Af/\L.val.toNat=0)\/LO.map a.eval=AF (.int .i64 (L.val.toNat:Nat)):=by
    rcases hL with⟨h1,h2⟩|h1
    ·left;simp[h1,h2,Bi]
    ·right;rw[h1,I7]
   have uw:(HI.map a.eval=Af/\H.val.toNat=n/\MX.map a.eval=Af)\/HI.map a.eval=AF (.int .i64 (H.val.toNat:Nat)):=by
    rcases hH with⟨h1,h2⟩|h1
    ·left;exact⟨by simp[h1],by simp[h2,Bi,Az],by simp[kp h1]⟩
    ·right;rw[h1,Hd]
   rw[c5m] at hk;cases h0 with
   |d hd=>
    have cut: ∀{aa:Option B6} {cap M:Nat},C3 w S (.sl sz n e1) (.slice aa n cap)->n<=cap->H.val.toNat<=M->M<=cap->
     C3 w S (.sl sz (H.val.toNat-L.val.toNat) fun j=>e1 (L.val.toNat+j)) (.slice (if M=L.val.toNat then aa else aa.map (·.add (L.val.toNat*sz))) (H.val.toNat-L.val.toNat) (M-L.val.toNat)):=by
     intro aa cap M hd GJ h1 h2;by_cases h3:H.val.toNat-L.val.toNat=0
     ·rw[h3];exact .VO _ _ _ _
     ·rw[if_neg (by omega)];cases hd with
      |VO sz e a cap=>omega
      |sl _ _ _ b off _ f hb hc hl hv vq=>simp only[A7,xi];refine .sl sz _ _ b _ _ (fun i j=>f (L.val.toNat+i) j) (fun _=>hb (by omega)) (by omega) (fun i hi=>hl _ (by omega)) (fun i hi j hj=> ?_) (fun i hi j x hx=>vq _ (by omega) j x hx);rw[<-hv (L.val.toNat+i) (by omega) j hj,Ae];congr 3;omega
    have shape: ∃aa cap,v= .slice aa n cap/\n<=cap:=by
     cases hd with
     |VO sz e a cap=>exact⟨a,cap,rfl,Cr _⟩
     |sl _ _ _ b off cap f hb hc hl hv vq=>exact⟨_,cap,rfl,hc⟩
    obtain⟨aa,cap,rfl,GJ⟩:=shape;split at hk
    ·have GC:=(QW mq).1 rfl;have aj:=KD (w:=w) ht bl (aa:=aa) yt uw (.inl ⟨by simp[GC],rfl⟩) (by omega) (by omega) (AJ cap);refine .same hr.co (run aj) hk (.d ?_);rw[j5,j5];exact cut hd GJ (by omega) (AJ _)
    ·rename_i m;obtain⟨M,hMk,hk⟩: ∃M:IX,MX.map a.eval=AF (.int .i64 M.val)/\(M.val=H.val/\K (.lm sz ((Az P A ro E).T9 (nat (Az P A ro E) H) (nat (Az P A ro E) L)) fun j=>e1 (L.val.toNat+j)) st.h []):=by
      cases MX with
      |none=>simp[mz] at mq
      |some M=>simp[mz,AA] at mq;obtain⟨n',P2,hk⟩:=Ip (dm hr.ts mq) hk;exact⟨n',by simp[P2],hk⟩
     obtain⟨g4,hk⟩:=hk;have aj:=KD (w:=w) ht bl (aa:=aa) (len:=n) (cap:=cap) (M:=H.val.toNat) yt uw (.inr (by rw[hMk,g4,Hd])) (by omega) (AJ _) (by omega);refine .same hr.co (run aj) hk ?_;rw[j5,j5];exact .lm sz _ _ _ (cut hd GJ (AJ _) (by omega))
  ·exact hk.elim
 ·obtain⟨L,ij,hL⟩:=zt hr.ts kv hk;obtain⟨H,cp,hH⟩:=zt hr.ts ly ij;clear hk ij;obtain⟨g1,g2,hk⟩:(L.val=0)/\(H.val=0)/\_:=cp;have Hs:=h0.nil;subst Hs;have yt:(LO.map a.eval=Af/\0=0)\/LO.map a.eval=AF (.int .i64 ((0:Nat):Int)):=by
   rcases hL with⟨h1,h2⟩|h1
   ·left;simp[h1]
   ·right;rw[h1,g1];rfl
  have uw:(HI.map a.eval=Af/\0=0/\MX.map a.eval=Af)\/HI.map a.eval=AF (.int .i64 ((0:Nat):Int)):=by
   rcases hH with⟨h1,h2⟩|h1
   ·left;exact⟨by simp[h1],rfl,by simp[kp h1]⟩
   ·right;rw[h1,g2];rfl
  have hM':((MX.map a.eval=Af/\0=0)\/MX.map a.eval=AF (.int .i64 ((0:Nat):Int)))/\K (.d .nil) st.h []:=by
   cases MX with
   |none=>simp[mz] at mq;subst mq;exact⟨.inl ⟨rfl,rfl⟩,hk⟩
   |some M=>simp[mz,AA] at mq;obtain⟨y,hy,rfl⟩:=mq;obtain⟨n',P2,hk⟩:=Ip (dm hr.ts hy) hk;obtain⟨g3,hk⟩:(n'.val=0)/\_:=hk;exact⟨.inr (by simp[P2,g3]),hk⟩
  have aj:=KD (w:=w) ht bl (aa:=Af) (len:=0) (cap:=0) (L:=0) (H:=0) (M:=0) yt uw hM'.1 (AJ _) (AJ _) (AJ _);exact .same hr.co (run aj) hM'.2 (.d .nil)
 ·exact hk.elim
theorem c4d {n L H:Nat}{lv hv:Option AM}(hL:(lv=Af/\L=0)\/lv=AF (.int .i64 L))(hH:(hv=Af/\H=n)\/hv=AF (.int .i64 H))(h1:L<=H)(h2:H<=n):
 (BJ Ah n n lv hv Af).run P w= .ok (L,H,n) w:=by
 have MB: ∀(i n:Nat) (code:DF),i<=n->(Bc (.int .i64 i) n code).run P w= .ok i w:=by
  intro i n code hi;have:((0:Int)<=(i:Int))/\((i:Int)<=(n:Int)):=by omega
  simp[Bc,Cl,this]
 rcases hH with⟨rfl,rfl⟩|rfl<;>rcases hL with⟨rfl,rfl⟩|rfl<;>simp[BJ,MB _ _ _ h1,MB _ _ _ h2]
theorem d8b {t e:AY}{n:Nat}{X:AX}{LO HI:Option AX}(bc:o.op= .slice t X LO HI Af)(ht:P.underlying t=AF (.array n e)){x:ah}{lo hi:Option ah}(hx:bh X=AF x)
 (kv:mz LO=AF lo) (ly:mz HI=AF hi)
 (hk:af (Az P A ro E) (.VH n x lo hi) st K) (hr:Bt E st a w S ρ) (bl:HX P e=AF 1):Bj P o a w S ρ st.h K:=by
 have h0:=dm hr.ts hx;have hs:(sizeOf e).run P w= .ok 1 w:=by simp[HX] at bl;obtain⟨i,hi,Hj⟩:=bl;simp[sizeOf,typeInfo,hi,Hj]
 simp only[af] at hk;split at hk
 ·rename_i l off e1;rw[e1] at h0;obtain⟨L,ij,hL⟩:=zt hr.ts kv hk;obtain⟨H,cp,hH⟩:=zt hr.ts ly ij;clear hk ij;obtain⟨g1,g2,g3,hk⟩:(0<=L.val)/\(L.val<=H.val)/\(H.val<=(n:Int))/\_:=cp;have I7:((L.val.toNat:Nat):Int)=L.val:=Aj g1;have Hd:((H.val.toNat:Nat):Int)=H.val:=Aj (by omega);have hb:(BJ Ah n n (LO.map a.eval) (HI.map a.eval) Af).run P w= .ok (L.val.toNat,H.val.toNat,n) w:=by
   have yt:(LO.map a.eval=Af/\L.val.toNat=0)\/LO.map a.eval=AF (.int .i64 (L.val.toNat:Nat)):=by
    rcases hL with⟨h1,h2⟩|h1
    ·left;simp[h1,h2,Bi]
    ·right;rw[h1,I7]
   have uw:(HI.map a.eval=Af/\H.val.toNat=n)\/HI.map a.eval=AF (.int .i64 (H.val.toNat:Nat)):=by
    rcases hH with⟨h1,h2⟩|h1
    ·left;exact⟨by simp[h1],by simp[h2,Bi]⟩
    ·right;rw[h1,Hd]
   exact c4d yt uw (by omega) (by omega)
  cases h:a.eval X with
  |pointer pa=>
   rw[h] at h0;cases h0 with
   |ptr _ _ b C hρ=>
    have aj:(AS a.eval o).run P w= .ok (.value (.slice (AF (if n=L.val.toNat then⟨b,off,Af⟩ else (⟨b,off,Af⟩:B6).add (L.val.toNat*1))) (H.val.toNat-L.val.toNat) (n-L.val.toNat))) w:=by simp[AS,bc,h,BD,AI ht,Instr.sureAddr,hb,hs]
    rw[j5,j5] at hk;have hk:match H.val.toNat-L.val.toNat with
     |0=>K (.d (.sl 1 0 fun _=>[])) st.h []
     |m+1=>K (.d7 l (off+L.val.toNat) (m+1)) st.h []:=hk
    split at hk
    ·rename_i h0;rw[h0] at aj;exact .same hr.co aj hk (.d (.VO 1 _ _ _))
    ·rename_i m h0;rw[if_neg (by omega),h0] at aj;refine .same hr.co aj hk ?_;rw[xi,Bn];exact .d7 l (off+L.val.toNat) (m+1) b C _ hρ (by omega)
  |_=>rw[h] at h0;cases h0
 ·exact hk.elim
end
section
variable {P:B9} {A:t7} {ro:Option Nat} {E:x4} {c:Nat} {o:Oper} {io:qr} {st:St} {K:AV->List ae->List Nat->Prop}
 {a:Cp} {w:A4} {S:Nat->Prop} {ρ:Cg} {h:List ae}
theorem Mb {b:Builtin}{args:Array AX}{u7:Array AY}(bc:o.op= .call {callee:= .builtin b,args,argTypes:=u7}):
 ∃cs,AS a.eval o=builtin b u7 o.type cs (args.map a.eval):=by
 exact⟨_,by simp[AS,bc,Bm,Bw];rfl⟩
theorem e9h {t e:AY}{X:AX}(bc:o.op= .call {callee:= .builtin .len,args:= #[X],argTypes:= #[t]})(ht:P.underlying t=AF (.slice e))
 {x:ah} (hx:bh X=AF x) (hk:af (Az P A ro E) (.len x) st K) (hr:Bt E st a w S ρ):Bj P o a w S ρ st.h K:=by
 have h0:=dm hr.ts hx;obtain⟨cs,hex⟩:=Mb (a:=a) bc;simp only[af] at hk;have sl: ∀{aa:Option B6} {n cap:Nat},a.eval X= .slice aa n cap->K (.d (.int .i64 (.v n))) st.h []->Bj P o a w S ρ st.h K:=by intro aa n cap hv hk;exact .same hr.co (v:= .int .i64 n) (by rw[hex];simp[builtin,Bp,AI ht,hv,CF]) hk (.d (.int .i64 (.v n)))
 split at hk
 ·rename_i e1;rw[e1] at h0;exact .same hr.co (v:= .int .i64 0) (by rw[hex];simp[builtin,Bp,AI ht,h0.nil,CF]) hk (.d (.int .i64 (.l 0)))
 ·rename_i sz n e' e1;rw[e1] at h0;generalize hv:a.eval X=v at h0;cases h0 with
  |d hd=>cases hd<;>exact sl hv hk
 ·rename_i sz n e' e1;rw[e1] at h0;generalize hv:a.eval X=v at h0;cases h0 with
  |lm _ _ _ aa hd=>exact sl hv hk
 ·rename_i l sz s n f e1;rw[e1] at h0;generalize hv:a.eval X=v at h0;cases h0 with
  |bi _ _ _ _ _ ob C cap aa hρ hc b9 ha=>exact sl hv hk
 ·rename_i l off n e1;rw[e1] at h0;generalize hv:a.eval X=v at h0;cases h0 with
  |d7 _ _ _ b C cap hρ hc=>exact sl hv hk
 ·exact hk.elim
theorem e0y {t k e:AY}{X:AX}(bc:o.op= .call {callee:= .builtin .len,args:= #[X],argTypes:= #[t]})(ht:P.underlying t=AF (.map k e))
 {x:ah} (hx:bh X=AF x) (hk:af (Az P A ro E) (.V8 x) st K) (hr:Bt E st a w S ρ):Bj P o a w S ρ st.h K:=by
 have h0:=dm hr.ts hx;obtain⟨cs,hex⟩:=Mb (a:=a) bc;simp only[af,cy] at hk;split at hk
 ·rename_i l e1;rw[e1] at h0;split at hk
  ·rename_i wide ks n f hl;generalize hv:a.eval X=v at h0;cases h0 with
   |map _ b C hρ=>
    obtain⟨oo,h1,h2⟩:=hr.co.obj l _ C hρ;rw[hl] at h1;cases h1;obtain⟨es,clock,h3,h4⟩:=h2;refine .same hr.co (v:= .int .i64 n) ?_ hk (.d (.int .i64 (.v n)));have hg:(Cv b).run P w= .ok (.map es clock) w:=by simp[Cv,C4,h3]
    have:es.size=n:=by have:=h4.len;simpa using this
    rw[hex];simp[builtin,Bp,AI ht,hv,CF,hg,this]
  ·rename_i wide ks keys ap hl;generalize hv:a.eval X=v at h0;cases h0 with
   |map _ b C hρ=>
    obtain⟨oo,h1,h2⟩:=hr.co.obj l _ C hρ;rw[hl] at h1;cases h1;obtain⟨es,clock,h3,h4,_⟩:=h2;rw[cv] at hk;refine .same hr.co (v:= .int .i64 keys.length) ?_ hk (.d (.int .i64 (.v keys.length)));have hg:(Cv b).run P w= .ok (.map es clock) w:=by simp[Cv,C4,h3]
    have:es.size=keys.length:=by have:=h4.len;simpa using this.symm
    rw[hex];simp[builtin,Bp,AI ht,hv,CF,hg,this]
  ·exact hk.elim
 ·exact hk.elim
theorem f0a {t e:AY}{X:AX}(bc:o.op= .call {callee:= .builtin .cap,args:= #[X],argTypes:= #[t]})(ht:P.underlying t=AF (.slice e))
 {x:ah} (hx:bh X=AF x) (hk:af (Az P A ro E) (.cap x) st K) (hr:Bt E st a w S ρ):Bj P o a w S ρ st.h K:=by
 have h0:=dm hr.ts hx;obtain⟨cs,hex⟩:=Mb (a:=a) bc;simp only[af,cy] at hk;split at hk
 ·rename_i l sz s n f e1;rw[e1] at h0;split at hk
  ·rename_i sz' m e' hl;split at hk
   ·rename_i hs;generalize hv:a.eval X=v at h0;cases h0 with
    |bi _ _ _ _ _ ob C cap aa hρ hc b9 ha=>
     have run:(AS a.eval o).run P w= .ok (.value (.int .i64 cap)) w:=by rw[hex];simp[builtin,DE,AI ht,hv,CF]
     split at hk
     ·rename_i hf;rw[hf] at b9;simp at b9;subst b9;exact .same hr.co run hk (.d (.int .i64 (.v (cap:Nat))))
     ·rename_i hf;have hf:f=Ah:=by simpa using hf
      subst hf;simp at b9;obtain⟨oo,h1,h2⟩:=hr.co.obj l ob C hρ;rw[hl] at h1;cases h1;have hmC:m<=C:=by
       cases ob with
       |none=>obtain⟨hC,qf,e2,h3|h3⟩:=h2<;>cases h3;omega
       |some b=>obtain⟨vs,ty,h3,h4,h5,h6⟩:=h2;exact h5
      refine .same hr.co run hk (.ge _ _ ?_);have:f7l (Az P A ro E) m s=m-s.getD 0:=by cases s<;>rfl
      rw[this];omega
   ·exact hk.elim
  ·exact hk.elim
 ·exact hk.elim
theorem f2j {u7:Array AY}{X Y:AX}(bc:o.op= .call {callee:= .builtin .min,args:= #[X,Y],argTypes:=u7}){x y:ah}(hx:bh X=AF x)(hy:bh Y=AF y)
 (hk:af (Az P A ro E) (.min x y) st K) (hr:Bt E st a w S ρ):Bj P o a w S ρ st.h K:=by
 have h0:=dm hr.ts hx;have h1:=dm hr.ts hy;obtain⟨cs,hex⟩:=Mb (a:=a) bc;simp only[af] at hk;split at hk
 ·rename_i k1 n1 k2 n2 e1 e2;rw[e1] at h0;rw[e2] at h1;split at hk
  ·rename_i ke;subst ke;refine .same hr.co (v:= .int k1 ((Az P A ro E).VY ((Az P A ro E).Vu n2.val n1.val) n2.val n1.val)) ?_ hk (.d (.int k1 (.v _)));have e:(Az P A ro E).VY ((Az P A ro E).Vu n2.val n1.val) n2.val n1.val=if n2.val<n1.val then n2.val else n1.val:=by simp[Az]
   rw[hex,e];simp[builtin,C9,DA,h0.int,h1.int]
  ·exact hk.elim
 ·exact hk.elim
theorem f0m {u7:Array AY}{X Y:AX}(bc:o.op= .call {callee:= .builtin .max,args:= #[X,Y],argTypes:=u7}){x y:ah}(hx:bh X=AF x)(hy:bh Y=AF y)
 (hk:af (Az P A ro E) (.max x y) st K) (hr:Bt E st a w S ρ):Bj P o a w S ρ st.h K:=by
 have h0:=dm hr.ts hx;have h1:=dm hr.ts hy;obtain⟨cs,hex⟩:=Mb (a:=a) bc;simp only[af] at hk;split at hk
 ·rename_i k1 n1 k2 n2 e1 e2;rw[e1] at h0;rw[e2] at h1;split at hk
  ·rename_i ke;subst ke;refine .same hr.co (v:= .int k1 ((Az P A ro E).VY ((Az P A ro E).Vu n1.val n2.val) n2.val n1.val)) ?_ hk (.d (.int k1 (.v _)));have e:(Az P A ro E).VY ((Az P A ro E).Vu n1.val n2.val) n2.val n1.val=if n1.val<n2.val then n2.val else n1.val:=by simp[Az]
   rw[hex,e];simp[builtin,DB,DC,h0.int,h1.int]
  ·exact hk.elim
 ·exact hk.elim
theorem d9g {t:AY}(bc:o.op= .makeMap t Af){wide:Bool}{ks:List Ai}(hk:af (Az P A ro E) (.x6 wide ks) st K)(hr:Bt E st a w S ρ):Bj P o a w S ρ st.h K:=by have hn:ρ st.h.length=Af:=hr.co.fresh (AJ _);simp only[af,cv,fi] at hk;refine⟨.map (AF w.heap.size),{w with heap:=w.heap.push (.map #[] 0)},_,_,[],S,_,.inl ?_,hk,n8.new hr.co hn (.map #[] 0) (.map wide ks 0 fun _=>Af) 0 (fun w' gd=>⟨#[],0,by rw[gd];simp,⟨rfl,by simp,by simp,fun k=>rfl,by simp⟩⟩),.map _ w.heap.size 0 (by simp)⟩;simp[AS,bc,Ce]
theorem c3i {t:AY}(bc:o.op= .makeMap t Af){wide:Bool}{ks:List Ai}(hk:af (Az P A ro E) (.og wide ks) st K)(hr:Bt E st a w S ρ):Bj P o a w S ρ st.h K:=by have hn:ρ st.h.length=Af:=hr.co.fresh (AJ _);simp only[af,cv,fi] at hk;refine⟨.map (AF w.heap.size),{w with heap:=w.heap.push (.map #[] 0)},_,_,[],S,_,.inl ?_,hk,n8.new hr.co hn (.map #[] 0) (.dz wide ks [] []) 0 (fun w' gd=>⟨#[],0,by rw[gd];simp,⟨rfl,by simp,by simp,by simp,by simp⟩,⟨rfl,rfl⟩,by simp⟩),.map _ w.heap.size 0 (by simp)⟩;simp[AS,bc,Ce]
end
theorem MT (ro:Option Nat)(f:Ci):(ri ro).fn f:=by cases ro<;>trivial
theorem b1e (ro:Option Nat):(ri ro).depth=Af:=by cases ro<;>rfl
theorem Sb (ro:Option Nat):(ri ro).round=ro:=by cases ro<;>rfl
section
variable {P:B9} {A:t7} {ro:Option Nat} {E:x4} {c:Nat} {o:Oper} {io:qr} {st:St} {K:AV->List ae->List Nat->Prop}
 {a:Cp} {w:A4} {S:Nat->Prop} {ρ:Cg} {h:List ae} {next:Cp->A4->Prop} {Q:Exit->Cp->A4->Prop}
theorem Wb.wpIn (hd: ∀c,o.op≠ .defer c)(hy:Bj P o a w S ρ h K)
 (hn: ∀x h' pg v w' S' ρ',K x h' pg->Cx w S ρ h w' S' ρ' h' pg->VR w' S' ρ' x v->next (a.put o.dst v) w'):o.wpIn (ri ro) 0 P a w next Q:=by
 obtain⟨v,w',x,h',pg,S',ρ',aj,hk,hc,hv⟩:=hy;refine⟨fun f _=>MT ro f,?_⟩;rw[Sb,Oper.semAt_eq ro a.eval o hd];rcases aj with aj|⟨aj,rfl⟩
 ·rw[aj];exact hn x h' pg v w' S' ρ' hk hc hv
 ·rw[aj];exact hn x h' pg CX w' S' ρ' hk hc hv
theorem b4h {f:Ci}{vs:Array AM}{R:Ending->A4->Prop}(hc:Calls P f vs w R):CallsIn (ri ro) 0 P f vs w R:=by
 cases ro with
 |none=>exact Cz.2 hc
 |some l=>exact CallsIn.inRound l (Cz.2 hc)
theorem Vb {F:AX}{args:Array AX}{u7:Array AY}(bc:o.op= .call {callee:= .value F,args,argTypes:=u7}){f:Ci}{us cs:Array AM}(hF:a.eval F= .func (.func f) us cs)(he:RM P f)
 {R:AM->A4->Prop} (hc:Calls P f (us++args.map a.eval++cs) w fun e w'=> ∃v,e= .returned v/\R v w') (hn: ∀v w',R v w'->next (a.put o.dst v) w'):o.wpIn (ri ro) 0 P a w next Q:=by
 obtain⟨fn,h1,h2,h3⟩:=he;refine⟨fun f _=>MT ro f,?_⟩;rw[Sb,Oper.semAt_eq ro a.eval o (fun c h=>by rw[bc] at h;cases h)];have aj:(AS a.eval o).run P w= .ok (.enter f (us++args.map a.eval++cs)) w:=by simp[AS,bc,Bm,hF,Bq,Bw,callFunc,h1,h2,h3]
 rw[aj,Oper.uponIn_enter];refine⟨(fun h=>by rw[b1e] at h;cases h),?_⟩;refine (b4h (ro:=ro) hc).mono fun e w' he=> ?_;obtain⟨v,rfl,hR⟩:=he;exact hn v w' hR
theorem Vw.app {xs ys:List AV}{us vs:Array AM}(h1:Cb w S ρ xs us)(h2:Cb w S ρ ys vs):Cb w S ρ (xs++ys) (us++vs):=by
 refine⟨by simp[h1.1,h2.1],fun i x v hx hv=> ?_⟩;by_cases hi:i<xs.length
 ·rw[AE hi] at hx;rw[BX (by rw[<-h1.1];exact hi)] at hv;exact h1.2 i x v hx hv
 ·rw[AD (by omega)] at hx;rw[Bz (by rw[<-h1.1];omega)] at hv;rw[<-h1.1] at hv;exact h2.2 _ x v hx hv
theorem Vw.norm {xs:List AV}{vs:Array AM}(h:Cb w S ρ xs vs):Cb w S ρ (BO xs) vs:=by
 refine⟨by simpa [Cy] using h.1,fun i x v hx hv=> ?_⟩;rw[Cy,AZ] at hx;cases hc:xs[i]? with
 |none=>simp[hc] at hx
 |some y=>simp[hc] at hx;subst hx;exact (h.2 i y v hc hv).norm
theorem d5x {x:AV}{v:AM}(hf:x.free=An)(hv:VR w S ρ x v):VR w S my x v:=by
 cases hv with
 |d h=>exact .d h
 |lm sz n e a h=>exact .lm sz n e a h
 |d9 row off b base f hb hv hr=>exact .d9 row off b base f hb hv hr
 |fn f first cap us vs nw h1 hl h=>
  cases first with
  |nil=>
   cases cap with
   |nil=>exact .fn f [] [] us vs nw (by simp) hl (by simp)
   |cons x l=>simp[Ct] at hf
  |cons x l=>simp[Ct] at hf
 |_=>simp[Ct] at hf
theorem d2e {cs:List AV}(h:sd.V7 cs=An): ∀x,x∈cs->x.free=An:=by
 induction cs with
 |nil=>simp
 |cons c cs ih=>
  simp only[sd.V7] at h;split at h
  ·rename_i h1;intro x hx;rcases Ch.1 hx with rfl|hx
   ·exact h1
   ·exact ih h x hx
  ·cases h
theorem Sl {xs:List AV}(hf:sd xs=An): ∀{vs:List AM},(∀(i:Nat) (x:AV) (v:AM),xs[i]? =AF x->vs[i]? =AF v->VR w S ρ x v)->
 ∀(i:Nat) (x:AV) (v:AM),xs[i]? =AF x->vs[i]? =AF v->VR w S my x v:=by
 induction xs with
 |nil=>intro vs _ i x v hx;simp at hx
 |cons c xs ih=>
  intro vs hv i x v hx hu;have hc:(∀v,VR w S ρ c v->VR w S my c v)/\sd xs=An:=by
   unfold sd at hf;split at hf
   ·rename_i heq;cases heq
   ·rename_i heq;cases heq;split at hf
    ·rename_i h1;refine⟨fun v hv=> ?_,hf⟩;cases hv with
     |agg cs us hl h=>exact .agg _ us hl fun i x v hx hv=>d5x (d2e h1 x (Am hx)) (h i x v hx hv)
    ·cases hf
   ·rename_i heq;cases heq;split at hf
    ·rename_i h1;exact⟨fun v hv=>d5x h1 hv,hf⟩
    ·cases hf
  cases i with
  |zero=>simp at hx;subst hx;exact hc.1 v (hv 0 _ v (by simp) hu)
  |succ i=>
   cases vs with
   |nil=>simp at hu
   |cons u vs=>exact ih hc.2 (vs:=vs) (fun j y z hy hz=>hv (j+1) y z (by simpa using hy) (by simpa using hz)) i x v (by simpa using hx) (by simpa using hu)
theorem n8.X1 {w1 w2:A4}{S1 S2:Nat->Prop}{ρ1 ρ2:Cg}{h1 h2:List ae}(c1:Cx w S ρ h w1 S1 ρ1 h1 [])(c2:Cx w1 S1 ρ1 h1 w2 S2 ρ2 h2 []):Cx w S ρ h w2 S2 ρ2 h2 []:=
 ⟨c2.co,CI c1.len c2.len,c1.ext.trans c2.ext,fun m p hm hp=>c2.v9 m p hm (c1.v9 m p hm hp),fun m hm hp=>(c2.low m (Bb hm c1.len) hp).trans (c1.low m hm hp)⟩
theorem TN {w':A4}{S1:Nat->Prop}(hs:Cm w S ρ h)(h4: ∀b,S1 b->S b\/(w.heap.size<=b/\b<w'.heap.size))(h5:H5 w w'):Cx w S ρ h w' (fun b=>S b\/S1 b) ρ h []:=by
 have rj: ∀b,S b->w'.heap[b]? =w.heap[b]? :=fun b hb=>h5.frame b (hs.i0 b hb);refine⟨⟨fun b hb=> ?_,fun l ob C hl=> ?_,hs.inj,fun l b C ao hl ju hf=> ?_⟩,AJ _,
  ⟨h5.os,h5.tape,h5.output,h5.size,fun _ h=> .inl h,rj,fun b hb=> ?_,fun b hb _=>h5.frame b hb,fun l b C hl=> .inr ⟨l,C,hl⟩⟩,fun _ _ _ h=>h,fun _ _ _=>rfl⟩
 ·rcases hb with hb|hb
  ·exact Bb (hs.i0 b hb) h5.size
  ·rcases h4 b hb with hb|hb
   ·exact Bb (hs.i0 b hb) h5.size
   ·exact hb.2
 ·obtain⟨oo,h6,h7⟩:=hs.obj l ob C hl;refine⟨oo,h6,?_⟩;cases ob with
  |none=>exact h7
  |some b=>exact fv.mono (fun _ h=> .inl h) rj (fun _ _ h=>h) (h5.frame b (hs.V2 hl)) h7
 ·intro hb;have:S b:=by
   rcases hb with hb|hb
   ·exact hb
   ·rcases h4 b hb with hb|hb
    ·exact hb
    ·have:=hs.V2 hl;omega
  exact hs.own l b C ao hl ju hf this
 ·rcases hb with hb|hb
  ·exact .inl hb
  ·rcases h4 b hb with hb|hb
   ·exact .inl hb
   ·exact .inr (.inl hb.1)
theorem AV.kw (k:Nat)(l:List AV):Cf k l=l.map (AV.shift k):=by
 induction l with
 |nil=>rfl
 |cons x l ih=>simp[Cf,ih]
theorem b7n (k:Nat)(l:List ae):KF k l=l.map (ae.shift k):=by
 induction l with
 |nil=>rfl
 |cons x l ih=>simp[KF,ih]
theorem VR.shift {ρ':Cg}(k:Nat)(hρ: ∀m p,ρ m=AF p->ρ' (k+m)=AF p){x:AV}{v:AM}(hv:VR w S ρ x v):VR w S ρ' (x.shift k) v:=by
 have key: ∀{cs:List AV} {vs:Array AM},(∀(i:Nat) (x:AV) (v:AM),cs[i]? =AF x->vs[i]? =AF v->VR w S ρ' (x.shift k) v)->
  ∀(i:Nat) (x:AV) (v:AM),(Cf k cs)[i]? =AF x->vs[i]? =AF v->VR w S ρ' x v:=by
  intro cs vs ih i x v hx hv;rw[AV.kw,AZ] at hx;cases hc:cs[i]? with
  |none=>simp[hc] at hx
  |some y=>simp[hc] at hx;subst hx;exact ih i y v hc hv
 induction hv with
 |d h=>exact .d h
 |any v=>exact .any v
 |lc=>exact .lc
 |agg cs vs hl _ ih=>exact .agg _ vs (by simpa [AV.kw] using hl) (key ih)
 |tuple cs vs hl _ ih=>exact .tuple _ vs (by simpa [AV.kw] using hl) (key ih)
 |ptr m off b C h=>exact .ptr _ off b C (hρ _ _ h)
 |ii m sz i off b C h=>exact .ii _ sz i off b C (hρ _ _ h)
 |d9 row off b base f hb hv hr=>exact .d9 row off b base f hb hv hr
 |lm sz n e a h=>exact .lm sz n e a h
 |bi m sz start len full ob C cap a h hc b9 ha=>exact .bi _ sz start len full ob C cap a (hρ _ _ h) hc b9 ha
 |d7 m off n b C cap h hc=>exact .d7 _ off n b C cap (hρ _ _ h) hc
 |map m b C h=>exact .map _ b C (hρ _ _ h)
 |ge m n h=>exact .ge m n h
 |yl m b C h=>exact .yl _ b C (hρ _ _ h)
 |fn f first cap us vs nw _ hl _ uz ih=>exact .fn f _ _ us vs (by simpa [AV.kw] using nw) (key uz) (by simpa [AV.kw] using hl) (key ih)
theorem fv.shift {ρ':Cg}(k:Nat)(hρ: ∀m p,ρ m=AF p->ρ' (k+m)=AF p){b C:Nat}{oo:ae}(hv:fv w S ρ b C oo):fv w S ρ' b C (oo.shift k):=by
 cases oo with
 |var cs=>
  obtain⟨vs,ty,h1,h2,h3⟩:=hv;refine⟨vs,ty,h1,by simpa [AV.kw] using h2,fun i x v hx hv=> ?_⟩;rw[AV.kw,AZ] at hx;cases hc:cs[i]? with
  |none=>simp[hc] at hx
  |some y=>simp[hc] at hx;subst hx;exact (h3 i y v hc hv).shift k hρ
 |arr sz n e=>exact hv
 |t0 sz n e=>exact hv
 |map wide ks n f=>exact hv
 |n7 ap=>
  obtain⟨vs,ty,h1,h2,h3,h4⟩:=hv;refine⟨vs,ty,h1,h2,by simpa [AV.kw] using h3,fun i x v hx hv=> ?_⟩;rw[AV.kw,AZ] at hx;cases hc:ap[i]? with
  |none=>simp[hc] at hx
  |some y=>simp[hc] at hx;subst hx;exact (h4 i y v hc hv).shift k hρ
 |dz wide ks keys ap=>
  obtain⟨es,clock,h1,h2,h3,h4⟩:=hv;refine⟨es,clock,h1,h2,by simpa [AV.kw] using h3,fun i x v hx hv=> ?_⟩;rw[AV.kw,AZ] at hx;cases hc:ap[i]? with
  |none=>simp[hc] at hx
  |some y=>simp[hc] at hx;subst hx;exact (h4 i y v hc hv).shift k hρ
 |loop s ts ps code=>
  obtain⟨r,h1,h2,h3,h4,h5,h6,h7⟩:=hv;refine⟨r,h1,h2,h3,h4,h5,by simpa [AV.kw] using h6,fun i x v hx hv=> ?_⟩;rw[AV.kw,AZ] at hx;cases hc:ts[i]? with
  |none=>simp[hc] at hx
  |some y=>simp[hc] at hx;subst hx;exact (h7 i y v hc hv).shift k hρ
 |gone=>exact hv
 |iter m since seen=>obtain⟨bm,h1,h2⟩:=hv;exact⟨bm,h1,h2.shift k hρ⟩
theorem b7a (k:Nat)(oo:ae):(oo.shift k).frozen=oo.frozen:=by cases oo<;>rfl
theorem d6g {w':A4}{S1:Nat->Prop}{ρ1:Cg}{os:List ae}(hs:Cm w S ρ h)(h1:Cm w' S1 ρ1 os)(hm: ∀b,S b->S1 b)(h4: ∀b,S1 b->S b\/w.heap.size<=b)
 (h3: ∀l b C,ρ1 l=AF (AF b,C)->w.heap.size<=b) (h5:H5 w w'):
 ∃ρ',Cx w S ρ h w' S1 ρ' (h++KF h.length os) []/\ ∀m p,ρ1 m=AF p->ρ' (h.length+m)=AF p:=by
 have rj: ∀b,S b->w'.heap[b]? =w.heap[b]? :=fun b hb=>h5.frame b (hs.i0 b hb);have e1: ∀m,m<h.length->(fun m=>if m<h.length then ρ m else ρ1 (m-h.length)) m=ρ m:=fun m hm=>if_pos hm;have e2: ∀m,(fun m=>if m<h.length then ρ m else ρ1 (m-h.length)) (h.length+m)=ρ1 m:=fun m=>by show (if h.length+m<h.length then _ else _)=_;rw[if_neg (by omega),show h.length+m-h.length=m by omega]
 have lt: ∀{m p},ρ m=AF p->m<h.length:=fun {m p} hp=>Bx fun hle=>by rw[hs.fresh hle] at hp;cases hp
 generalize (fun m=>if m<h.length then ρ m else ρ1 (m-h.length))=ρ' at e1 e2;have Rf: ∀m p,ρ' m=AF p->(m<h.length/\ρ m=AF p)\/(h.length<=m/\ρ1 (m-h.length)=AF p):=by
  intro m p hp;by_cases hlt:m<h.length
  ·exact .inl ⟨hlt,by rw[<-e1 m hlt];exact hp⟩
  ·refine .inr ⟨by omega,?_⟩;rw[<-e2 (m-h.length),show h.length+(m-h.length)=m by omega];exact hp
 refine⟨ρ',⟨⟨h1.i0,fun m ob C nq=> ?_,fun m m' b C C' hp Ij=> ?_,fun m b C ao nq ju hf=> ?_⟩,by simp,⟨h5.os,h5.tape,h5.output,h5.size,hm,rj,fun b hb=> ?_,fun b hb _=>h5.frame b hb,fun l b C hl=> ?_⟩,fun m p _ hp=> ?_,fun m nq _=>e1 m nq⟩,fun m p hp=>by rw[e2];exact hp⟩
 ·rcases Rf m _ nq with⟨hlt,hp⟩|⟨hle,hp⟩
  ·obtain⟨oo,h6,h7⟩:=hs.obj m ob C hp;refine⟨oo,by show (h++_)[m]? =_;rw[AE hlt];exact h6,?_⟩;cases ob with
   |none=>exact h7
   |some b=>exact fv.mono hm rj (fun m' p Ij=>by rw[e1 m' (lt Ij)];exact Ij) (h5.frame b (hs.V2 hp)) h7
  ·obtain⟨oo,h6,h7⟩:=h1.obj _ ob C hp;refine⟨oo.shift h.length,by show (h++_)[m]? =_;rw[AD hle,b7n,AZ,h6];rfl,?_⟩;cases ob with
   |none=>
    obtain⟨h8,sz,e,h9⟩:=h7;refine⟨h8,sz,e,?_⟩;rcases h9 with rfl|rfl
    ·exact .inl rfl
    ·exact .inr rfl
   |some b=>exact fv.shift h.length (fun m' p Ij=>by rw[e2];exact Ij) h7
 ·rcases Rf m _ hp with⟨h6,h7⟩|⟨h6,h7⟩<;>rcases Rf m' _ Ij with⟨h8,h9⟩|⟨h8,h9⟩
  ·exact hs.inj _ _ _ _ _ h7 h9
  ·have:=hs.V2 h7;have:=h3 _ _ _ h9;omega
  ·have:=hs.V2 h9;have:=h3 _ _ _ h7;omega
  ·have:=h1.inj _ _ _ _ _ h7 h9;omega
 ·replace ju:(h++KF h.length os)[m]? =AF ao:=ju
  rcases Rf m _ nq with⟨hlt,hp⟩|⟨hle,hp⟩
  ·rw[AE hlt] at ju;intro hb;rcases h4 b hb with hb|hb
   ·exact hs.own m b C ao hp ju hf hb
   ·have:=hs.V2 hp;omega
  ·rw[AD hle,b7n,AZ] at ju;cases hc:os[m-h.length]? with
   |none=>simp[hc] at ju
   |some oo=>simp[hc] at ju;subst ju;exact h1.own _ b C oo hp hc (by rw[<-b7a h.length oo];exact hf)
 ·rcases h4 b hb with hb|hb
  ·exact .inl hb
  ·exact .inr (.inl hb)
 ·rcases Rf l _ hl with⟨h6,h7⟩|⟨h6,h7⟩
  ·exact .inr ⟨l,C,h7⟩
  ·exact .inl (h3 _ _ _ h7)
 ·rw[e1 m (lt hp)];exact hp
theorem e3c {x:AV}{v:AM}(h:VR w S ρ x v):VR w S ρ (MU x) v:=by
 unfold MU;split
 ·rename_i f us vs;split
  ·rename_i hc;have e:=h.raw;subst e;simp only[BB,Nat.beq_eq] at hc;exact .fn f [] [] us vs (by simp[hc.1]) (by simp) (by simp[hc.2]) (by simp)
  ·exact .any _
 ·exact h
theorem d5f {F:AX}{args:Array AX}{u7:Array AY}(bc:o.op= .call {callee:= .value F,args,argTypes:=u7}){f:ah}{as:List ah}{m:Mode}(hf:bh F=AF f)(has:NF args=AF as)
 (hk:af (Az P A ro E) (.call f as m) st K) (hr:Bt E st a w S ρ)
 (hn: ∀x h' pg v w' S' ρ',K x h' pg->Cx w S ρ st.h w' S' ρ' h' pg->VR w' S' ρ' x v->next (a.put o.dst v) w'):o.wpIn (ri ro) 0 P a w next Q:=by
 have h0:=e3c (dm hr.ts hf);have h1:=c9w hr.ts has;simp only[af] at hk;split at hk
 ·rename_i g first cap e1
  rw[e1] at h0;generalize hv:a.eval F=v at h0;cases h0 with
  |fn _ _ _ us cs nw sq qt jh=>
   have mj:Cb w S ρ (ba first (ba (tg st.ts as) cap)) (us++args.map a.eval++cs):=by rw[fi,fi,<-Aa];exact Vw.app (Vw.app ⟨nw,sq⟩ h1) ⟨qt,jh⟩
   revert mj hk;generalize ba first (ba (tg st.ts as) cap)=xs
   intro hk mj;have f9: ∀(i:Nat) (x:AV) (v:AM),xs[i]? =AF x->(us++args.map a.eval++cs).toList[i]? =AF v->VR w S ρ x v:=
    fun i x v hx hv=>mj.2 i x v hx (by rw[<-AW];exact hv)
   have back: ∀{S1:Nat->Prop} {lg:List AV},lg.length=(us++args.map a.eval++cs).toList.length->sd lg=An->
    (∀(i:Nat) (x:AV) (v:AM),lg[i]? =AF x->(us++args.map a.eval++cs).toList[i]? =AF v->VR w S1 ρ x v)->Cb w S1 my (BO lg) (us++args.map a.eval++cs):=
    fun hl vo fc=>Vw.norm ⟨by simpa using hl,fun i x v hx hv=>Sl vo fc i x v hx (by rw[AW];exact hv)⟩
   have pure: ∀{own:Bool} {S0 S1:Nat->Prop} {h':List ae} {lg:List AV} {r:AV},au P own g (BO lg) r->Cx w S ρ st.h w S1 ρ h' []->(∀b,S0 b->b<w.heap.size)->(own=Ah-> ∀b,S0 b->S1 b)->
    Cb w S0 my (BO lg) (us++args.map a.eval++cs)->K r h' []->o.wpIn (ri ro) 0 P a w next Q:=by
    intro own S0 S1 h' lg r hp c1 ll W3 jo hk;obtain⟨xr,P8⟩:=hp;refine Vb bc hv xr (P8 w S0 _ ll jo|>.mono fun e w' he=> ?_) (R:=fun v w'=> ∃S',VR w' S' my r v/\(∀b,S' b->(own=Ah/\S0 b)\/(w.heap.size<=b/\b<w'.heap.size))/\H5 w w') fun v w' hR=> ?_
    ·obtain⟨v,S',h2,h3,h4,h5⟩:=he;exact⟨v,h2,S',h3,h4,h5⟩
    ·obtain⟨S2,h3,h4,h5⟩:=hR;have c2:=TN (S1:=S2) c1.co (fun b hb=>(h4 b hb).imp (fun hb=>W3 hb.1 b hb.2) id) h5;exact hn r h' [] v w' _ ρ hk (c1.X1 c2) (h3.mono (fun _ h=> .inr h) (fun _ _=>rfl) (fun l p hp=>by cases hp))
   cases m with
   |borrow=>
    simp only at hk;obtain⟨lg,hk,bu,fc⟩:=d9k hr.co (vs:=(us++args.map a.eval++cs).toList) (by simpa using mj.1) f9 hk;split at hk
    ·rename_i vo;obtain⟨r,hp,hk⟩: ∃r,au P An g (BO lg) r/\K r st.h []:=hk;exact pure hp (.refl hr.co) (fun _ h=>h) (fun h=>by cases h) (back bu vo fc) hk
    ·exact hk.elim
   |data=>
    simp only at hk;split at hk
    ·rename_i vo;obtain⟨r,hp,hk⟩: ∃r,au P Ah g (BO xs) r/\K r st.h []:=hk;exact pure hp (.refl hr.co) hr.co.i0 (fun _ _ h=>h) (back (by simpa using mj.1) vo f9) hk
    ·exact hk.elim
   |share=>
    simp only at hk;obtain⟨lg,h',S1,hk,k1,bu,fc⟩:=Vm hr.co (vs:=(us++args.map a.eval++cs).toList) (by simpa using mj.1) f9 hk;split at hk
    ·rename_i vo;obtain⟨r,hp,hk⟩: ∃r,au P Ah g (BO lg) r/\K r h' []:=hk;exact pure hp k1.W0 k1.co.i0 (fun _ _ h=>h) (back bu vo fc) hk
    ·exact hk.elim
   |fresh=>
    simp only at hk;obtain⟨lg,h',S1,hk,k1,bu,fc⟩:=Vm hr.co (vs:=(us++args.map a.eval++cs).toList) (by simpa using mj.1) f9 hk;split at hk
    ·rename_i vo;obtain⟨xr,fq⟩:Mx P g (BO lg) fun x os=>K (x.shift (az h')) (ba h' (KF (az h') os)) []:=hk;refine Vb bc hv xr (fq w S1 _ k1.co.i0 (back bu vo fc)|>.mono fun e w' he=> ?_) (R:=fun v w'=> ∃x os S' ρ',K (x.shift (az h')) (ba h' (KF (az h') os)) []/\VR w' S' ρ' x v/\Cm w' S' ρ' os/\(∀b,S1 b->S' b)/\(∀b,S' b->S1 b\/w.heap.size<=b)/\
      (∀l b C,ρ' l=AF (AF b,C)->w.heap.size<=b)/\H5 w w') fun v w' hR=> ?_
     ·obtain⟨v,x,os,S',ρ',h2,h3⟩:=he;exact⟨v,h2,x,os,S',ρ',h3⟩
     ·obtain⟨x,os,S',ρ',h3,h4,h5,h6,h7,h8,h9⟩:=hR;obtain⟨ρ2,c2,Nr⟩:=d6g k1.co h5 h6 h7 h8 h9;rw[cv,fi] at h3;exact hn _ _ [] v w' S' ρ2 h3 (k1.W0.X1 c2) (h4.shift h'.length Nr)
    ·exact hk.elim
   |raw=>
    simp only at hk;obtain⟨xr,fq⟩:ay P g (BO xs) st.h fun pg v h''=>K v h'' pg:=hk;refine Vb bc hv xr (fq w S ρ _ hr.co mj.norm|>.mono fun e w' he=> ?_) (R:=fun v w'=> ∃x pg h'' S' ρ',K x h'' pg/\VR w' S' ρ' x v/\Cm w' S' ρ' h''/\Ext w S ρ w' S' ρ'/\st.h.length<=h''.length/\ ∀l,l<st.h.length->l∉pg->ρ' l=ρ l) fun v w' hR=> ?_
    ·obtain⟨v,x,pg,h'',S',ρ',h2,h3⟩:=he;exact⟨v,h2,x,pg,h'',S',ρ',h3⟩
    ·obtain⟨x,pg,h'',S',ρ',h3,h4,h5,h6,h7,h8⟩:=hR;refine hn x h'' pg v w' S' ρ' h3 ⟨h5,h7,h6,fun m p hm hp=> ?_,fun m hm y3=>h8 m hm y3⟩ h4;have hlt:m<st.h.length:=by refine Bx fun hle=> ?_;rw[hr.co.fresh hle] at hp;cases hp
     rw[h8 m hlt hm];exact hp
 ·rename_i l e1;rw[e1] at h0;split at hk
  ·generalize hv:a.eval F=v at h0;cases h0 with
   |yl _ b C hρ=>
    have mj:Cb w S ρ (BO (tg st.ts as)) (args.map a.eval):=h1.norm;have hk:lh P l (BO (tg st.ts as)) st.h fun pg v h''=>K v h'' pg:=hk;obtain⟨fn,tmps,assign,body,hy,hR⟩:=hk w S ρ _ b C hr.co mj hρ;refine⟨fun f _=>MT ro f,?_⟩;rw[Sb,Oper.semAt_eq ro a.eval o (fun c h=>by rw[bc] at h;cases h)];have aj:(AS a.eval o).run P w= .ok (.round b fn tmps assign body) w:=by simp[AS,bc,Bm,hv,Bq,Bw,hy]
    rw[aj,Oper.uponIn_round];refine⟨(fun h=>by rw[b1e] at h;cases h),?_⟩;have hR': ∀R,RoundIn Fence.wide 0 P b fn tmps assign body w R->RoundIn (ri ro) 0 P b fn tmps assign body w R:=by
     cases ro with
     |none=>exact fun _ h=>h
     |some l=>exact fun _ h=>h
    refine (hR' _ hR).mono fun e w' he=> ?_;obtain⟨v,x,pg,h'',S',ρ',rfl,h3,h4,h5,h6,h7,h8⟩:=he;refine hn x h'' pg v w' S' ρ' h3 ⟨h5,h7,h6,fun m p hm hp=> ?_,fun m hm y3=>h8 m hm y3⟩ h4;have hlt:m<st.h.length:=by refine Bx fun hle=> ?_;rw[hr.co.fresh hle] at hp;cases hp
    rw[h8 m hlt hm];exact hp
  ·exact hk.elim
 ·exact hk.elim
end
theorem d6o (off:Nat): ∀(l:List AM) (k:Nat) (cells:Array AM),off+k+l.length<=cells.size->
 (l.zipIdx k).foldl (fun (cs:Array AM) (p:AM×Nat)=>cs.setIfInBounds (off+p.2) p.1) cells=(cells.toList.take (off+k)++l++cells.toList.drop (off+k+l.length)).toArray:=by
 intro l
 induction l with
 |nil=>intro k cells _;simp
 |cons v l ih=>
  intro k cells h;simp only[List.zipIdx_cons,List.foldl_cons];simp at h;rw[ih (k+1) _ (by simp;omega)];apply BG;simp only[B4];apply A2;intro i;simp only[Aa,CV];by_cases h1:i<off+k
  ·rw[AE (by simp;omega),AE (by simp;omega),Ad (by omega),Ad (by omega),AT (by omega)]
  ·by_cases h2:i=off+k
   ·subst h2;rw[AE (by simp;omega),Ad (by omega),AU (by simp;omega),AD (by simp;omega)];simp only[AO];rw[show off+k-min (off+k) cells.toList.length=0 by simp;omega];rfl
   ·by_cases h3:i<off+k+(l.length+1)
    ·rw[AD (by simp;omega),AE (by simp;omega),AD (by simp;omega)];simp only[AO,CZ];rw[show min (off+k) cells.toList.length=off+k by simp;omega,show min (off+(k+1)) cells.toList.length=off+k+1 by simp;omega];rw[show i-(off+k)=(i-(off+k+1))+1 by omega];simp only[CW,BI];rw[AE (by omega)]
    ·rw[AD (by simp;omega),AD (by simp;omega),AD (by simp;omega),AD (by simp;omega)];simp only[AO,CZ,Ax,CV];rw[AT (by omega)];congr 1;simp;omega
section
variable {P:B9} {A:t7} {ro:Option Nat} {E:x4} {c:Nat} {o:Oper} {io:qr} {st:St} {K:AV->List ae->List Nat->Prop}
 {a:Cp} {w:A4} {S:Nat->Prop} {ρ:Cg} {h:List ae}
theorem e2m {cs new r:List AV}{vs nv:Array AM}{off:Nat}(h1:Cb w S ρ cs vs)(h2:Cb w S ρ new nv)(hp:qm cs off new=AF r):
 off+nv.size<=vs.size/\Cb w S ρ r (vs.toList.take off++nv.toList++vs.toList.drop (off+nv.toList.length)).toArray:=by
 obtain⟨hle,rfl⟩:=Tl _ _ _ _ hp;have e1:=h1.1;have e2:=h2.1;have e3:nv.toList.length=nv.size:=by simp
 have e4:vs.toList.length=vs.size:=by simp
 refine⟨by omega,by simp;omega,fun i z u hz hu=> ?_⟩;simp only[Ag] at hu;by_cases Hj:i<off
 ·rw[Aa,AE (by simp;omega),Ad Hj] at hz hu;exact h1.2 i z u hz (by simpa using hu)
 ·by_cases jx:i<off+new.length
  ·rw[Aa,AD (by simp;omega),AE (by simp;omega)] at hz hu;simp only[AO] at hz hu;rw[show min off cs.length=off by omega] at hz;rw[show min off vs.toList.length=off by omega] at hu;exact h2.2 _ z u hz (by simpa using hu)
  ·rw[AD (by simp;omega),Ax] at hz hu;simp only[AQ,AO] at hz hu;rw[show off+new.length+(i-(min off cs.length+new.length))=i by omega] at hz;rw[show off+nv.toList.length+(i-(min off vs.toList.length+nv.toList.length))=i by omega] at hu;exact h1.2 i z u hz (by simpa using hu)
theorem a9n (vs:Array AM)(off:Nat)(cells:Array AM)(h:off+vs.size<=cells.size):
 vs.zipIdx.foldl (fun cs (x:AM×Nat)=>cs.setIfInBounds (off+x.2) x.1) cells=(cells.toList.take off++vs.toList++cells.toList.drop (off+vs.toList.length)).toArray:=by
 have:=d6o off vs.toList 0 cells (by simpa using h);simp only[BW] at this;rw[<-this,<-Array.foldl_toList];congr 1;simp
theorem d8j {oc:Nat->Option (Nat×Nat)}{ts:List AV}(Gd:Cb w S ρ ts a.tmps): ∀{ps:List (Nat×AX)} {l:List (Nat×Nat×ah)} {cs r:List AV} {vs:Array AM},
 (ps.mapM fun ix=>do let os<-oc ix.1;pure (os.1,os.2,<-bh ix.2))=AF l->Cb w S ρ cs vs->Ic ts cs l=AF r->
 ∃vs',BF oc vs (ps.map fun ix=>(ix.1,a.eval ix.2))=AF vs'/\Cb w S ρ r vs':=by
 intro ps
 induction ps with
 |nil=>intro l cs r vs hl hv hf;simp at hl;subst hl;simp[Ic] at hf;subst hf;exact⟨vs,by simp[BF],hv⟩
 |cons p ps ih=>
  intro l cs r vs hl hv hf;simp[BZ,AA] at hl;obtain⟨_,_,_,⟨off,sz,qk,x,hx,rfl,rfl,rfl⟩,l',bu,rfl⟩:=hl;have Qy:=dm Gd hx;simp only[Ic,cv] at hf;split at hf
  ·rename_i tb;simp only[BB] at tb;have bl:=AK tb.1;obtain⟨g1,g2⟩:=KW Qy tb.2;split at hf
   ·rename_i jw Gb;obtain⟨hle,fc⟩:=e2m hv ⟨g1,g2⟩ Gb;obtain⟨vs',h3,h4⟩:=ih (by simpa using bu) fc hf;refine⟨vs',?_,h4⟩;have e1:(a.eval p.2).cells.size=sz:=by omega
    simp only[B7,BF,qk];rw[if_neg (by simp[e1];omega)];rw[<-h3];congr 1;exact a9n _ off vs hle
   ·cases hf
  ·cases hf
theorem d9d {t:AY}{ps:Array (Nat×AX)}(bc:o.op= .build t ps){zs:List DV}{oc:Nat->Option (Nat×Nat)}{l:List (Nat×Nat×ah)}(hz:uo P t=AF zs)(hp:b9j P t=AF oc)
 (hl:(ps.toList.mapM fun ix=>do let os<-oc ix.1;pure (os.1,os.2,<-bh ix.2))=AF l) (hk:af (Az P A ro E) (.build zs l) st K) (hr:Bt E st a w S ρ):Bj P o a w S ρ st.h K:=by
 obtain⟨i,z,hi,w5,hd⟩:=KN hz;obtain⟨g1,g2⟩:=IQ hd;simp only[af,HN] at hk;split at hk
 ·rename_i cs hf;have hzv:Cb w S ρ (zs.map AV.d) z.cells:=by refine⟨by simpa using g1,fun i x v hx hv=> ?_⟩;simp at hx;obtain⟨y,hy,rfl⟩:=hx;exact .d (g2 w S i y v hy hv)
  obtain⟨vs',h3,h4⟩:=d8j hr.ts hl hzv hf;refine .same hr.co (v:= .agg vs') ?_ hk (.agg cs vs' h4.1 h4.2);have hb:P.built t (ps.map fun ix=>(ix.1,a.eval ix.2)).toList=AF vs':=by
   unfold b9j at hp;unfold Program.built;split at hp
   ·rename_i fs hu;split at hp
    ·rename_i pl qk;cases hp;simp only[hi,hu,w5,qk];simpa using h3
    ·cases hp
   ·rename_i n e hu;split at hp
    ·rename_i ie hie;cases hp;simp only[hi,hu,w5,hie];simpa using h3
    ·cases hp
   ·cases hp
  have:=run_build w t (ps.map fun ix=>(ix.1,a.eval ix.2)) vs' hb;simp[AS,bc,this]
 ·exact hk.elim
end
section
variable {P:B9} {A:t7} {ro:Option Nat} {E:x4} {c:Nat} {o:Oper} {io:qr} {st:St} {K:AV->List ae->List Nat->Prop}
 {a:Cp} {w:A4} {S:Nat->Prop} {ρ:Cg} {h:List ae}
theorem c2r {sz n C:Nat}{es:Nat->List DV}{vs:Array AM}{e:AY}(hs:Cm w S ρ h){w2:A4}(hh:w2.heap=w.heap.push (.cells vs e))(P5:w2.os=w.os)(Qo:w2.tape=w.tape/\w.drawn<=w2.drawn)(p9:w2.output=w.output)
 (xw:vs.size=C*sz) (hle:n<=C) (mb: ∀i,i<n->(es i).length=sz/\ ∀(j:Nat) (x:DV) (u:AM),(es i)[j]? =AF x->vs[i*sz+j]? =AF u->C3 w S x u):
 Cx w S ρ h w2 (fun b=>S b\/b=w.heap.size) ρ h []/\VR w2 (fun b=>S b\/b=w.heap.size) ρ (.d (.sl sz n es)) (.slice (AF ⟨w.heap.size,0,Af⟩) n C):=by
 have ue: ∀b,b<w.heap.size->w2.heap[b]? =w.heap[b]? :=fun b hb=>by rw[hh,Ar,if_neg (by omega)]
 have Ja: ∀b,S b->w2.heap[b]? =w.heap[b]? :=fun b hb=>ue b (hs.i0 b hb);have o9:w2.heap[w.heap.size]? =AF (.cells vs e (0,0)):=by rw[hh];simp
 refine⟨⟨⟨fun b hb=> ?_,fun l ob C hl=> ?_,hs.inj,fun l b C ao hl ju hf=> ?_⟩,AJ _,⟨P5,Qo,p9,by rw[hh];simp,fun _ h=> .inl h,Ja,fun b hb=> ?_,fun b hb _=>ue b hb,fun l b C hl=> .inr ⟨l,C,hl⟩⟩,fun _ _ _ h=>h,fun _ _ _=>rfl⟩,.d ?_⟩
 ·rw[hh];simp;rcases hb with hb|hb
  ·have:=hs.i0 b hb;omega
  ·omega
 ·obtain⟨o',h1,h2⟩:=hs.obj l ob C hl;refine⟨o',h1,?_⟩;cases ob with
  |none=>exact h2
  |some b=>exact fv.mono (fun _ h=> .inl h) Ja (fun _ _ h=>h) (ue b (hs.V2 hl)) h2
 ·intro hb;rcases hb with hb|hb
  ·exact hs.own l b C ao hl ju hf hb
  ·have:=hs.V2 hl;omega
 ·rcases hb with hb|hb
  ·exact .inl hb
  ·exact .inr (.inl (by omega))
 ·have hlt: ∀i j,i<n->j<sz->i*sz+j<vs.size:=by intro i j hi hj;rw[xw];have:(i+1)*sz<=C*sz:=AP _ (by omega);rw[Ae] at this;omega
  refine .sl sz n _ w.heap.size 0 C (fun i j=>vs.getD (i*sz+j) CX) (fun _=> .inr rfl) hle (fun i hi=>(mb i hi).1) (fun i hi j hj=> ?_) (fun i hi j x hx=> ?_)
  ·rw[Cw o9,A3];exact getD_some _ _ (hlt i j hi hj)
  ·have hj:j<sz:=by have:=(AC.1 hx).1;rw[(mb i hi).1] at this;exact this
   exact ((mb i hi).2 j x _ hx (getD_some _ _ (hlt i j hi hj))).mono (fun _ h=> .inl h) Ja
theorem c9m {sz n C:Nat}{es:Nat->List DV}{vs:Array AM}{e:AY}(hs:Cm w S ρ h){w2:A4}(hh:w2.heap=w.heap.push (.cells vs e))(P5:w2.os=w.os)(Qo:w2.tape=w.tape/\w.drawn<=w2.drawn)(p9:w2.output=w.output)
 (xw:vs.size=C*sz) (hle:n<=C) (mb: ∀i,i<n->(es i).length=sz/\ ∀(j:Nat) (x:DV) (u:AM),(es i)[j]? =AF x->vs[i*sz+j]? =AF u->C3 w S x u):
 ∃ρ',Cx w S ρ h w2 S ρ' (h++[.arr sz n es]) []/\VR w2 S ρ' (.bi h.length sz Af n Ah) (.slice (AF ⟨w.heap.size,0,Af⟩) n C):=by
 have iu:ρ h.length=Af:=hs.fresh (AJ _);have k:=n8.new hs iu (.cells vs e) (.arr sz n es) C (fun w' gd=>⟨vs,e,by rw[gd];simp,xw,hle,fun i hi=>⟨(mb i hi).1,fun j x u hx hu=>((mb i hi).2 j x u hx hu).mono (fun _ h=>h) fun b hb=>by
  rw[gd,Ar,if_neg];have:=hs.i0 b hb;omega⟩⟩)
 exact⟨_,k.world (w2:=w2) hh P5 Qo p9,.bi _ _ Af _ Ah (AF w.heap.size) C _ _ (by simp) (by simpa using hle) (by simp) (by simp)⟩
def RP (w:A4)(S:Nat->Prop)(ρ:Cg)(sz n:Nat)(rs:List (List AV))(vs:Array AM):Prop:=
 rs.length=n/\vs.size=n*sz/\ ∀(i:Nat) (r:List AV),rs[i]? =AF r->r.length=sz/\ ∀(j:Nat) (x:AV) (v:AM),r[j]? =AF x->vs[i*sz+j]? =AF v->VR w S ρ x v
theorem d6f {sz n:Nat}{ts:List AV}(Gd:Cb w S ρ ts a.tmps): ∀{ps:List (Nat×AX)} {l:List (Nat×ah)} {rs r:List (List AV)} {vs:Array AM},
 (ps.mapM fun ix=>do pure (ix.1,<-bh ix.2))=AF l->RP w S ρ sz n rs vs->zz ts sz rs l=AF r->
 ∃vs',BF (fun i=>AF (i*sz,sz)) vs (ps.map fun ix=>(ix.1,a.eval ix.2))=AF vs'/\RP w S ρ sz n r vs':=by
 intro ps
 induction ps with
 |nil=>intro l rs r vs hl hv hf;simp at hl;subst hl;simp[zz] at hf;subst hf;exact⟨vs,by simp[BF],hv⟩
 |cons p ps ih=>
  intro l rs r vs hl hv hf;simp[BZ,AA] at hl;obtain⟨_,x,⟨hx,rfl⟩,l',bu,rfl⟩:=hl;have Qy:=dm Gd hx;simp only[zz,cv,cy,fg] at hf;split at hf
  ·rename_i tb;simp only[BB] at tb;have bl:=AK tb.1;obtain⟨g1,g2⟩:=KW Qy tb.2;split at hf
   ·rename_i r0 Qb;obtain⟨e1,e2,e3⟩:=hv;have hi:p.1<n:=by rw[<-e1];exact (AC.1 Qb).1
    have hb:p.1*sz+sz<=n*sz:=by have:(p.1+1)*sz<=n*sz:=AP _ (by omega);rw[Ae] at this;omega
    have e4:(a.eval p.2).cells.size=sz:=by omega
    have e5:(a.eval p.2).cells.toList.length=sz:=by simpa using e4
    have fc:RP w S ρ sz n (rs.set p.1 (Cu ts x).cells) (vs.toList.take (p.1*sz)++(a.eval p.2).cells.toList++vs.toList.drop (p.1*sz+(a.eval p.2).cells.toList.length)).toArray:=by
     refine⟨by simpa using e1,by simp only[BL,AQ,AO,A5,AR];omega,fun i rr vq=> ?_⟩;have aq:i<n:=by have:=(AC.1 vq).1;simp at this;omega
     by_cases Kb:i=p.1
     ·subst Kb;rw[AU (by omega)] at vq;cases vq;refine⟨bl,fun j y v hy hv=>g2 j y v hy ?_⟩;have hj:j<sz:=by rw[<-bl];exact (AC.1 hy).1
      simp only[Ag] at hv;rw[Aa,AD (by simp;omega),AE (by simp only[AO,AR] at*;omega)] at hv;rw[show p.1*sz+j-(B8 (p.1*sz) vs.toList).length=j by simp only[AO,AR];omega] at hv;simpa using hv
     ·rw[AT (As Kb)] at vq;obtain⟨h5,h6⟩:=e3 i rr vq;refine⟨h5,fun j y v hy hv=>h6 j y v hy ?_⟩;have hj:j<sz:=by rw[<-h5];exact (AC.1 hy).1
      simp only[Ag] at hv;rcases Nat.lt_or_gt_of_ne Kb with h7|h7
      ·have:(i+1)*sz<=p.1*sz:=AP _ (by omega);rw[Ae] at this;rw[Aa,AE (by simp only[AO,AR];omega),Ad (by omega)] at hv;simpa using hv
      ·have:(p.1+1)*sz<=i*sz:=AP _ (by omega);rw[Ae] at this;rw[AD (by simp only[AQ,AO,AR] at*;omega),Ax] at hv;rw[show p.1*sz+(a.eval p.2).cells.toList.length+(i*sz+j-(B8 (p.1*sz) vs.toList++(a.eval p.2).cells.toList).length)=i*sz+j by simp only[AQ,AO,AR] at*;omega] at hv;simpa using hv
    obtain⟨vs',h3,h4⟩:=ih (by simpa using bu) fc hf;refine⟨vs',?_,h4⟩;simp only[B7,BF];rw[if_neg (by simp[e4];omega)];rw[<-h3];congr 1;exact a9n _ _ vs (by omega)
   ·cases hf
  ·cases hf
theorem c9e {sz:Nat}{rs:List (List AV)}: ∀{h:List ae} {S:Nat->Prop} {rows:Nat->List AM} {K:List (List DV)->List ae->Prop},Cm w S ρ h->
 (∀i r,rs[i]? =AF r->r.length=sz/\(rows i).length=sz/\ ∀(j:Nat) (x:AV) (v:AM),r[j]? =AF x->(rows i)[j]? =AF v->VR w S ρ x v)->IY (Az P A ro E) h rs K->
 ∃zj h' S',K zj h'/\WY w S ρ h S' h'/\zj.length=rs.length/\ ∀i r,zj[i]? =AF r->r.length=sz/\ ∀(j:Nat) (x:DV) (v:AM),r[j]? =AF x->(rows i)[j]? =AF v->C3 w S' x v:=by
 induction rs with
 |nil=>intro h S rows K hs _ hk;exact⟨[],h,S,hk,.refl hs,rfl,by simp⟩
 |cons r rs ih=>
  intro h S rows K hs hv hk;obtain⟨h1,Sp,h2⟩:=hv 0 r (by simp);simp only[IY] at hk;obtain⟨cs,h3,S3,hk,k3,hl3,Nm⟩:=OQ hs (vs:=rows 0) (by omega) h2 hk;split at hk
  ·rename_i l hl;obtain⟨g1,g2⟩:=R7 hl;obtain⟨zj,h4,S4,hk,k4,SN,hv4⟩:=ih (rows:=fun i=>rows (i+1)) k3.co (fun i r hr=>by
    obtain⟨h5,h6,h7⟩:=hv (i+1) r (by simpa using hr);exact⟨h5,h6,fun j x v hx hv=>k3.vr (h7 j x v hx hv)⟩) hk
   refine⟨_,h4,S4,hk,k3.trans k4,by simp[SN],fun i r' k9=> ?_⟩;cases i with
   |zero=>simp at k9;subst k9;refine⟨by omega,fun j x v hx hv=> ?_⟩;obtain⟨y,hy,hyr⟩:=g2 j x hx;exact hyr (k4.vr (Nm j _ v hy hv))
   |succ i=>simp at k9;exact hv4 i r' k9
  ·exact hk.elim
theorem b9u {Sg:We}{cs:List AV}{h:List ae}: ∀{l:List DV} {K:List AV->List ae->Prop},W1 cs=AF l->K cs h->G3 Sg h cs K:=by
 induction cs with
 |nil=>intro l K _ hk;exact hk
 |cons c cs ih=>
  intro l K hd hk;have hc: ∀{K:AV->List ae->Prop},K c h->uv Sg h c K:=by
   intro K hk;unfold W1 at hd;split at hd
   ·rename_i heq;cases heq
   ·rename_i heq;cases heq;exact hk
   ·rename_i heq;cases heq;exact hk
   ·cases hd
  have GE: ∃l',W1 cs=AF l':=by
   unfold W1 at hd;split at hd
   ·rename_i heq;cases heq
   ·rename_i heq;cases heq;split at hd
    ·rename_i l' bu;exact⟨l',bu⟩
    ·cases hd
   ·rename_i heq;cases heq;split at hd
    ·rename_i l' bu;exact⟨l',bu⟩
    ·cases hd
   ·cases hd
  obtain⟨l',bu⟩:=GE;exact hc (ih bu hk)
theorem c0y {Sg:We}{rs:List (List AV)}{h:List ae}: ∀{rows:List (List DV)} {K:List (List DV)->List ae->Prop},MP rs=AF rows->K rows h->IY Sg h rs K:=by
 induction rs with
 |nil=>intro rows K hd hk;cases hd;exact hk
 |cons r rs ih=>
  intro rows K hd hk;unfold MP at hd;split at hd
  ·rename_i l ls h1 h2;cases hd;refine b9u h1 ?_;rw[h1];exact ih h2 hk
  ·cases hd
theorem c9n {Sg:We}{sz n:Nat}{zs:List DV}{l:List (Nat×ah)}{st:St}{K:AV->List ae->List Nat->Prop}(hk:af Sg (.t6 sz n zs l) st K):af Sg (.x8 sz n zs l Ah) st K:=by
 simp only[af] at hk⊢;split at hk
 ·split at hk
  ·rename_i h1;refine c0y h1 ?_;exact hk
  ·exact hk.elim
 ·exact hk.elim
theorem c3b {t e:AY}{n:Nat}{ps:Array (Nat×AX)}(bc:o.op= .buildSlice t n ps)(ht:P.underlying t=AF (.slice e)){sz:Nat}{zs:List DV}(bl:l6 P e=AF sz)(hz:uo P e=AF zs)
 (lr:zs.length=sz) (Ql:n*sz<=1000000) {l:List (Nat×ah)} (hl:(ps.toList.mapM fun ix=>do pure (ix.1,<-bh ix.2))=AF l) {mu:Bool}
 (hk:af (Az P A ro E) (.x8 sz n zs l mu) st K) (hr:Bt E st a w S ρ):Bj P o a w S ρ st.h K:=by
 obtain⟨lz,cw⟩:=vu bl;obtain⟨i,z,hi,w5,hd⟩:=KN hz;obtain⟨d1,d2⟩:=IQ hd;simp only[af,HN,L5] at hk;split at hk
 ·rename_i rs hf;have h0:RP w S ρ sz n (BM n (zs.map AV.d)) ((A9 (n*sz)).map (z.cells[· % z.cells.size]!)):=by
   refine⟨by simp,by simp,fun i' r k9=> ?_⟩;have fw:i'<n:=by have:=(AC.1 k9).1;simpa using this
   rw[List.getElem?_replicate] at k9;simp[fw] at k9;subst k9;refine⟨by simpa using lr,fun j x v hx hv=> ?_⟩;simp at hx;obtain⟨y,hy,rfl⟩:=hx;exact .d (RK hd lr n S w i' fw j y v hy hv)
  obtain⟨vs,PG,e1,e2,e3⟩:=d6f hr.ts hl h0 hf;have ux:BF (fun i=>AF (i*sz,sz)) ((A9 (n*sz)).map (z.cells[· % z.cells.size]!)) (ps.map fun ix=>(ix.1,a.eval ix.2)).toList=AF vs:=by simpa using PG
  have aj:(AS a.eval o).run P w= .ok (.value (.slice (AF ⟨w.heap.size,0,Af⟩) n n)) (w.alloc (.cells vs e)):=by
   have hb: ¬n*sz>16777216:=by omega
   have r0: ∀f:Nat->AM,(A9 0).map f= #[]:=fun f=>by apply BG;simp
   by_cases hm:n*sz=0
   ·have vy:BF (fun i=>AF (i*sz,sz)) (#[]:Array AM) (ps.map fun ix=>(ix.1,a.eval ix.2)).toList=AF vs:=by rw[hm,r0] at ux;exact ux
    simp at vy;simp[AS,bc,Bu,AI ht,cw,hm,r0,vy,C8]
   ·simp at ux;simp[AS,bc,Bu,AI ht,cw,hb,hm,Jz hi w5,ux,C8]
  have ft: ∀i',i'<n-> ∃r,rs[i']? =AF r:=fun i' fw=>⟨rs[i']'(by omega),AN (by omega)⟩;have hlt: ∀i' j,i'<n->j<sz->i'*sz+j<vs.size:=by intro i' j fw hj;rw[e2];have:(i'+1)*sz<=n*sz:=AP _ (by omega);rw[Ae] at this;omega
  obtain⟨zj,h',S',hk,k,bu,fc⟩:=c9e hr.co (sz:=sz) (rows:=fun i'=>(CP sz).map fun j=>vs.getD (i'*sz+j) CX) (fun i' r k9=>by
   have fw:i'<n:=by rw[<-e1];exact (AC.1 k9).1
   obtain⟨h5,h6⟩:=e3 i' r k9;refine⟨h5,by simp,fun j x v hx hv=>h6 j x v hx ?_⟩;have hj:j<sz:=by rw[<-h5];exact (AC.1 hx).1
   simp only[AZ,BU hj,A7,AB] at hv;subst hv;exact getD_some _ _ (hlt i' j fw hj)) hk
  have SD: ∀i',i'<n->(rowAt zj i').length=sz/\ ∀(j:Nat) (x:DV) (u:AM),(rowAt zj i')[j]? =AF x->vs[i'*sz+j]? =AF u->C3 w S' x u:=by
   intro i' fw;have te:zj[i']? =AF (zj[i']'(by omega)):=AN (by omega);rw[xe,te];obtain⟨h5,h6⟩:=fc i' _ te;refine⟨h5,fun j x u hx hu=>h6 j x u hx ?_⟩;have hj:j<sz:=by have:=(AC.1 hx).1;simp only[Option.getD_some] at this;rw[h5] at this;exact this
   simp only[AZ,BU hj,A7];rw[getD_some _ _ (hlt i' j fw hj)] at hu;exact hu
  have c1:=k.W0;cases mu with
  |true=>simp only[if_true,cv,fi] at hk;obtain⟨ρ',c2,jh⟩:=c9m k.co (w2:=w.alloc (.cells vs e)) rfl rfl ⟨rfl,AJ _⟩ rfl e2 (AJ n) SD;exact⟨_,_,_,_,[],S',ρ',.inl aj,hk,⟨c2.co,CI c1.len c2.len,c1.ext.trans c2.ext,fun m p _ hp=>c2.v9 m p (by simp) hp,fun m hm _=>c2.low m (Bb hm c1.len) (by simp)⟩,jh⟩
  |false=>simp only[Ay,if_false] at hk;obtain⟨c2,jh⟩:=c2r k.co (w2:=w.alloc (.cells vs e)) rfl rfl ⟨rfl,AJ _⟩ rfl e2 (AJ n) SD;exact⟨_,_,_,_,[],_,ρ,.inl aj,hk,⟨c2.co,CI c1.len c2.len,c1.ext.trans c2.ext,fun _ _ _ hp=>hp,fun _ _ _=>rfl⟩,jh⟩
 ·exact hk.elim
end
theorem c7h {α β:Type}{f:α->Option β}: ∀{l:List α},(∀x,x∈l-> ∃y,f x=AF y)-> ∃ys,l.mapM f=AF ys:=by
 intro l
 induction l with
 |nil=>intro _;exact⟨[],rfl⟩
 |cons x l ih=>intro h;obtain⟨y,hy⟩:=h x (by simp);obtain⟨ys,hys⟩:=ih fun z hz=>h z (by simp[hz]);exact⟨y::ys,by simp[BZ,hy,hys]⟩
def RN (ks:List Ai)(cs:List AM)(off:Nat):Prop:= ∀(i:Nat) (k:Ai),ks[i]? =AF k-> ∃n,cs[off+i]? =AF (.int k n)/\(Lit.int k n).wf=An
theorem c6x {α:Type}(l:List α): ∀(n i j:Nat),i<n->j<l.length->((BM n l).flatten)[i*l.length+j]? =l[j]? :=by
 intro n
 induction n with
 |zero=>intro i j hi;omega
 |succ n ih=>
  intro i j hi hj;simp only[List.replicate_succ,List.flatten_cons];cases i with
  |zero=>rw[AE (by omega)];simp
  |succ i=>rw[AD (by rw[Bf];omega),<-ih i j (by omega) hj];congr 1;rw[Bf];omega
theorem U5 {cs:List AM}{off sz i:Nat}(hi:i<sz):((cs.drop off).take sz)[i]? =cs[off+i]? :=by rw[Ad hi,Ax]
section
variable {P:B9}
theorem c6i (m:Nat): ∀(n:Nat) (t:AY) (ks:List Ai),xo P n t=AF ks-> ∀(cs:List AM),cs.length=ks.length->RN ks cs 0-> ∃L,P.keyLits (n+m) t cs=AF L:=by
 intro n
 induction n with
 |zero=>intro t ks h;simp[xo] at h
 |succ n ih=>
  intro t ks h cs hl hc;rw[show n+1+m=(n+m)+1 by omega];have sub: ∀{e:AY} {dt:List Ai} {off:Nat},xo P n e=AF dt->dt.length=P.cellsOf e->off+dt.length<=cs.length->RN dt cs off-> ∃L,P.keyLits (n+m) e ((cs.drop off).take (P.cellsOf e))=AF L:=by intro e dt off he hlen hle hi;refine ih e dt he _ (by rw[<-hlen,AO,A5];omega) fun i k hk=> ?_;obtain⟨x,hx,hw⟩:=hi i k hk;refine⟨x,?_,hw⟩;rw[A3,U5 (by rw[<-hlen];exact (AC.1 hk).1)];exact hx
  simp only[xo] at h;unfold Program.keyLits;split at h
  ·rename_i k hu;split at h
   ·simp at h;subst h;obtain⟨x,hx,hw⟩:=hc 0 k rfl
    match cs,hl with
    |[c],_=>simp at hx;subst hx;simp only[hu];exact⟨_,by rw[if_pos (by simp[hw])]⟩
   ·cases h
  ·rename_i fs hu;simp only[AG,AA] at h;obtain⟨dt,hf,h⟩:=h;split at h
   ·rename_i cj;simp at h;subst h;have key: ∀(l:List C7) (off:Nat) (QH:List Ai),GB P (xo P n) l off=AF QH->off+QH.length<=cs.length->RN QH cs off-> ∃Ls,(l.mapM fun f=>P.keyLits (n+m) f.type ((cs.drop f.offset).take (P.cellsOf f.type)))=AF Ls:=by
     intro l
     induction l with
     |nil=>intro off QH _ _ _;exact⟨[],rfl⟩
     |cons f l ihl=>
      intro off QH h hle hi;simp only[GB,AG,AA] at h;obtain⟨k1,h1,h⟩:=h;split at h
      ·rename_i j9;simp only[AA,AH,AB] at h;obtain⟨k2,h2,rfl⟩:=h;simp only[AQ] at hle;obtain⟨L,hL⟩:=sub h1 j9.2 (off:=off) (by omega) (fun i k hk=>hi i k (by rw[AE (AC.1 hk).1];exact hk));obtain⟨Ls,Pj⟩:=ihl (off+k1.length) k2 h2 (by omega) (fun i k hk=>by
        rw[Nat.add_assoc];exact hi (k1.length+i) k (by rw[AD (by omega),Bd];exact hk))
       exact⟨L::Ls,by simp[BZ,j9.1,hL,Pj]⟩
      ·cases h
    obtain⟨Ls,Pj⟩:=key fs.toList 0 dt hf (by omega) hc;simp only[hu];rw[if_pos ⟨by rw[hl];exact cj.1,cj.2⟩,Pj];exact⟨_,rfl⟩
   ·cases h
  ·rename_i nn e hu;simp only[AG,AA] at h;obtain⟨dt,hf,h⟩:=h;split at h
   ·rename_i cj;simp at h;subst h;have hlen:(BM nn dt).flatten.length=nn*dt.length:=by simp
    have: ∃Ls,((CP nn).mapM fun i=>P.keyLits (n+m) e ((cs.drop (i*P.cellsOf e)).take (P.cellsOf e)))=AF Ls:=by
     refine c7h fun i hi=> ?_;have hi:i<nn:=by simpa using hi
     refine sub hf cj.1 ?_ fun j k hk=> ?_
     ·rw[hl,hlen,<-cj.1];have:(i+1)*dt.length<=nn*dt.length:=AP _ hi;rw[Bf] at this;exact this
     ·have hj:=(AC.1 hk).1;obtain⟨x,hx,hw⟩:=hc (i*dt.length+j) k (by rw[c6x dt nn i j hi hj];exact hk);rw[<-cj.1];exact⟨x,by rw[A3] at hx;exact hx,hw⟩
    obtain⟨Ls,Pj⟩:=this;simp only[hu];rw[if_pos (by rw[hl,hlen,cj.1];exact cj.2),Pj];exact⟨_,rfl⟩
   ·cases h
  ·cases h
theorem d2x {n:Nat}{t:AY}{ks:List Ai}(h:xo P n t=AF ks):ks.length=P.cellsOf t:=by
 cases n with
 |zero=>simp[xo] at h
 |succ n=>
  simp only[xo] at h;split at h
  ·split at h
   ·rename_i hc;simp at h;subst h;exact hc.symm
   ·cases h
  ·simp only[AG,AA] at h;obtain⟨dt,hf,h⟩:=h;split at h
   ·rename_i hc;simp at h;subst h;exact hc.1
   ·cases h
  ·simp only[AG,AA] at h;obtain⟨dt,hf,h⟩:=h;split at h
   ·rename_i hc;simp at h;subst h;simp[hc.1,hc.2]
   ·cases h
  ·cases h
theorem c4q {ks:List Ai}{ns:List Int}{cs:List AM}(hl:ns.length=ks.length)(hc:cs=BK BV ks ns)(hw: ∀(i:Nat) (k:Ai) (n:Int),ks[i]? =AF k->ns[i]? =AF n->k.wrap n=n):
 cs.length=ks.length/\RN ks cs 0:=by
 subst hc;refine⟨by simp[hl],fun i k hk=> ?_⟩;have hi:=(AC.1 hk).1;have hn:ns[i]? =AF ns[i]:=AN (by omega);refine⟨ns[i],?_,?_⟩
 ·rw[A3,CJ,hk,hn]
 ·have:=WideShapes.wf_wrap k ns[i];rw[hw i k ns[i] hk hn] at this;exact this
theorem QG (hl:Br P=An){t:AY}{wide:Bool}{ks:List Ai}(h:y9 P t=AF (wide,ks)):
 Maps.Keyed P t/\(∀v,px wide ks v-> ∃l,C6 P t v=AF l)/\
  (wide=An->P.keyTypeAt 20 t=An/\(match P.underlying t with|some (.array _ _)|some (.struct _)=>An|_=>Ah)=An):=by
 simp only[y9,AG,AA] at h;obtain⟨dt,hf,h⟩:=h;have wj:P.keyTypeAt 20 t=An/\P.keyType t=An/\t<P.types.size->(match P.underlying t with|some (.array _ _)|some (.struct _)=>An|_=>Ah)=An->wide=An->dt=ks->
  Maps.Keyed P t/\(∀v,px wide ks v-> ∃l,C6 P t v=AF l)/\(wide=An->P.keyTypeAt 20 t=An/\(match P.underlying t with|some (.array _ _)|some (.struct _)=>An|_=>Ah)=An):=by
  rintro⟨h1,h2,h3⟩ hw rfl rfl;refine⟨Maps.Keyed.of_law (deep_law_laid hl (m:=20) (by omega) h3 h1 hw),fun v hv=> ?_,fun _=>⟨h1,hw⟩⟩;obtain⟨hs,ns,hn,hc,hr⟩:=hv;simp only[if_true] at hs;obtain⟨cs,rfl⟩:=hs;obtain⟨h5,h6⟩:=c4q hn hc hr;obtain⟨L,hL⟩:=c6i (P:=P) 0 (P.types.size+1) t dt hf _ h5 h6;have SG:(Cq cs).formed P t=An:=by
   simp only[Av];have bl:cs.size=P.cellsOf t:=by
    have h7:cs.size=dt.length:=by rw[<-h5];rfl
    rw[h7];exact d2x hf
   split at hw
   ·rename_i hu;rw[hu];simp[bl]
   ·rename_i hu;rw[hu];simp[bl]
   ·cases hw
  refine⟨.string (keyBytes L),?_⟩;unfold C6;split at hw
  ·rename_i hu;rw[hu];simp only[h2,SG,Cj,if_true,hL,A7]
  ·rename_i hu;rw[hu];simp only[h2,SG,Cj,if_true,hL,A7]
  ·cases hw
 split at h
 ·rename_i k hu;simp only[AH,AB,Prod.mk.injEq] at h;obtain⟨rfl,rfl⟩:=h;refine⟨Maps.int_keyed hu,fun v hv=> ?_,fun h=>by cases h⟩;obtain⟨hs,ns,hn,hc,hr⟩:=hv;simp only[xo,hu] at hf;split at hf
  ·simp at hf;subst hf;obtain⟨k',n,rfl⟩:=by simpa using hs
   match ns,hn with
   |[n'],_=>simp[BP] at hc;obtain⟨rfl,rfl⟩:=hc;refine⟨_,Maps.keyOf_int_mk hu ?_⟩;have:=WideShapes.wf_wrap k' n;rw[hr 0 k' n rfl rfl] at this;exact this
  ·cases hf
 ·rename_i fs hu;split at h
  ·rename_i hc;simp only[AH,AB,Prod.mk.injEq] at h;exact wj (by simpa using hc) (by rw[hu]) h.1.symm h.2
  ·cases h
 ·rename_i n e hu;split at h
  ·rename_i hc;simp only[AH,AB,Prod.mk.injEq] at h;exact wj (by simpa using hc) (by rw[hu]) h.1.symm h.2
  ·cases h
 ·cases h
theorem b3j {ks:List Ai}{ns:List Int}(hl:ns.length=ks.length):(BK BV ks ns).mapM KC.ofValue=AF (ns.map KC.i):=by
 induction ks generalizing ns with
 |nil=>cases ns with
  |nil=>rfl
  |cons n ns=>simp at hl
 |cons k ks ih=>cases ns with
  |nil=>simp at hl
  |cons n ns=>simp[BZ,KC.ofValue,ih (by simpa using hl)]
theorem px.key {wide:Bool}{ks:List Ai}{v:AM}(h:px wide ks v): ∃ns:List Int,ns.length=ks.length/\v.cells.toList=BK BV ks ns/\Ao v=AF (ns.map KC.i):=by obtain⟨_,ns,h1,h2,_⟩:=h;exact⟨ns,h1,h2,by rw[Ao,h2];exact b3j h1⟩
theorem px.inj {wide:Bool}{ks:List Ai}{v v':AM}(h:px wide ks v)(h':px wide ks v')(he:Ao v=Ao v'):v=v':=by
 obtain⟨ns,h1,h2,h3⟩:=h.key;obtain⟨ns',Sp,yr,I3⟩:=h'.key;rw[h3,I3] at he;have hi:ns=ns':=by
  have:ns.map KC.i=ns'.map KC.i:=by simpa using he
  exact (List.map_inj_right (fun a b hab=>by cases hab;rfl)).1 this
 subst hi;have hc:v.cells=v'.cells:=by apply BG;rw[h2,yr]
 have hs:=h.1;have ug:=h'.1;cases wide with
 |true=>
  obtain⟨cs,rfl⟩:=by simpa using hs
  obtain⟨jw,rfl⟩:=by simpa using ug
  simp[BP] at hc;rw[hc]
 |false=>
  obtain⟨k,n,rfl⟩:=by simpa using hs
  obtain⟨k',n',rfl⟩:=by simpa using ug
  simpa [BP] using hc
theorem b2y {wide:Bool}{ks:List Ai}{x:AM}{kc:List KC}(hx:px wide ks x)(hk:Ao x=AF kc): ∀{es:List Al},(∀e,e∈es->px wide ks e.key)->es.Pairwise (fun a b=>a.key≠b.key)-> ∀{e:Al} {n:Int},e∈es->e.key=x->e.val= .int .i64 n->
 xn kc es=AF n:=by
 intro es
 induction es with
 |nil=>intro _ _ e n he;cases he
 |cons e0 es ih=>
  intro hs im e n he uy hv;have im:=BY.1 im;unfold xn;rcases Ch.1 he with rfl|he
  ·rw[uy,hk,if_pos rfl,hv]
  ·rw[if_neg (fun h=> ?_)]
   ·exact ih (fun e he=>hs e (by simp[he])) im.2 he uy hv
   ·have:=(hs e0 (by simp)).inj hx (by rw[h,hk]);exact im.1 e he (by rw[this,uy])
theorem b3b {wide:Bool}{ks:List Ai}{x:AM}{kc:List KC}(hx:px wide ks x)(hk:Ao x=AF kc): ∀{es:List Al},(∀e,e∈es->px wide ks e.key)->(∀e,e∈es->e.key≠x)->xn kc es=Af:=by
 intro es
 induction es with
 |nil=>intro _ _;rfl
 |cons e0 es ih=>
  intro hs ck;unfold xn;rw[if_neg (fun h=> ?_)]
  ·exact ih (fun e he=>hs e (by simp[he])) fun e he=>ck e (by simp[he])
  ·exact ck e0 (by simp) ((hs e0 (by simp)).inj hx (by rw[h,hk]))
theorem c5w {x:AM}{kc:List KC}(hk:Ao x=AF kc){v:Int}{born:Nat}: ∀{es:List Al},(∀e,e∈es-> ∃m,e.val= .int .i64 m)->xn kc es=Af-> ∀k,xn k (es++[⟨x,.int .i64 v,born⟩])=if k=kc then AF v else xn k es:=by
 intro es
 induction es with
 |nil=>
  intro _ _ k;simp only[List.nil_append,xn,hk,AB];by_cases h:kc=k
  ·rw[if_pos h,if_pos h.symm]
  ·rw[if_neg h,if_neg (As h)]
 |cons e es ih=>
  intro hv hn k;obtain⟨m,hm⟩:=hv e (by simp);simp only[CW,xn] at hn⊢;by_cases h:Ao e.key=AF k
  ·rw[if_pos h,if_pos h];by_cases hc:k=kc
   ·subst hc;rw[if_pos h,hm] at hn;cases hn
   ·rw[if_neg hc]
  ·rw[if_neg h,if_neg h];refine ih (fun e he=>hv e (by simp[he])) ?_ k;by_cases hc:Ao e.key=AF kc
   ·rw[if_pos hc,hm] at hn;cases hn
   ·rw[if_neg hc] at hn;exact hn
theorem c7y {x:AM}{kc:List KC}{wide:Bool}{ks:List Ai}(hx:px wide ks x)(hk:Ao x=AF kc){v:Int}{e':Al}(l9:e'.key=x)(fc:e'.val= .int .i64 v):
 ∀{es:List Al} {j:Nat} {e:Al},(∀e,e∈es->px wide ks e.key)->es.Pairwise (fun a b=>a.key≠b.key)->es[j]? =AF e->e.key=x-> ∀k,xn k (es.set j e')=if k=kc then AF v else xn k es:=by
 intro es
 induction es with
 |nil=>intro j e _ _ h;simp at h
 |cons e0 es ih=>
  intro j e hs im hj uy k;have im:=BY.1 im;cases j with
  |zero=>
   simp only[BH,AB] at hj;subst hj;simp only[List.set_cons_zero,xn,l9,hk,uy,fc,AB];by_cases h:kc=k
   ·rw[if_pos h,if_pos h.symm]
   ·rw[if_neg h,if_neg h,if_neg (As h)]
  |succ j=>
   simp only[BI] at hj;have gm:=Am hj;simp only[List.set_cons_succ,xn];by_cases h:Ao e0.key=AF k
   ·rw[if_pos h,if_pos h,if_neg];intro hc;subst hc;have:=(hs e0 (by simp)).inj hx (by rw[h,hk]);exact im.1 e gm (by rw[this,uy])
   ·rw[if_neg h,if_neg h];exact ih (fun e he=>hs e (by simp[he])) im.2 hj uy k
def H6 (es:List Al)(keys:List (List KC)):Prop:=keys.length=es.length/\ ∀(i:Nat) (e:Al) (k:List KC),es[i]? =AF e->keys[i]? =AF k->Ao e.key=AF k
theorem H6.tail {e:Al}{es:List Al}{k:List KC}{keys:List (List KC)}(h:H6 (e::es) (k::keys)):Ao e.key=AF k/\H6 es keys:=
 ⟨h.2 0 e k rfl rfl,by simpa using h.1,fun i e' k' he hk=>h.2 (i+1) e' k' (by simpa using he) (by simpa using hk)⟩
theorem d5n {wide:Bool}{ks:List Ai}{x:AM}{kc:List KC}(hx:px wide ks x)(hk:Ao x=AF kc)(y:AV): ∀{es:List Al} {keys:List (List KC)} {ap:List AV},H6 es keys->(∀e,e∈es->px wide ks e.key)->(∀e,e∈es->e.key≠x)->
 mf kc keys ap=Af/\HM kc y keys ap=Af:=by
 intro es
 induction es with
 |nil=>intro keys ap ha _ _;have:keys=[]:=Au.1 ha.1;subst this;cases ap<;>exact⟨rfl,rfl⟩
 |cons e es ih=>
  intro keys ap ha hs ck;cases keys with
  |nil=>have:=ha.1;simp at this
  |cons k keys=>
   obtain⟨h1,h2⟩:=ha.tail;cases ap with
   |nil=>exact⟨rfl,rfl⟩
   |cons v ap=>have ke: ¬k=kc:=fun h=>ck e (by simp) ((hs e (by simp)).inj hx (by rw[h1,hk,h]));obtain⟨i1,i2⟩:=ih (ap:=ap) h2 (fun e he=>hs e (by simp[he])) fun e he=>ck e (by simp[he]);rw[mf,HM,if_neg ke,if_neg ke,i1,i2];exact⟨rfl,rfl⟩
theorem d5g {wide:Bool}{ks:List Ai}{x:AM}{kc:List KC}(hx:px wide ks x)(hk:Ao x=AF kc)(y:AV): ∀{es:List Al} {keys:List (List KC)} {ap:List AV} {j:Nat} {e:Al},H6 es keys->ap.length=es.length->(∀e,e∈es->px wide ks e.key)->
 es.Pairwise (fun a b=>a.key≠b.key)->es[j]? =AF e->e.key=x->(∃v,ap[j]? =AF v/\mf kc keys ap=AF v)/\HM kc y keys ap=AF (ap.set j y):=by
 intro es
 induction es with
 |nil=>intro keys ap j e _ _ _ _ h;simp at h
 |cons e0 es ih=>
  intro keys ap j e ha hl hs im hj uy;have im:=BY.1 im;cases keys with
  |nil=>have:=ha.1;simp at this
  |cons k keys=>
   obtain⟨h1,h2⟩:=ha.tail;cases ap with
   |nil=>simp at hl
   |cons v ap=>
    cases j with
    |zero=>
     simp only[BH,AB] at hj;subst hj;have ke:k=kc:=by rw[uy,hk] at h1;exact (Bo h1).symm
     refine⟨⟨v,rfl,by rw[mf,if_pos ke]⟩,by rw[HM,if_pos ke];rfl⟩
    |succ j=>simp only[BI] at hj;have gm:=Am hj;have ke: ¬k=kc:=fun h=>im.1 e gm ((hs e0 (by simp)).inj (hs e (by simp[gm])) (by rw[h1,uy,hk,h]));obtain⟨⟨v',i1,i2⟩,i3⟩:=ih (ap:=ap) h2 (by simpa using hl) (fun e he=>hs e (by simp[he])) im.2 hj uy;refine⟨⟨v',by simpa using i1,by rw[mf,if_neg ke];exact i2⟩,?_⟩;rw[HM,if_neg ke,i3];rfl
theorem c8e {wide:Bool}{ks:List Ai}{x:AM}{kc:List KC}(hx:px wide ks x)(hk:Ao x=AF kc): ∀{es:List Al} {keys:List (List KC)} (n:Nat),H6 es keys->(∀e,e∈es->px wide ks e.key)->(∀e,e∈es->e.key≠x)->
 pw kc keys n=Af:=by
 intro es
 induction es with
 |nil=>intro keys n ha _ _;have:keys=[]:=Au.1 ha.1;subst this;rfl
 |cons e es ih=>
  intro keys n ha hs ck;cases keys with
  |nil=>have:=ha.1;simp at this
  |cons k keys=>obtain⟨h1,h2⟩:=ha.tail;have ke: ¬k=kc:=fun h=>ck e (by simp) ((hs e (by simp)).inj hx (by rw[h1,hk,h]));rw[pw,if_neg ke];exact ih (n+1) h2 (fun e he=>hs e (by simp[he])) fun e he=>ck e (by simp[he])
theorem c7o {wide:Bool}{ks:List Ai}{x:AM}{kc:List KC}(hx:px wide ks x)(hk:Ao x=AF kc): ∀{es:List Al} {keys:List (List KC)} {j:Nat} {e:Al} (n:Nat),H6 es keys->(∀e,e∈es->px wide ks e.key)->
 es.Pairwise (fun a b=>a.key≠b.key)->es[j]? =AF e->e.key=x->pw kc keys n=AF (n+j):=by
 intro es
 induction es with
 |nil=>intro keys j e n _ _ _ h;simp at h
 |cons e0 es ih=>
  intro keys j e n ha hs im hj uy;have im:=BY.1 im;cases keys with
  |nil=>have:=ha.1;simp at this
  |cons k keys=>
   obtain⟨h1,h2⟩:=ha.tail;cases j with
   |zero=>
    simp only[BH,AB] at hj;subst hj;have ke:k=kc:=by rw[uy,hk] at h1;exact (Bo h1).symm
    rw[pw,if_pos ke];rfl
   |succ j=>simp only[BI] at hj;have gm:=Am hj;have ke: ¬k=kc:=fun h=>im.1 e gm ((hs e0 (by simp)).inj (hs e (by simp[gm])) (by rw[h1,uy,hk,h]));rw[pw,if_neg ke,ih (n+1) h2 (fun e he=>hs e (by simp[he])) im.2 hj uy];congr 1;omega
section
variable {A:t7} {ro:Option Nat} {E:x4} {w:A4} {S:Nat->Prop} {ρ:Cg}
theorem c3a: ∀{ks:List Ai} {cs:List AV} {vs:List AM} {K:List KC->Prop},cs.length=vs.length->(∀(i:Nat) (x:AV) (v:AM),cs[i]? =AF x->vs[i]? =AF v->VR w S ρ x v)->y8 (Az P A ro E) ks cs K->
 ∃ns:List Int,ns.length=ks.length/\vs=BK BV ks ns/\(∀(i:Nat) (k:Ai) (n:Int),ks[i]? =AF k->ns[i]? =AF n->k.wrap n=n)/\K (ns.map KC.i):=by
 intro ks
 induction ks with
 |nil=>
  intro cs vs K hl hv hk;cases cs with
  |nil=>cases vs with
   |nil=>exact⟨[],rfl,rfl,by simp,hk⟩
   |cons v vs=>simp at hl
  |cons c cs=>exact hk.elim
 |cons k ks ih=>
  intro cs vs K hl hv hk;cases cs with
  |nil=>exact hk.elim
  |cons c cs=>
   cases vs with
   |nil=>simp at hl
   |cons v vs=>
    cases c with
    |d x=>
     cases x with
     |int k' x=>
      simp only[y8] at hk;split at hk
      ·rename_i hc;subst hc;obtain⟨ns,h1,h2,h3,h4⟩:=ih (by simpa using hl) (fun i x v hx fc=>hv (i+1) x v (by simpa using hx) (by simpa using fc)) hk.2;have h0:=(hv 0 (.d (.int k x)) v (by simp) (by simp)).int;refine⟨x.val::ns,by simp[h1],by simp[h0,h2],fun i k' n mn hn=> ?_,h4⟩;cases i with
       |zero=>simp at mn hn;subst mn;subst hn;exact hk.1
       |succ i=>exact h3 i k' n (by simpa using mn) (by simpa using hn)
      ·exact hk.elim
     |_=>exact hk.elim
    |_=>exact hk.elim
theorem QJ {wide:Bool}{ks:List Ai}{x:AV}{v:AM}{K:List KC->Prop}(hv:VR w S ρ x v)(hk:wb (Az P A ro E) wide ks x K): ∃kc,px wide ks v/\Ao v=AF kc/\K kc:=by
 have one: ∀{x:AV} {v:AM},VR w S ρ x v->y8 (Az P A ro E) ks [x] K->wide=Ah-> ∃kc,px wide ks v/\Ao v=AF kc/\K kc:=by
  intro x1 v1 sq ij hw;subst hw;obtain⟨ns,h1,h2,h3,h4⟩:=c3a (cs:=[x1]) (vs:=[v1]) rfl (fun i x' v' hx fc=>by
   cases i with
   |zero=>simp at hx fc;subst hx;subst fc;exact sq
   |succ i=>simp at hx) ij
  match ks,ns,h1 with
  |[],[],_=>simp at h2
  |[k],[n],_=>simp at h2;subst h2;exact⟨_,⟨⟨k,n,rfl⟩,[n],rfl,rfl,h3⟩,rfl,h4⟩
  |k::k'::ks,n::n'::ns,_=>simp at h2
 cases x with
 |agg cs=>
  simp only[wb] at hk;split at hk
  ·rename_i hw;subst hw;cases hv with
   |agg _ vs hl jo=>obtain⟨ns,h1,h2,h3,h4⟩:=c3a (vs:=vs.toList) (by simpa using hl) (fun i x v hx hv=>jo i x v hx (by rw[<-AW];exact hv)) hk;have l5:px An ks (.agg vs):=⟨⟨vs,rfl⟩,ns,h1,h2,h3⟩;exact⟨_,l5,by rw[Ao];show vs.toList.mapM _=_;rw[h2];exact b3j h1,h4⟩
  ·exact hk.elim
 |_=>
  simp only[wb] at hk;split at hk
  ·exact hk.elim
  ·rename_i hw;exact one hv hk (by simpa using hw)
end
end
section
variable {P:B9} {A:t7} {ro:Option Nat} {E:x4} {c:Nat} {o:Oper} {io:qr} {st:St} {K:AV->List ae->List Nat->Prop}
 {a:Cp} {w:A4} {S:Nat->Prop} {ρ:Cg}
theorem d2s (hl:Br P=An){t kt et:AY}{M X Y:AX}(bc:o.op= .mapUpdate t M X Y\/o.op= .insert t M X Y)(ht:P.underlying t=AF (.map kt et)){wide:Bool}{ks:List Ai}(ep:y9 P kt=AF (wide,ks))
 {m x y:ah} (hm:bh M=AF m) (hx:bh X=AF x) (hy:bh Y=AF y) (hk:af (Az P A ro E) (.Id wide ks m x y) st K) (hr:Bt E st a w S ρ):Bj P o a w S ρ st.h K:=by
 have h0:=dm hr.ts hm;have h1:=dm hr.ts hx;have h2:=dm hr.ts hy;simp only[af] at hk;split at hk
 ·rename_i l e1;rw[e1] at h0;split at hk
  ·rename_i ct dt n f uc;split at hk
   ·rename_i hc;obtain⟨rfl,rfl⟩:=hc;generalize hv:a.eval M=v at h0;cases h0 with
    |map _ b C hρ=>
     obtain⟨kc,l5,ik,hk⟩:=QJ h1 hk;obtain⟨q,hq,hk⟩:=Ip h2 hk;obtain⟨oo,ho,hh⟩:=hr.co.obj l _ C hρ;have iv:=uc;rw[cy] at iv;rw[iv] at ho;cases ho;obtain⟨es,clock,hb,mr⟩:=hh;obtain⟨KK,yy,_⟩:=QG hl ep;obtain⟨lx,td⟩:=yy _ l5;have fin: ∀{es':Array Al} {clock':Nat},(BE t (.map (AF b)) (a.eval X) (a.eval Y)).run P w= .ok () {w with heap:=w.heap.setIfInBounds b (.map es' clock')}->
      Ol wide ks es'.toList ((Az P A ro E).WF f kc n) ((Az P A ro E).Xx f kc q.val)->Bj P o a w S ρ st.h K:=by
      intro es' clock' aj hmr;have J7:b<w.heap.size:=(Aw.1 hb).1;refine⟨CX,{w with heap:=w.heap.setIfInBounds b (.map es' clock')},.lc,_,[],S,ρ,.inr ⟨?_,rfl⟩,hk,?_,.lc⟩
      ·rcases bc with bc|bc<;>simp[AS,bc,hv,aj,Ak]
      ·rw[fg];refine n8.set hr.co hρ iv rfl rfl ⟨rfl,AJ _⟩ rfl (by simp) (fun k ck=>by simp[Ab (As ck)]) ⟨es',clock',by simp[J7],hmr⟩
     rcases KK.find w td es.toList (fun e he=>yy _ (mr.keys e he)) with⟨h3,h4⟩|⟨j,e,h3,h4,h5⟩
     ·have qj:=b3b l5 ik mr.keys h4;refine fin (es':=es.push ⟨a.eval X,a.eval Y,clock⟩) (clock':=clock+1) ?_ ⟨?_,fun e he=> ?_,fun e he=> ?_,fun k=> ?_,?_⟩
      ·simp[BE,AI ht,Ac hb,KK.check w Ah td,h3,Aq _ hb,Ak]
      ·have:f kc=Af:=by rw[<-mr.find];exact qj
       simp[Az,this,<-mr.len]
      ·simp at he;rcases he with he|rfl
       ·exact mr.keys e (by simpa using he)
       ·exact l5
      ·simp at he;rcases he with he|rfl
       ·exact mr.ap e (by simpa using he)
       ·exact⟨_,hq⟩
      ·rw[At,hq,c5w ik mr.ap qj,mr.find];rfl
      ·rw[At];refine Bl.2 ⟨mr.nd,by simp,fun e he e' l9=> ?_⟩;simp at l9;subst l9;exact h4 e he
     ·have hj:es[j]? =AF e:=by simpa using h4
      have gm:=Am h4;have gl:(es.modify j (fun e'=>{e' with key:=a.eval X,val:=a.eval Y})).toList=es.toList.set j {e with key:=a.eval X,val:=a.eval Y}:=by rw[BQ,BA _ _ _ _ h4]
      refine fin (es':=es.modify j (fun e'=>{e' with key:=a.eval X,val:=a.eval Y})) (clock':=clock) ?_ ⟨?_,fun e' he=> ?_,fun e' he=> ?_,fun k=> ?_,?_⟩
      ·simp[BE,AI ht,Ac hb,KK.check w Ah td,h3,hj,h5,KK.stays w td,Aq _ hb,Ak]
      ·obtain⟨q0,P9⟩:=mr.ap e gm;have:f kc=AF q0:=by rw[<-mr.find];exact b2y l5 ik mr.keys mr.nd gm h5 P9
       rw[gl];simp[Az,this,<-mr.len]
      ·rw[gl] at he;rcases BC he with he|rfl
       ·exact mr.keys e' he
       ·exact l5
      ·rw[gl] at he;rcases BC he with he|rfl
       ·exact mr.ap e' he
       ·exact⟨_,hq⟩
      ·rw[gl,c7y l5 ik rfl hq mr.keys mr.nd h4 h5,mr.find];rfl
      ·rw[gl];have e3:(es.toList.set j {e with key:=a.eval X,val:=a.eval Y}).map (·.key)=es.toList.map (·.key):=by
        rw[CB];refine A2 fun i=> ?_;by_cases hi:i=j
        ·subst hi;have hlt:=(AC.1 h4).1;rw[AU (by simpa using hlt),AZ,h4];simp[h5]
        ·rw[AT (As hi)]
       refine (A8 (f:=fun e:Al=>e.key) (R:=fun x y=>x≠y)).1 ?_;rw[e3];exact (A8 (f:=fun e:Al=>e.key) (R:=fun x y=>x≠y)).2 mr.nd
   ·exact hk.elim
  ·exact hk.elim
 ·exact hk.elim
theorem UC (hl:Br P=An){t kt et:AY}{M X Y:AX}(bc:o.op= .mapUpdate t M X Y\/o.op= .insert t M X Y)(ht:P.underlying t=AF (.map kt et)){wide:Bool}{ks:List Ai}(ep:y9 P kt=AF (wide,ks))
 {m x y:ah} (hm:bh M=AF m) (hx:bh X=AF x) (hy:bh Y=AF y) (hk:af (Az P A ro E) (.n9 wide ks m x y) st K) (hr:Bt E st a w S ρ):Bj P o a w S ρ st.h K:=by
 have h0:=dm hr.ts hm;have h1:=dm hr.ts hx;have h2:=dm hr.ts hy;simp only[af] at hk;split at hk
 ·rename_i l e1;rw[e1] at h0;split at hk
  ·rename_i ct dt keys ap uc;split at hk
   ·rename_i hc;obtain⟨rfl,rfl⟩:=hc;generalize hv:a.eval M=v at h0;cases h0 with
    |map _ b C hρ=>
     obtain⟨kc,l5,ik,hk⟩:=QJ h1 hk;obtain⟨oo,ho,hh⟩:=hr.co.obj l _ C hρ;have iv:=uc;rw[cy] at iv;rw[iv] at ho;cases ho;obtain⟨es,clock,hb,mr,⟨bl,Ih⟩,jo⟩:=hh;obtain⟨KK,yy,_⟩:=QG hl ep;obtain⟨lx,td⟩:=yy _ l5;have tk:H6 es.toList keys:=⟨mr.len,mr.WQ⟩;have GM:ap.length=es.toList.length:=by rw[<-bl];simp
     have fin: ∀{es':Array Al} {clock':Nat} {HL:List (List KC)} {uk:List AV},(BE t (.map (AF b)) (a.eval X) (a.eval Y)).run P w= .ok () {w with heap:=w.heap.setIfInBounds b (.map es' clock')}->
      g2b wide ks es'.toList HL->es'.size=uk.length->clock'=es'.size->(∀(i:Nat) (x:AV) (e:Al),uk[i]? =AF x->es'[i]? =AF e->VR w S ρ x e.val)->K .lc (b8 st.h l (.dz wide ks HL uk)) []->Bj P o a w S ρ st.h K:=by
      intro es' clock' HL uk aj hmr HB hck' hvs' hk;have J7:b<w.heap.size:=(Aw.1 hb).1;have Kg: ¬S b:=hr.co.own l b C _ hρ iv rfl;refine⟨CX,{w with heap:=w.heap.setIfInBounds b (.map es' clock')},.lc,_,[],S,ρ,.inr ⟨?_,rfl⟩,hk,?_,.lc⟩
      ·rcases bc with bc|bc<;>simp[AS,bc,hv,aj,Ak]
      ·rw[fg];refine n8.set hr.co hρ iv rfl rfl ⟨rfl,AJ _⟩ rfl (by simp) (fun k ck=>by simp[Ab (As ck)]) ⟨es',clock',by simp[J7],hmr,⟨HB,hck'⟩,fun i x e hx he=>(hvs' i x e hx he).mono (fun _ h=>h) (fun k PP=> ?_) fun _ _ h=>h⟩;have ck:k≠b:=fun e=>Kg (e▸PP);simp[Ab (As ck)]
     rcases KK.find w td es.toList (fun e he=>yy _ (mr.shape e he)) with⟨h3,h4⟩|⟨j,e,h3,h4,h5⟩
     ·obtain⟨_,qj⟩:=d5n l5 ik (Cu st.ts y) (ap:=ap) tk mr.shape h4;rw[qj] at hk;simp only[fi] at hk;refine fin (es':=es.push ⟨a.eval X,a.eval Y,clock⟩) (clock':=clock+1) ?_ ⟨?_,fun e he=> ?_,fun i e k he mn=> ?_,?_,fun i e he=> ?_⟩ ?_ (by simp[Ih]) (fun i x e hx he=> ?_) hk
      ·simp[BE,AI ht,Ac hb,KK.check w Ah td,h3,Aq _ hb,Ak]
      ·have:=mr.len;simp;simpa using this
      ·simp at he;rcases he with he|rfl
       ·exact mr.shape e (by simpa using he)
       ·exact l5
      ·rw[At] at he;have hlen:=mr.len;by_cases hi:i<es.toList.length
       ·rw[AE hi] at he;rw[AE (by omega)] at mn;exact mr.WQ i e k he mn
       ·rw[AD (by omega)] at he;rw[AD (by omega),hlen] at mn;cases hd:i-es.toList.length with
        |zero=>rw[hd] at he mn;simp at he mn;subst he;subst mn;exact ik
        |succ d=>rw[hd] at he;simp at he
      ·rw[At];refine Bl.2 ⟨mr.nd,by simp,fun e he e' l9=> ?_⟩;simp at l9;subst l9;exact h4 e he
      ·rw[At] at he;by_cases hi:i<es.toList.length
       ·rw[AE hi] at he;exact mr.born i e he
       ·rw[AD (by omega)] at he;cases hd:i-es.toList.length with
        |zero=>
         rw[hd] at he;simp at he;subst he;have:es.toList.length=es.size:=by simp
         show clock=i;omega
        |succ d=>rw[hd] at he;simp at he
      ·simp[bl]
      ·by_cases hi:i<ap.length
       ·rw[AE hi] at hx;rw[Ar,if_neg (by omega)] at he;exact jo i x e hx he
       ·rw[AD (by omega)] at hx;cases hd:i-ap.length with
        |zero=>rw[hd] at hx;rw[Ar,if_pos (by omega)] at he;simp at hx he;subst hx;subst he;exact h2
        |succ d=>rw[hd] at hx;simp at hx
     ·obtain⟨_,Hz⟩:=d5g l5 ik (Cu st.ts y) (ap:=ap) tk GM mr.shape mr.nd h4 h5;rw[Hz] at hk;have hj:es[j]? =AF e:=by simpa using h4
      have gl:(es.modify j (fun e'=>{e' with key:=a.eval X,val:=a.eval Y})).toList=es.toList.set j {e with key:=a.eval X,val:=a.eval Y}:=by rw[BQ,BA _ _ _ _ h4]
      refine fin (es':=es.modify j (fun e'=>{e' with key:=a.eval X,val:=a.eval Y})) (clock':=clock) ?_ ⟨?_,fun e' he=> ?_,fun i e' k he mn=> ?_,?_,fun i e' he=> ?_⟩ ?_ (by simpa using Ih) (fun i x e' hx he=> ?_) hk
      ·simp[BE,AI ht,Ac hb,KK.check w Ah td,h3,hj,h5,KK.stays w td,Aq _ hb,Ak]
      ·rw[gl];simpa using mr.len
      ·rw[gl] at he;rcases BC he with he|rfl
       ·exact mr.shape e' he
       ·exact l5
      ·rw[gl] at he;by_cases hi:i=j
       ·subst hi;rw[AU (by simpa using (AC.1 h4).1)] at he;cases he;have:=mr.WQ i e k h4 mn;rw[h5] at this;exact this
       ·rw[AT (As hi)] at he;exact mr.WQ i e' k he mn
      ·rw[gl];have e3:(es.toList.set j {e with key:=a.eval X,val:=a.eval Y}).map (·.key)=es.toList.map (·.key):=by
        rw[CB];refine A2 fun i=> ?_;by_cases hi:i=j
        ·subst hi;have hlt:=(AC.1 h4).1;rw[AU (by simpa using hlt),AZ,h4];simp[h5]
        ·rw[AT (As hi)]
       refine (A8 (f:=fun e:Al=>e.key) (R:=fun x y=>x≠y)).1 ?_;rw[e3];exact (A8 (f:=fun e:Al=>e.key) (R:=fun x y=>x≠y)).2 mr.nd
      ·rw[gl] at he;by_cases hi:i=j
       ·subst hi;rw[AU (by simpa using (AC.1 h4).1)] at he;cases he;exact mr.born i e h4
       ·rw[AT (As hi)] at he;exact mr.born i e' he
      ·simp[bl]
      ·have he:(es.toList.set j {e with key:=a.eval X,val:=a.eval Y})[i]? =AF e':=by rw[<-gl,AW];simpa only[AW] using he
       by_cases hi:i=j
       ·subst hi;rw[AU (by simpa using (AC.1 h4).1)] at he;have hjv:i<ap.length:=by have:=(AC.1 h4).1;omega
        rw[AU hjv] at hx;cases he;cases hx;exact h2
       ·rw[AT (As hi)] at he hx;exact jo i x e' hx (by simpa using he)
   ·exact hk.elim
  ·exact hk.elim
 ·exact hk.elim
end
inductive Y8:CK->AM->Prop where
 |i (k:Ai) (n:Int):Y8 (.i k) (.int k n)
 |o (b:Bool):Y8 .o (.bool b)
def q9 (ks:List CK)(cs:List AM):Prop:=cs.length=ks.length/\ ∀(i:Nat) (k:CK),ks[i]? =AF k-> ∃v,cs[i]? =AF v/\Y8 k v
theorem b8d {P:B9}{n:Nat}{t:AY}{ks:List CK}(h:ua P n t=AF ks):ks.length=P.cellsOf t:=by
 cases n with
 |zero=>simp[ua] at h
 |succ n=>
  simp only[ua] at h;split at h
  ·split at h
   ·rename_i hc;simp at h;subst h;exact hc.symm
   ·cases h
  ·split at h
   ·rename_i hc;simp at h;subst h;exact hc.symm
   ·cases h
  ·simp only[AG,AA] at h;obtain⟨dt,hf,h⟩:=h;split at h
   ·rename_i hc;simp at h;subst h;exact hc.1
   ·cases h
  ·simp only[AG,AA] at h;obtain⟨dt,hf,h⟩:=h;split at h
   ·rename_i hc;simp at h;subst h;simp[hc.1,hc.2]
   ·cases h
  ·cases h
theorem d7f {P:B9}{g:AY->Option (List Ai)}{g':AY->Option (List CK)}(hg: ∀t ks,g t=AF ks->g' t=AF (ks.map .i)): ∀{fs:List C7} {off:Nat} {ks:List Ai},GB P g fs off=AF ks->GB P g' fs off=AF (ks.map .i):=by
 intro fs
 induction fs with
 |nil=>intro off ks h;simp[GB] at h;subst h;rfl
 |cons f fs ih=>
  intro off ks h;simp only[GB,AG,AA] at h⊢;obtain⟨k1,h1,h⟩:=h;split at h
  ·rename_i hc;simp only[AA,AH,AB] at h;obtain⟨k2,h2,rfl⟩:=h;refine⟨_,hg _ _ h1,?_⟩;simp only[By];rw[if_pos hc];simp only[AA,AH,AB];exact⟨_,ih h2,by simp⟩
  ·cases h
theorem e3x {P:B9}: ∀{n:Nat} {t:AY} {ks:List Ai},xo P n t=AF ks->ua P n t=AF (ks.map .i):=by
 intro n
 induction n with
 |zero=>intro t ks h;simp[xo] at h
 |succ n ih=>
  intro t ks h;simp only[xo] at h;simp only[ua];split at h
  ·rename_i k hu;split at h
   ·rename_i hc;simp at h;subst h;simp[hu,hc]
   ·cases h
  ·rename_i fs hu;simp only[AG,AA] at h;obtain⟨dt,hf,h⟩:=h;split at h
   ·rename_i hc;simp at h;subst h;rw[hu];simp only[AG,AA];exact⟨_,d7f (fun t ks h=>ih h) hf,by rw[By,if_pos hc];rfl⟩
   ·cases h
  ·rename_i m e hu;simp only[AG,AA] at h;obtain⟨dt,hf,h⟩:=h;split at h
   ·rename_i hc;simp at h;subst h;rw[hu];simp only[AG,AA];exact⟨_,ih hf,by rw[By,if_pos hc];simp⟩
   ·cases h
  ·cases h
theorem q9.cut {ks dt:List CK}{cs:List AM}{off:Nat}(h:q9 ks cs)(hle:off+dt.length<=cs.length)(hi: ∀i k,dt[i]? =AF k->ks[off+i]? =AF k):q9 dt ((cs.drop off).take dt.length):=by refine⟨by rw[AO,A5];omega,fun i k hk=> ?_⟩;obtain⟨n,hn⟩:=h.2 (off+i) k (hi i k hk);exact⟨n,by rw[U5 (AC.1 hk).1];exact hn⟩
section
variable {P:B9} {w:A4}
theorem d5d {n:Nat}{e:AY}{ks:List CK}(hf:ua P n e=AF ks){xs:Array AM}{off:Nat}(hi:q9 ks ((xs.toList.drop off).take ks.length)):
 ∃a,(part e xs off).run P w= .ok a w/\a.formed P e=An/\a.cells.toList=(xs.toList.drop off).take ks.length:=by
 have hlen:=b8d hf;cases n with
 |zero=>simp[ua] at hf
 |succ n=>
  simp only[ua] at hf;have agg: ∀kd,P.underlying e=AF kd->((∃n e',kd= .array n e')\/(∃fs,kd= .struct fs))-> ∃a,(part e xs off).run P w= .ok a w/\a.formed P e=An/\a.cells.toList=(xs.toList.drop off).take ks.length:=by
   intro kd hu hk;obtain⟨i,fw⟩:=BN hu;have hl:(xs.extract off (off+P.cellsOf e)).toList=(xs.toList.drop off).take ks.length:=by rw[Array.toList_extract,hlen];simp[List.extract]
   refine⟨.agg (xs.extract off (off+P.cellsOf e)),?_,?_,hl⟩
   ·rcases hk with⟨n,e',rfl⟩|⟨fs,rfl⟩<;>simp[part,isAgg,AI hu,run_sizeOf w fw]
   ·have hs:(xs.extract off (off+P.cellsOf e)).size=P.cellsOf e:=by rw[<-AR,hl,hi.1,hlen]
    rcases hk with⟨n,e',rfl⟩|⟨fs,rfl⟩<;>simp[Av,hu,hs]
  have leaf: ∀{k:CK} {v:AM},q9 [k] ((xs.toList.drop off).take [k].length)->((xs.toList.drop off).take [k].length)[0]? =AF v->P.plainKey e=An->v.formed P e=An->v.cells= #[v]->
   ∃a,(part e xs off).run P w= .ok a w/\a.formed P e=An/\a.cells.toList=(xs.toList.drop off).take [k].length:=by
   intro k v hi hx hp SG kj;have HE:=hx;rw[U5 (by simp),BW] at hx;have te:xs[off]? =AF v:=by rw[<-AW];exact hx
   refine⟨v,run_part_plain w hp te,SG,?_⟩;obtain⟨h1,h2⟩:=hi
   match hq:(xs.toList.drop off).take [k].length,h1 with
   |[c],_=>rw[hq] at HE;simp at HE;subst HE;rw[kj]
  split at hf
  ·rename_i k hu;split at hf
   ·simp at hf;subst hf;obtain⟨v,hx,hk⟩:=hi.2 0 _ rfl;cases hk with
    |i _ x=>exact leaf hi hx (by simp[Program.plainKey,hu]) (by simp[Av,hu]) rfl
   ·cases hf
  ·rename_i hu;split at hf
   ·simp at hf;subst hf;obtain⟨v,hx,hk⟩:=hi.2 0 _ rfl;cases hk with
    |o x=>exact leaf hi hx (by simp[Program.plainKey,hu]) (by simp[Av,hu]) rfl
   ·cases hf
  ·rename_i fs hu;exact agg _ hu (.inr ⟨fs,rfl⟩)
  ·rename_i m e' hu;exact agg _ hu (.inl ⟨m,e',rfl⟩)
  ·cases hf
def Y7 (P:B9)(w:A4)(dd:Nat)(e:AY)(ks:List CK):Prop:= ∀x y:AM,x.formed P e=An->y.formed P e=An->q9 ks x.cells.toList->q9 ks y.cells.toList->
 ∃r:Bool,(Bh dd e x y).run P w= .ok r w/\(r=An↔x.cells.toList=y.cells.toList)
theorem Rk {α:Type}(l:List α)(off a b:Nat):(l.drop off).take (a+b)=(l.drop off).take a++(l.drop (off+a)).take b:=by rw[List.take_add,List.drop_drop]
theorem b0l {α:Type}{a b c d:List α}(h:a.length=b.length):a++c=b++d↔a=b/\c=d:=
 ⟨fun e=>List.append_inj e h,fun⟨e1,e2⟩=>by rw[e1,e2]⟩
theorem b6z {n dd off:Nat}{e:AY}{ks:List CK}(hf:ua P n e=AF ks)(ih:Y7 P w dd e ks){xs ys:Array AM}(hx:q9 ks ((xs.toList.drop off).take ks.length))(hy:q9 ks ((ys.toList.drop off).take ks.length)):
 ∃a b r,(part e xs off).run P w= .ok a w/\(part e ys off).run P w= .ok b w/\(Bh dd e a b).run P w= .ok r w/\(r=An↔(xs.toList.drop off).take ks.length=(ys.toList.drop off).take ks.length):=by
 obtain⟨a,h1,h2,h3⟩:=d5d hf hx;obtain⟨b,h4,h5,h6⟩:=d5d hf hy;obtain⟨r,h7,h8⟩:=ih a b h2 h5 (by rw[h3];exact hx) (by rw[h6];exact hy);exact⟨a,b,r,h1,h4,h7,by rw[h8,h3,h6]⟩
theorem c5i {n dd:Nat}(xs ys:Array AM): ∀(fs:List C7) (off:Nat) (ks:List CK),GB P (ua P n) fs off=AF ks->(∀f,f∈fs->f.name≠ "_" /\ ∀dt,ua P n f.type=AF dt->Y7 P w dd f.type dt)->
 q9 ks ((xs.toList.drop off).take ks.length)->q9 ks ((ys.toList.drop off).take ks.length)->
 ∃r:Bool,(CO dd xs ys fs).run P w= .ok r w/\(r=An↔(xs.toList.drop off).take ks.length=(ys.toList.drop off).take ks.length):=by
 intro fs
 induction fs with
 |nil=>intro off ks h _ _ _;simp[GB] at h;subst h;exact⟨An,by simp[CO],by simp⟩
 |cons f fs ih=>
  intro off ks h cd hx hy;simp only[GB,AG,AA] at h;obtain⟨k1,h1,h⟩:=h;split at h
  ·rename_i hc;simp only[AA,AH,AB] at h;obtain⟨k2,h2,rfl⟩:=h;obtain⟨hn,hp⟩:=cd f (by simp);rw[AQ,Rk] at hx hy;have OB: ∀{zs:List AM},q9 (k1++k2) ((zs.drop off).take k1.length++(zs.drop (off+k1.length)).take k2.length)->q9 k1 ((zs.drop off).take k1.length)/\q9 k2 ((zs.drop (off+k1.length)).take k2.length):=by
    intro zs hz;have hl:=hz.1;have l1:((zs.drop off).take k1.length).length<=k1.length:=by rw[AO];omega
    have l2:((zs.drop (off+k1.length)).take k2.length).length<=k2.length:=by rw[AO];omega
    simp only[AQ] at hl;refine⟨⟨by omega,fun i k hk=> ?_⟩,⟨by omega,fun i k hk=> ?_⟩⟩
    ·have hi:=(AC.1 hk).1;obtain⟨x,hx⟩:=hz.2 i k (by rw[AE hi];exact hk);rw[AE (by omega)] at hx;exact⟨x,hx⟩
    ·obtain⟨x,hx⟩:=hz.2 (k1.length+i) k (by rw[AD (by omega),Bd];exact hk);have e1:((zs.drop off).take k1.length).length=k1.length:=by omega
     rw[AD (by omega),e1,Bd] at hx;exact⟨x,hx⟩
   obtain⟨Qw,HE⟩:=OB hx;obtain⟨S5,hy2⟩:=OB hy;obtain⟨a,b,r,p1,p2,p3,ku⟩:=b6z h1 (hp k1 h1) Qw S5;obtain⟨r',k9,Hk⟩:=ih (off+k1.length) k2 h2 (fun g hg=>cd g (by simp[hg])) HE hy2;rw[AQ,Rk,Rk,b0l (by rw[Qw.1,S5.1])];simp only[CO,hn,ne_eq,not_false_eq_true,if_true,Be,hc.1,p1,p2,p3,Ba];cases r with
   |false=>exact⟨Ah,by simp,by simp;intro e;exact absurd (ku.2 e) (by simp)⟩
   |true=>refine⟨r',by simpa using k9,?_⟩;rw[Hk];simp[ku.1 rfl]
  ·cases h
theorem d0r {n dd:Nat}{e:AY}{ks:List CK}(hf:ua P n e=AF ks)(ih:Y7 P w dd e ks)(xs ys:Array AM): ∀(m off:Nat),
 (∀i,i<m->q9 ks ((xs.toList.drop ((off+i)*ks.length)).take ks.length))->(∀i,i<m->q9 ks ((ys.toList.drop ((off+i)*ks.length)).take ks.length))->
 ∃r:Bool,(CT dd e ks.length xs ys (List.range' off m)).run P w= .ok r w/\(r=An↔(xs.toList.drop (off*ks.length)).take (m*ks.length)=(ys.toList.drop (off*ks.length)).take (m*ks.length)):=by
 intro m
 induction m with
 |zero=>intro off _ _;exact⟨An,by simp[CT],by simp⟩
 |succ m ihm=>
  intro off hx hy;have h0x:=hx 0 (by omega);have h0y:=hy 0 (by omega);rw[BW] at h0x h0y;obtain⟨a,b,r,p1,p2,p3,ku⟩:=b6z hf ih h0x h0y;obtain⟨r',k9,Hk⟩:=ihm (off+1) (fun i hi=>by have:=hx (i+1) (by omega);rwa [show off+(i+1)=off+1+i by omega] at this) (fun i hi=>by have:=hy (i+1) (by omega);rwa [show off+(i+1)=off+1+i by omega] at this);have e1:(m+1)*ks.length=ks.length+m*ks.length:=by rw[Bf];omega
  have e2:(off+1)*ks.length=off*ks.length+ks.length:=by rw[Bf]
  rw[e1,Rk,Rk,b0l (by rw[h0x.1,h0y.1]),<-e2];simp only[List.range'_succ,CT,Be,p1,p2,p3,Ba];cases r with
  |false=>exact⟨Ah,by simp,by simp;intro e;exact absurd (ku.2 e) (by simp)⟩
  |true=>refine⟨r',by simpa using k9,?_⟩;rw[Hk];simp[ku.1 rfl]
end
section
variable {P:B9} {A:t7} {ro:Option Nat} {E:x4} {c:Nat} {o:Oper} {io:qr} {st:St} {K:AV->List ae->List Nat->Prop}
 {a:Cp} {w:A4} {S:Nat->Prop} {ρ:Cg} {h:List ae}
theorem b4m (s:Nat)(e e2:Nat->List DV):(Az P A ro E).put s 0 e e2=e:=by funext j;show (if s<=j/\j<s+0 then e2 (j-s) else e j)=e j;rw[if_neg (by omega)]
theorem c0f {l b C sz n' s k:Nat}{e e2:Nat->List DV}{vs:Array AM}{ty:AY}{new:List AM}(hs:Cm w S ρ h)(hρ:ρ l=AF (AF b,C))(hl:h[l]? =AF (.arr sz n' e))
 (hb:w.heap[b]? =AF (.cells vs ty (0,0))) (hv:vs.size=C*sz) (hC:n'<=C)
 (hold: ∀i,i<n'->(e i).length=sz/\ ∀(j:Nat) (x:DV) (u:AM),(e i)[j]? =AF x->vs[i*sz+j]? =AF u->C3 w S x u) (hsk:s+k<=n') (hn:new.length=k*sz)
 (j3: ∀i,i<k->(e2 i).length=sz/\ ∀(j:Nat) (x:DV) (u:AM),(e2 i)[j]? =AF x->new[i*sz+j]? =AF u->C3 w S x u):
 Cx w S ρ h (w.setRow b (vs.toList.take (s*sz)++new++vs.toList.drop (s*sz+new.length)).toArray) S ρ (h.set l (.arr sz n' ((Az P A ro E).put s k e e2))) []:=by
 obtain⟨s1,s2,s3,s4,s5,s6⟩:=Md (cs:=(vs.toList.take (s*sz)++new++vs.toList.drop (s*sz+new.length)).toArray) hb;have hS: ∀m,S m->(w.setRow b (vs.toList.take (s*sz)++new++vs.toList.drop (s*sz+new.length)).toArray).heap[m]? =w.heap[m]? :=
  fun m hm=>s6 m (fun e=>hs.own l b C _ hρ hl rfl (e▸hm))
 have h1:(s+k)*sz<=C*sz:=AP _ (by omega);rw[Ae] at h1;have so:((vs.toList.take (s*sz)++new++vs.toList.drop (s*sz+new.length)).toArray).size=C*sz:=by simp only[BL,AQ,AO,A5,AR];omega
 refine n8.set hs hρ hl rfl s1 s2 s3 s4 s6 ⟨_,ty,s5,so,hC,fun i hi=> ?_⟩;show (if s<=i/\i<s+k then e2 (i-s) else e i).length=sz/\ ∀(j:Nat) (x:DV) (u:AM),(if s<=i/\i<s+k then e2 (i-s) else e i)[j]? =AF x->_;have Qm:(vs.toList.take (s*sz)).length=s*sz:=by rw[AO,AR];omega
 by_cases aq:s<=i/\i<s+k
 ·rw[if_pos aq];have jx:i-s<k:=by omega
  refine⟨(j3 _ jx).1,fun j x u hx hu=> ?_⟩;have hj:j<sz:=by have:=(AC.1 hx).1;rw[(j3 _ jx).1] at this;exact this
  have h7:(i-s+1)*sz<=k*sz:=AP _ (by omega);rw[Ae] at h7;have h8:i*sz=s*sz+(i-s)*sz:=by rw[<-Ae];congr 1;omega
  simp only[Ag] at hu;rw[Aa,AD (by omega),AE (by omega),Qm,show i*sz+j-s*sz=(i-s)*sz+j by omega] at hu;exact Bv (w:=w) (fun _ h=>h) hS ((j3 _ jx).2 j x u hx hu)
 ·rw[if_neg aq];refine⟨(hold i hi).1,fun j x u hx hu=> ?_⟩;have hj:j<sz:=by have:=(AC.1 hx).1;rw[(hold i hi).1] at this;exact this
  have hg:vs[i*sz+j]? =AF u:=by
   simp only[Ag] at hu;by_cases hlt:i<s
   ·have h7:(i+1)*sz<=s*sz:=AP _ (by omega);rw[Ae] at h7;rw[Aa,AE (by omega),Ad (by omega)] at hu;simpa using hu
   ·have h7:(s+k)*sz<=i*sz:=AP _ (by omega);rw[Ae] at h7;rw[AD (by rw[AQ];omega),Ax,AQ,Qm,hn,show s*sz+k*sz+(i*sz+j-(s*sz+k*sz))=i*sz+j by omega] at hu;simpa using hu
  exact Bv (w:=w) (fun _ h=>h) hS ((hold i hi).2 j x u hx hg)
theorem WB.front {sz n k:Nat}{e:Nat->List DV}{aa:Option B6}{cap:Nat}(h:WB w S sz n e aa cap)(hk:k<=n):WB w S sz k e aa cap:=by
 by_cases h0:k=0
 ·exact .inl h0
 ·rcases h with h|⟨b,off,h1,h2,h3⟩
  ·omega
  ·exact .inr ⟨b,off,h1,by omega,fun i hi=>h3 i (by omega)⟩
theorem c0k {sz n k:Nat}{e:Nat->List DV}{aa:Option B6}{cap:Nat}(he:WB w S sz n e aa cap)(hk:k<=n):
 ∃new:Array AM,(A6 sz k (.slice aa n cap)).run P w= .ok new w/\new.size=k*sz/\(∀v,v∈new.toList->0<sz->v.oneCell'=An)/\
  ∀i,i<k->(e i).length=sz/\ ∀(j:Nat) (x:DV) (u:AM),(e i)[j]? =AF x->new.toList[i*sz+j]? =AF u->C3 w S x u:=by
 obtain⟨new,h1,h2,h3,h4⟩:=Iv (P:=P) (he.front hk) (fun _ _ _=>trivial);refine⟨new,?_,h2,fun v hv lz=> ?_,fun i hi=>⟨h3 i hi,fun j x u hx hu=>h4 i hi j x u hx (by simpa using hu)⟩⟩
 ·cases aa<;>exact h1
 ·obtain⟨q,hq,rfl⟩:=BS hv;have LK:q<k*sz:=by simpa [h2] using hq
  have hi:q/sz<k:=(Bk lz).2 LK;have hj:q % sz<sz:=CR _ lz;have hx:(e (q/sz))[q % sz]? =AF ((e (q/sz))[q % sz]'(by rw[h3 _ hi];exact hj)):=AN _;refine Co (h4 (q/sz) hi (q % sz) _ new.toList[q] hx ?_);rw[show q/sz*sz+q % sz=q by rw[CG];exact B2 q sz];simp at hq;simp[hq]
theorem b6m {sz:Nat}{x:AV}{v:AM}{K:Nat->Nat->(Nat->List DV)->Prop}(hs:Cm w S ρ h)(h1:VR w S ρ x v)(hk:zm (Az P A ro E) sz h x K):
 ∃sz n e a cap,K sz n e/\v= .slice a n cap/\WB w S sz n e a cap:=by
 unfold zm at hk;split at hk
 ·exact⟨sz,0,_,Af,0,hk,h1.nil,.inl rfl⟩
 ·cases h1 with
  |d hd=>
   cases hd with
   |raw _ _=>exact⟨sz,0,_,_,_,hk,rfl,.inl rfl⟩
 ·exact b4z hs h1 hk
theorem d7q {l sz n n' s0:Nat}{s:Option Nat}{f:Bool}{e:Nat->List DV}{v:AM}(hs:Cm w S ρ h)(h0:VR w S ρ (.bi l sz s n f) v)(hl:h[l]? =AF (.arr sz n' e))(LM:s0=s.getD 0)(hle:s0+n<=n'):
 ∃aa cap,v= .slice aa n cap/\n<=cap/\(f=Ah->n'<=s0+cap)/\((n'=0\/cap=0)\/ ∃b C vs ty,ρ l=AF (AF b,C)/\aa=AF ⟨b,s0*sz,Af⟩/\w.heap[b]? =AF (.cells vs ty (0,0))/\vs.size=C*sz/\n'<=C/\
  ∀i,i<n'->(e i).length=sz/\ ∀(j:Nat) (x:DV) (u:AM),(e i)[j]? =AF x->vs[i*sz+j]? =AF u->C3 w S x u):=by
 subst LM;cases h0 with
 |bi _ _ _ _ _ ob C cap aa hρ hc b9 ha=>
  obtain⟨oo,h1,h2⟩:=hs.obj l ob C hρ;rw[hl] at h1;cases h1;have hn:n<=cap:=by rw[b9];split<;>omega
  have hC:n'<=C:=by
   cases ob with
   |none=>obtain⟨_,qf,e2,h3|h3⟩:=h2<;>cases h3;omega
   |some b=>obtain⟨vs,ty,h3,h4,h5,h6⟩:=h2;exact h5
  refine⟨aa,cap,rfl,hn,fun hf=>by subst hf;simp at b9;omega,?_⟩;by_cases h0:cap=0
  ·exact .inl (.inr h0)
  ·cases ob with
   |none=>obtain⟨_,qf,e2,h3|h3⟩:=h2<;>cases h3;exact .inl (.inl rfl)
   |some b=>obtain⟨vs,ty,h3,h4,h5,h6⟩:=h2;exact .inr ⟨b,C,vs,ty,hρ,by simpa using ha (by omega),h3,h4,h5,h6⟩
theorem b5s {l:Nat}{oo:ae}(hl:h[l]? =AF oo):h.set l oo=h:=by obtain⟨h1,h2⟩:=AC.1 hl;rw[<-h2];exact List.set_getElem_self h1
theorem b3f (s:Option Nat):NS s=s.getD 0:=by cases s<;>rfl
theorem c5b {t u e e':AY}{X Y:AX}(bc:o.op= .call {callee:= .builtin .append,args:= #[X,Y],argTypes:= #[t,u]})
 (ht:P.underlying t=AF (.slice e)) (hu:P.underlying u=AF (.slice e')) {sz:Nat} (bl:l6 P e=AF sz)
 {x y:ah} (hx:bh X=AF x) (hy:bh Y=AF y) (hk:af (Az P A ro E) (.oq sz x y) st K) (hr:Bt E st a w S ρ):Bj P o a w S ρ st.h K:=by
 have h0:=dm hr.ts hx;have h1:=dm hr.ts hy;simp only[af] at hk;have run: ∀r w',(AL #[t,u] o.type #[a.eval X,a.eval Y]).run P w= .ok r w'->(AS a.eval o).run P w= .ok (.value r) w':=by intro r w' h;simp[AS,bc,Bm,Bw,builtin,h]
 have run: ∀r w',(AL #[t,u] t #[a.eval X,a.eval Y]).run P w= .ok r w'->(AS a.eval o).run P w= .ok (.value r) w':=run;revert h0 h1 hk run;generalize Cu st.ts x=p;generalize Cu st.ts y=q;generalize a.eval X=v;generalize a.eval Y=v2;intro hk h0 h1 run;unfold NT at hk;obtain⟨qf,m,e2,a2,cap2,cp,jh,sg⟩:=b6m hr.co h1 hk;clear hk;subst jh;obtain⟨lz,cw⟩:=vu bl;split at cp
 ·rename_i Hw;have Hw:=AK Hw;subst Hw;split at cp
  ·rename_i l sz' s n;split at cp
   ·rename_i lq;have lq:=AK lq;subst lq;simp only[cy,fg,IJ] at cp;split at cp
    ·rename_i ec n' e1 hl;split at cp
     ·rename_i w0;have w0:=AK w0;subst w0;obtain⟨hle,hk⟩:(s.getD 0+n+m<=n')/\K (.bi l sz s (n+m) Ah) (st.h.set l (.arr sz n' ((Az P A ro E).put (s.getD 0+n) m e1 e2))) []:=cp;obtain⟨aa,cap,hv,GJ,b9,hblk⟩:=d7q hr.co h0 hl rfl (by omega);have b9:=b9 rfl;subst hv;obtain⟨new,cm,ky,oa,P3⟩:=c0k (P:=P) sg (AJ m);have vr:VR w S ρ (.bi l sz s (n+m) Ah) (.slice aa (n+m) cap):=by
       cases h0 with
       |bi _ _ _ _ _ ob C _ _ hρ hc yv ha=>exact .bi l sz s (n+m) Ah ob C cap aa hρ (by simp at yv;omega) (by simpa using yv) ha
      by_cases hm:m=0
      ·subst hm;rw[b4m,b5s hl] at hk;refine .same hr.co (run _ _ ?_) hk vr;have Hs:new.toList=[]:=by
        have:new.size=0:=by omega
        simpa using this
       cases aa with
       |none=>simp[AL,AI ht,AI hu,cw,Ap,cm,GJ]
       |some pa=>simp[AL,AI ht,AI hu,cw,Ap,cm,Hs,BR,GJ]
      ·rcases hblk with (h2|h2)|⟨b,C,vs,ty,hρ,rfl,hb,jo,hC,hold⟩
       ·omega
       ·omega
       ·have Pe:(s.getD 0+n+m)*sz<=C*sz:=AP _ (by omega);rw[Ae,Ae] at Pe;have aj:=a5o (P:=P) (b:=b) (off:=s.getD 0*sz) (n:=n) (cap:=cap) ht hu bl (by omega) cm hb (by rw[jo,ky];omega) (fun v hv=>oa v hv lz);have k:=c0f (P:=P) (A:=A) (ro:=ro) (E:=E) (s:=s.getD 0+n) (k:=m) (new:=new.toList) hr.co hρ hl hb jo hC hold (by omega) (by simpa using ky) P3;rw[Ae] at k;exact⟨_,_,_,_,[],S,ρ,.inl (run _ _ aj),hk,k,vr.mono k.ext.mono k.ext.cell (fun m p hm=>hm)⟩
     ·exact cp.elim
    ·exact cp.elim
   ·exact cp.elim
  ·exact cp.elim
 ·exact cp.elim
theorem d7b {e:Nat->List DV}: ∀{k:Nat} {l:List AV},zh e k=AF l->l.length=k/\ ∀i,i<k-> ∃x,e i=[x]/\l[i]? =AF (.d x):=by
 intro k
 induction k with
 |zero=>intro l h;simp[zh] at h;subst h;simp
 |succ k ih=>
  intro l h;simp only[zh] at h;split at h
  ·rename_i l' bu;split at h
   ·rename_i x hx;simp only[AB] at h;obtain⟨h1,h2⟩:=ih bu;subst h;rw[fi];refine⟨by simp[h1],fun i hi=> ?_⟩;by_cases hik:i<k
    ·obtain⟨y,hy,hl⟩:=h2 i hik;exact⟨y,hy,by rw[AE (by omega)];exact hl⟩
    ·have:i=k:=by omega
     subst this;exact⟨x,hx,by rw[AD (by omega),h1];simp⟩
   ·cases h
  ·cases h
theorem e4m {t u e:AY}{X Y:AX}(bc:o.op= .call {callee:= .builtin .copy,args:= #[X,Y],argTypes:= #[t,u]})
 (ht:P.underlying t=AF (.slice e)) {sz:Nat} (bl:l6 P e=AF sz)
 {x y:ah} (hx:bh X=AF x) (hy:bh Y=AF y) (hk:af (Az P A ro E) (.copy sz x y) st K) (hr:Bt E st a w S ρ):Bj P o a w S ρ st.h K:=by
 have h0:=dm hr.ts hx;have h1:=dm hr.ts hy;obtain⟨cs,hex⟩:=Mb (a:=a) bc;simp only[af] at hk;have run: ∀r w',(B3 #[t,u] o.type #[a.eval X,a.eval Y]).run P w= .ok r w'->(AS a.eval o).run P w= .ok (.value r) w':=by intro r w' h;rw[hex];simp[builtin,h]
 revert h0 h1 hk run;generalize Cu st.ts x=p;generalize Cu st.ts y=q;generalize a.eval X=v;generalize a.eval Y=v2;intro hk h0 h1 run;unfold NU at hk;obtain⟨qf,m,e2,a2,cap2,cp,jh,sg⟩:=b6m hr.co h1 hk;clear hk;subst jh;obtain⟨lz,cw⟩:=vu bl;have main: ∀(aa:Option B6) (n cap:Nat) (new:Array AM) (w':A4),v= .slice aa n cap->(A6 sz (min n m) (.slice a2 m cap2)).run P w= .ok new w->
  (match aa with|some pa=>(BR pa new.toList).run P w= .ok () w'|none=>w'=w)->(AS a.eval o).run P w= .ok (.value (.int .i64 (min n m:Nat))) w':=by
  intro aa n cap new w' hv cm fj;subst hv;refine run _ _ ?_;have P0:Nat.min m n=min n m:=Nat.min_comm m n;cases aa with
  |none=>simp only at fj;subst fj;simp[B3,AI ht,cw,Ap,P0,cm,CF]
  |some pa=>simp only at fj;simp[B3,AI ht,cw,Ap,P0,cm,fj,CF]
 split at cp
 ·rename_i Hw;have Hw:=AK Hw;subst Hw;split at cp
  ·rename_i l sz' s n f;split at cp
   ·rename_i lq;have lq:=AK lq;subst lq;simp only[cy,fg,IJ,b3f] at cp;split at cp
    ·rename_i ec n' e1 hl;split at cp
     ·rename_i w0;have w0:=AK w0;subst w0;obtain⟨hle,hk⟩:(s.getD 0+n<=n')/\K (.d (.int .i64 (.v (min n m:Nat)))) (st.h.set l (.arr sz n' ((Az P A ro E).put (s.getD 0) (min n m) e1 e2))) []:=cp;obtain⟨aa,cap,hv,GJ,_,hblk⟩:=d7q hr.co h0 hl rfl hle;obtain⟨new,cm,ky,oa,P3⟩:=c0k (P:=P) (k:=min n m) sg (CY _ _);by_cases hm:min n m=0
      ·rw[hm,b4m,b5s hl] at hk;have Hs:new.toList=[]:=by
        have:new.size=0:=by rw[ky,hm];simp
        simpa using this
       have aj:=main aa n cap new w hv cm (by cases aa<;>simp[Hs,BR]);rw[hm] at aj;exact .same hr.co aj hk (.d (.int .i64 (.v ((0:Nat):Int))))
      ·rcases hblk with (h2|h2)|⟨b,C,vs,ty,hρ,rfl,hb,jo,hC,hold⟩
       ·omega
       ·omega
       ·have Pe:(s.getD 0+min n m)*sz<=C*sz:=AP _ (by omega);rw[Ae] at Pe;have fj:=B0 (P:=P) b (s.getD 0*sz) ty new.toList 0 vs w hb (by simp[jo,ky];omega) (fun v hv=>oa v hv lz);simp only[BW] at fj;have aj:=main _ n cap new _ hv cm fj;have k:=c0f (P:=P) (A:=A) (ro:=ro) (E:=E) (s:=s.getD 0) (k:=min n m) (new:=new.toList) hr.co hρ hl hb jo hC hold (by omega) (by simpa using ky) P3;exact⟨_,_,_,_,[],S,ρ,.inl aj,hk,k,.d (.int .i64 (.v _))⟩
     ·exact cp.elim
    ·exact cp.elim
   ·exact cp.elim
  ·rename_i l off n;split at cp
   ·rename_i lq;have lq:=AK lq;subst lq;simp only[cy,fg] at cp;split at cp
    ·rename_i cs0 hl;split at cp
     ·rename_i newA Hr;split at cp
      ·rename_i jw hcs';have hk:K (.d (.int .i64 (.v (min n m:Nat)))) (st.h.set l (.var jw)) []:=cp;have Hr:zh e2 (min n m)=AF newA:=Hr;obtain⟨r1,r2⟩:=d7b Hr;obtain⟨p1,p2⟩:=Tl _ _ _ _ hcs';obtain⟨new,cm,ky,oa,P3⟩:=c0k (P:=P) (k:=min n m) sg (CY _ _);cases h0 with
       |d7 _ _ _ b C cap hρ b9=>
        obtain⟨oo,h2,h3⟩:=hr.co.obj l _ C hρ;rw[hl] at h2;cases h2;obtain⟨vs,ty,hb,jo,hold⟩:=h3;rw[Bn] at ky;have fj:=B0 (P:=P) b off ty new.toList 0 vs w hb (by simp[jo,ky];omega) (fun v hv=>oa v hv lz);simp only[BW] at fj;have aj:=main _ n cap new _ rfl cm fj;obtain⟨s1,s2,s3,s4,s5,s6⟩:=Md (cs:=(vs.toList.take off++new.toList++vs.toList.drop (off+new.toList.length)).toArray) hb;have hS: ∀m,S m->(w.setRow b (vs.toList.take off++new.toList++vs.toList.drop (off+new.toList.length)).toArray).heap[m]? =w.heap[m]? :=
         fun m hm=>s6 m (fun e=>hr.co.own l b C _ hρ hl rfl (e▸hm))
        have jy:new.toList.length=min n m:=by simpa using ky
        have k:=n8.set hr.co hρ hl rfl s1 s2 s3 s4 s6 (o':= .var jw) ⟨_,ty,s5,?_,fun i x u hx hu=> ?_⟩
        ·exact⟨_,_,_,_,[],S,ρ,.inl aj,hk,k,.d (.int .i64 (.v _))⟩
        ·rw[p2];simp only[BL,AQ,AO,A5,AR];omega
        ·rw[p2] at hx;simp only[Ag] at hu;have Qm:(vs.toList.take off).length=off:=by rw[AO,AR];omega
         have htc:(cs0.take off).length=off:=by rw[AO];omega
         by_cases h1:i<off
         ·rw[Aa,AE (by omega),Ad h1] at hx hu;exact (hold i x u hx (by simpa using hu)).mono (fun _ h=>h) hS (fun _ _ h=>h)
         ·by_cases h2:i<off+min n m
          ·rw[Aa,AD (by omega),AE (by omega),htc] at hx;rw[Aa,AD (by omega),AE (by omega),Qm] at hu;obtain⟨y,S5,hy2⟩:=r2 (i-off) (by omega);rw[hy2] at hx;cases hx;exact .d (((P3 (i-off) (by omega)).2 0 y u (by rw[S5];rfl) (by simpa using hu)).mono (fun _ h=>h) hS)
          ·rw[AD (by rw[AQ];omega),Ax,AQ,htc,r1,show off+min n m+(i-(off+min n m))=i by omega] at hx;rw[AD (by rw[AQ];omega),Ax,AQ,Qm,jy,show off+min n m+(i-(off+min n m))=i by omega] at hu;exact (hold i x u hx (by simpa using hu)).mono (fun _ h=>h) hS (fun _ _ h=>h)
      ·exact cp.elim
     ·exact cp.elim
    ·exact cp.elim
   ·exact cp.elim
  ·exact cp.elim
 ·exact cp.elim
end
theorem c5h:(QX== "runtime.NumGoroutine")=Ah:=by decide
structure WO (P:B9):Prop where
 laid:Br P=An
 XE: ∀(f:Ci) (fn:Func),P.funcs[f]? =AF fn->fn.body.isNone=An->fn.name=QX->
  Extern.findNext fn=Af/\ ∃tS tR e,Extern.find fn=AF (Extern.SlicesOverlaps.overlaps #[tS,tS] #[tR])/\P.underlying tS=AF (.slice e)/\ ∀w,(sizeOf e).run P w= .ok 1 w
section
variable {P:B9} {A:t7} {ro:Option Nat} {E:x4} {c:Nat} {o:Oper} {io:qr} {st:St} {K:AV->List ae->List Nat->Prop}
 {a:Cp} {w:A4} {S:Nat->Prop} {ρ:Cg} {h:List ae}
theorem d7d {t e:AY}{X:AX}(bc:o.op= .call {callee:= .builtin .clear,args:= #[X],argTypes:= #[t]})(ht:P.underlying t=AF (.slice e)){sz:Nat}{zs:List DV}(bl:l6 P e=AF sz)
 (hz:uo P e=AF zs) (lr:zs.length=sz) {x:ah} (hx:bh X=AF x) (hk:af (Az P A ro E) (.clear sz zs x) st K) (hr:Bt E st a w S ρ):Bj P o a w S ρ st.h K:=by
 have h0:=dm hr.ts hx;obtain⟨cs,hex⟩:=Mb (a:=a) bc;obtain⟨lz,cw⟩:=vu bl;obtain⟨i,z,hi,w5,hd⟩:=KN hz;obtain⟨d1,d2⟩:=IQ hd;simp only[af] at hk;split at hk
 ·rename_i l sz' s n f e1;rw[e1] at h0;split at hk
  ·rename_i lq;have lq:=AK lq;subst lq;simp only[cy,fg,IJ,b3f] at hk;split at hk
   ·rename_i ec n' e2 hl;split at hk
    ·rename_i w0;have w0:=AK w0;subst w0;obtain⟨hle,hk⟩:(s.getD 0+n<=n')/\K .any (st.h.set l (.arr sz n' ((Az P A ro E).put (s.getD 0) n e2 ((Az P A ro E).rep n zs)))) []:=hk;obtain⟨aa,cap,hv,GJ,_,hblk⟩:=d7q hr.co h0 hl rfl hle;have run: ∀w',(Bg #[t] o.type #[a.eval X]).run P w= .ok (.tuple #[]) w'->(AS a.eval o).run P w= .ok (.value (.tuple #[])) w':=by intro w' h;rw[hex];simp[builtin,h]
     rw[hv] at run;by_cases hn:n=0
     ·subst hn;rw[b4m,b5s hl] at hk;refine .same hr.co (run _ ?_) hk (.any _);cases aa<;>simp[Bg,AI ht]
     ·rcases hblk with (h2|h2)|⟨b,C,vs,ty,hρ,rfl,hb,jo,hC,hold⟩
      ·omega
      ·omega
      ·have Pe:(s.getD 0+n)*sz<=C*sz:=AP _ (by omega);rw[Ae] at Pe;have hzc:z.cells.size=sz:=by rw[<-d1,lr]
       have cm:CM z.cells n=(A9 (n*sz)).map (z.cells[· % z.cells.size]!):=by simp[CM,hzc]
       have j3: ∀i',i'<n->((Az P A ro E).rep n zs i').length=sz/\ ∀(j:Nat) (x:DV) (u:AM),((Az P A ro E).rep n zs i')[j]? =AF x->((A9 (n*sz)).map (z.cells[· % z.cells.size]!)).toList[i'*sz+j]? =AF u->C3 w S x u:=by intro i' fw;rw[show (Az P A ro E).rep n zs i'=zs from if_pos fw];exact⟨lr,fun j x u hx hu=>RK hd lr n S w i' fw j x u hx (by rw[AW] at hu;exact hu)⟩
       have Hv: ∀v,v∈((A9 (n*sz)).map (z.cells[· % z.cells.size]!)).toList->v.oneCell'=An:=by
        intro v hv;obtain⟨q,hq,rfl⟩:=BS hv;have LK:q<n*sz:=by simpa using hq
        have jx:q/sz<n:=(Bk lz).2 LK;have hj:q % sz<sz:=CR _ lz;have hx:zs[q % sz]? =AF (zs[q % sz]'(by rw[lr];exact hj)):=AN _;refine Co (RK hd lr n S w (q/sz) jx (q % sz) _ _ hx ?_);rw[show q/sz*sz+q % sz=q by rw[CG];exact B2 q sz];rw[<-AW];exact AN hq
       have fj:=B0 (P:=P) b (s.getD 0*sz) ty ((A9 (n*sz)).map (z.cells[· % z.cells.size]!)).toList 0 vs w hb (by simp[jo];omega) Hv;simp only[BW] at fj;have aj: ∀w2,(BR ⟨b,s.getD 0*sz,Af⟩ ((A9 (n*sz)).map (z.cells[· % z.cells.size]!)).toList).run P w= .ok () w2->(Bg #[t] o.type #[.slice (AF ⟨b,s.getD 0*sz,Af⟩) n cap]).run P w= .ok (.tuple #[]) w2:=by intro w2 h;obtain⟨n0,rfl⟩: ∃n0,n=n0+1:=⟨n-1,by omega⟩;simp only[Bg];simp only[Ag,BH,Be,AI ht,Ba,Jz hi w5,cm,h,Sem.run_pure]
       have k:=c0f (P:=P) (A:=A) (ro:=ro) (E:=E) (s:=s.getD 0) (k:=n) hr.co hρ hl hb jo hC hold (by omega) (by simp) j3;exact⟨_,_,_,_,[],S,ρ,.inl (run _ (aj _ fj)),hk,k,.any _⟩
    ·exact hk.elim
   ·exact hk.elim
  ·exact hk.elim
 ·exact hk.elim
theorem c7b {op:BinOp}{t t' e:AY}{X:AX}{neg:Bool}(bc:o.op= .binOp op t X (.const (.slice Af 0 0)) t')(vz:op=if neg then .neq else .eql)(ht:P.underlying t=AF (.slice e))
 {x:ah} (hx:bh X=AF x) (hk:af (Az P A ro E) (.Vy neg x) st K) (hr:Bt E st a w S ρ):Bj P o a w S ρ st.h K:=by
 have h0:=dm hr.ts hx;have eqr: ∀(aa:Option B6) (n cap:Nat),(C5 t (.slice aa n cap) (.slice Af 0 0)).run P w= .ok aa.isNone w:=by
  intro aa n cap;have gen: ∀d,(Bh (d+1) t (.slice aa n cap) (.slice Af 0 0)).run P w= .ok aa.isNone w:=fun d=>by cases aa<;>simp[Bh,AI ht]
  exact gen 9999
 have fin: ∀(aa:Option B6) (n cap:Nat) (b:Bool),a.eval X= .slice aa n cap->b=(if neg then !aa.isNone else aa.isNone)->K (.d (.bool b)) st.h []->Bj P o a w S ρ st.h K:=by
  intro aa n cap b hv hb hk;refine .same hr.co (v:= .bool b) ?_ hk (.d (.bool b));subst hb vz;have hc:a.eval (.const (.slice Af 0 0))= .slice Af 0 0:=rfl;cases neg with
  |true=>simp only[if_true] at bc⊢;simp[AS,bc,hv,hc,KB (P:=P) (w:=w) (u:= .slice aa n cap) rfl,binOp,eqr]
  |false=>simp only[Ay,if_false] at bc⊢;simp[AS,bc,hv,hc,KB (P:=P) (w:=w) (u:= .slice aa n cap) rfl,binOp,eqr]
 simp only[af] at hk;split at hk
 ·rename_i e1;rw[e1] at h0;refine fin Af 0 0 _ h0.nil ?_ hk;cases neg<;>rfl
 ·rename_i sz n ee e1;rw[e1] at h0;obtain⟨hn,hk⟩:(0<n)/\_:=hk;generalize hv:a.eval X=v at h0;cases h0 with
  |d hd=>
   cases hd with
   |VO sz e aa cap=>omega
   |sl sz n e b off cap f hb hc hl fc k9=>refine fin _ _ _ _ hv ?_ hk;cases neg<;>rfl
 ·rename_i sz n ee e1;rw[e1] at h0;obtain⟨hn,hk⟩:(0<n)/\_:=hk;generalize hv:a.eval X=v at h0;cases h0 with
  |lm _ _ _ aa hd=>
   cases hd with
   |VO sz e aa cap=>omega
   |sl sz n e b off cap f hb hc hl fc k9=>refine fin _ _ _ _ hv ?_ hk;cases neg<;>rfl
 ·rename_i l sz s n f e1;rw[e1] at h0;obtain⟨hn,hk⟩:(0<n)/\_:=hk;generalize hv:a.eval X=v at h0;cases h0 with
  |bi _ _ _ _ _ ob C cap aa hρ hc b9 ha=>
   have yw:0<cap:=by rw[b9];split<;>omega
   have M9:=ha yw;cases ob with
   |none=>obtain⟨oo,h1,h2⟩:=hr.co.obj l _ C hρ;have:=h2.1;omega
   |some b=>subst M9;refine fin _ _ _ _ hv ?_ hk;cases neg<;>rfl
 ·rename_i n c e1;rw[e1] at h0;generalize hv:a.eval X=v at h0;cases h0 with
  |d hd=>
   cases hd with
   |raw _ _=>refine fin Af n c _ hv ?_ hk;cases neg<;>rfl
 ·rename_i aa n c e1;rw[e1] at h0;generalize hv:a.eval X=v at h0;cases h0 with
  |d hd=>
   cases hd with
   |raw _ _=>refine fin (AF aa) n c _ hv ?_ hk;cases neg<;>rfl
 ·exact hk.elim
theorem d2d {t e:AY}{X:AX}{LO HI:Option AX}(bc:o.op= .slice t X LO HI Af)(ht:P.underlying t=AF (.slice e)){sz:Nat}(bl:l6 P e=AF sz)
 {x:ah} {lo hi:Option ah} (hx:bh X=AF x) (kv:mz LO=AF lo) (ly:mz HI=AF hi)
 (hk:af (Az P A ro E) (.Vo sz x lo hi) st K) (hr:Bt E st a w S ρ):Bj P o a w S ρ st.h K:=by
 have h0:=dm hr.ts hx;simp only[af] at hk;split at hk
 ·rename_i l sz' s n e1;rw[e1] at h0;split at hk
  ·rename_i lq;have lq:=AK lq;subst lq;simp only[cy] at hk;split at hk
   ·rename_i ec n' e2 hl;split at hk
    ·rename_i w0;obtain⟨L,ij,hL⟩:=zt hr.ts kv hk;obtain⟨H,cp,hH⟩:=zt hr.ts ly ij;clear hk ij;simp only[j5,IJ] at cp;obtain⟨g1,g2,g3,hk⟩:(0<=L.val)/\(L.val<=H.val)/\(s.getD 0+H.val.toNat<=n')/\K (.bi l sz (Iy (Az P A ro E) s L) (H.val.toNat-L.val.toNat) Ah) st.h []:=cp;generalize hv:a.eval X=v at h0;cases h0 with
     |bi _ _ _ _ _ ob C cap aa hρ hc b9 ha=>
      obtain⟨oo,h1,h2⟩:=hr.co.obj l ob C hρ;rw[hl] at h1;cases h1;have hC:n'<=C:=by
       cases ob with
       |none=>obtain⟨_,qf,e2,h3|h3⟩:=h2<;>cases h3;omega
       |some b=>obtain⟨vs,ty,h3,h4,h5,h6⟩:=h2;exact h5
      simp at b9;have I7:((L.val.toNat:Nat):Int)=L.val:=Aj g1;have Hd:((H.val.toNat:Nat):Int)=H.val:=Aj (by omega);have yt:(LO.map a.eval=Af/\L.val.toNat=0)\/LO.map a.eval=AF (.int .i64 (L.val.toNat:Nat)):=by
       rcases hL with⟨h1,h2⟩|h1
       ·left;simp[h1,h2,Bi]
       ·right;rw[h1,I7]
      have uw:(HI.map a.eval=Af/\H.val.toNat=n/\(Af:Option AM)=Af)\/HI.map a.eval=AF (.int .i64 (H.val.toNat:Nat)):=by
       rcases hH with⟨h1,h2⟩|h1
       ·left;exact⟨by simp[h1],by simp[h2,Bi,Az],rfl⟩
       ·right;rw[h1,Hd]
      have aj:=KD (w:=w) ht bl (aa:=aa) (cap:=cap) yt uw (.inl ⟨rfl,rfl⟩) (by omega) (by omega) (AJ cap);have run: ∀{r:AM},(BD t (.slice aa n cap) (LO.map a.eval) (HI.map a.eval) Af).run P w= .ok r w->(AS a.eval o).run P w= .ok (.value r) w:=by intro r h;simp[AS,bc,hv,h]
      refine .same hr.co (run aj) hk (.bi l sz _ _ Ah ob C _ _ hρ (by rw[KH];omega) (by rw[KH];simp;omega) (fun h5=> ?_))
      ·rw[if_neg (by omega),ha (by omega),KH];cases ob with
       |none=>rfl
       |some b=>simp[xi,Ae]
    ·exact hk.elim
   ·exact hk.elim
  ·exact hk.elim
 ·exact hk.elim
theorem d8f {t e:AY}{X H0:AX}{LO MX:Option AX}(bc:o.op= .slice t X LO (AF H0) MX)(ht:P.underlying t=AF (.slice e)){sz:Nat}(bl:l6 P e=AF sz)
 {x:ah} {lo hi mx:Option ah} (hx:bh X=AF x) (kv:mz LO=AF lo) (ly:mz (AF H0)=AF hi) (mq:mz MX=AF mx)
 (hk:af (Az P A ro E) (.VI sz x lo hi mx) st K) (hr:Bt E st a w S ρ):Bj P o a w S ρ st.h K:=by
 have h0:=dm hr.ts hx;simp only[af] at hk;have main: ∀(aa:Option B6) (n cap sz':Nat),a.eval X= .slice aa n cap->n<=cap->Iz (Az P A ro E) st.ts sz sz' n lo hi mx (K .any st.h [])->Bj P o a w S ρ st.h K:=by
  intro aa n cap sz' hv GJ hk;have run: ∀{r:AM},(BD t (.slice aa n cap) (LO.map a.eval) ((AF H0).map a.eval) (MX.map a.eval)).run P w= .ok r w->(AS a.eval o).run P w= .ok (.value r) w:=by intro r h;simp at h;simp[AS,bc,hv,h]
  unfold Iz at hk;split at hk
  ·obtain⟨L,ij,hL⟩:=zt hr.ts kv hk;obtain⟨H,cp,hH⟩:=zt hr.ts ly ij;obtain⟨M,GG,hM⟩:=zt hr.ts mq cp;clear hk ij cp;obtain⟨g1,g2,g3,g4,hk⟩:(0<=L.val)/\(L.val<=H.val)/\(H.val<=M.val)/\(M.val<=(n:Int))/\K .any st.h []:=GG;have I7:((L.val.toNat:Nat):Int)=L.val:=Aj g1;have Hd:((H.val.toNat:Nat):Int)=H.val:=Aj (by omega);have hMn:((M.val.toNat:Nat):Int)=M.val:=Aj (by omega);have yt:(LO.map a.eval=Af/\L.val.toNat=0)\/LO.map a.eval=AF (.int .i64 (L.val.toNat:Nat)):=by
    rcases hL with⟨h1,h2⟩|h1
    ·left;simp[h1,h2,Bi]
    ·right;rw[h1,I7]
   have uw:(AF H0:Option AX).map a.eval=AF (.int .i64 (H.val.toNat:Nat)):=by
    rcases hH with⟨h1,h2⟩|h1
    ·cases h1
    ·rw[h1,Hd]
   rcases hM with⟨h1,h2⟩|h1
   ·have aj:=KD (w:=w) ht bl (aa:=aa) (len:=n) (cap:=cap) (mv:=MX.map a.eval) yt (.inr uw) (.inl ⟨by simp[h1],rfl⟩) (by omega) (by omega) (AJ cap);exact .same hr.co (run aj) hk (.any _)
   ·have aj:=KD (w:=w) ht bl (aa:=aa) (len:=n) (cap:=cap) (M:=M.val.toNat) (mv:=MX.map a.eval) yt (.inr uw) (.inr (by rw[h1,hMn])) (by omega) (by omega) (by omega);exact .same hr.co (run aj) hk (.any _)
  ·exact hk.elim
 split at hk
 ·rename_i l sz' s n f e1;rw[e1] at h0;generalize hv:a.eval X=v at h0;cases h0 with
  |bi _ _ _ _ _ ob C cap aa hρ hc b9 ha=>exact main _ _ _ _ hv (by rw[b9];split<;>omega) hk
 ·rename_i sz' n ee e1;rw[e1] at h0;generalize hv:a.eval X=v at h0;cases h0 with
  |d hd=>
   cases hd with
   |VO sz e aa cap=>exact main _ _ _ _ hv (Cr _) hk
   |sl sz n e b off cap f hb hc hl fc k9=>exact main _ _ _ _ hv hc hk
 ·exact hk.elim
theorem e3j {t:AY}{s:ByteArray}{X:AX}(bc:o.op= .index t (.const (.string s)) X)(ht:P.underlying t=AF .string){x:ah}(hx:bh X=AF x)
 (hk:af (Az P A ro E) (.idxs s.data.toList x) st K) (hr:Bt E st a w S ρ):Bj P o a w S ρ st.h K:=by
 have h0:=dm hr.ts hx;simp only[af] at hk;split at hk
 ·rename_i k i e1;rw[e1] at h0;rw[cv] at hk;obtain⟨⟨g1,g2⟩,hk⟩:(0<=i.val/\i.val<(s.data.toList.length:Int))/\K (.d (.int .u8 (.v ((s.data.toList.getD i.val.toNat 0).toNat:Int)))) st.h []:=hk;refine .same hr.co (v:= .int .u8 ((s.data.toList.getD i.val.toNat 0).toNat:Int)) ?_ hk (.d (.int .u8 (.v _)));have hc:a.eval (.const (.string s))= .string s:=rfl;have hlt:i.val.toNat<s.data.size:=by rw[AR] at g2;omega
  have hg:s[i.val.toNat]? =AF (s.data[i.val.toNat]'hlt):=by have jv:i.val.toNat<s.size:=hlt;rw[getElem?_pos s i.val.toNat jv];rfl
  have hd:s.data.toList.getD i.val.toNat 0=s.data[i.val.toNat]'hlt:=by rw[List.getD_eq_getElem?_getD,AW,Array.getElem?_eq_getElem hlt];rfl
  rw[hd];simp[AS,bc,hc,h0.int,Instr.index,Cl,AI ht,g1,hg]
 ·exact hk.elim
theorem RJ {t e:AY}{ps:Array (Nat×AX)}(bc:o.op= .buildSlice t 0 ps)(vp:ps.toList=[])(ht:P.underlying t=AF (.slice e)){sz:Nat}(bl:l6 P e=AF sz):
 (AS a.eval o).run P w= .ok (.value (.slice (AF ⟨w.heap.size,0,Af⟩) 0 0)) (w.alloc (.cells #[] e)):=by
 obtain⟨lz,cw⟩:=vu bl;have LJ:ps= #[]:=by apply BG;simpa using vp
 have r0: ∀f:Nat->AM,(A9 0).map f= #[]:=fun f=>by apply BG;simp
 simp[AS,bc,LJ,Bu,AI ht,cw,r0,C8,BF]
theorem f0s (dp:WO P){f:Ci}{fn:Func}(hf:P.funcs[f]? =AF fn)(hb:fn.body.isNone=An)(iw:fn.name=QX){X Y:AX}{u7:Array AY}
 (bc:o.op= .call {callee:= .value (.func f),args:= #[X,Y],argTypes:=u7}) {x y:ah} (hx:bh X=AF x) (hy:bh Y=AF y)
 (hk:af (Az P A ro E) (.XE x y) st K) (hr:Bt E st a w S ρ):Bj P o a w S ρ st.h K:=by
 have h0:=dm hr.ts hx;have h1:=dm hr.ts hy;obtain⟨hn,tS,tR,e,he,ht,hz⟩:=dp.XE f fn hf hb iw;simp only[af] at hk;split at hk
 ·rename_i l sl1 sl2 sl3 sl4 l' sr1 sr2 sr3 sr4 e1 e2;rw[e1] at h0;rw[e2] at h1;split at hk
  ·exact hk.elim
  ·rename_i ck;obtain⟨hla,hlb,hk⟩:(0<sl3)/\(0<sr3)/\_:=hk;simp only[cy] at hk;split at hk
   ·rename_i n1 ee1 n2 ee2 nw qt;obtain⟨fz,hk⟩:(0<n2)/\K (.d (.bool Ah)) st.h []:=hk;generalize sq:a.eval X=v1 at h0;generalize jh:a.eval Y=v2 at h1;cases h0 with
    |bi _ _ _ la _ ob1 C1 cap1 aa1 S7 j9 Pv M7=>
     cases h1 with
     |bi _ _ _ lb _ ob2 C2 cap2 aa2 Nr k8 yv M8=>
      refine .same hr.co (v:= .bool Ah) ?_ hk (.d (.bool Ah));have fq:(callFunc f #[.slice aa1 sl3 cap1,.slice aa2 sr3 cap2]).run P w= .ok (.value (.bool Ah)) w:=by
       rw[run_callFunc_extern hf (by rw[iw];exact c5h) hb hn he];obtain⟨o1,q1,q2⟩:=hr.co.obj l ob1 C1 S7;rw[nw] at q1;cases q1;obtain⟨o2,q3,q4⟩:=hr.co.obj l' ob2 C2 Nr;rw[qt] at q3;cases q3;have hcp1:0<cap1:=by rw[Pv];split<;>omega
       have hcp2:0<cap2:=by rw[yv];split<;>omega
       cases ob1 with
       |none=>have:=q2.1;omega
       |some b1=>
        cases ob2 with
        |none=>have:=q4.1;omega
        |some b2=>
         obtain⟨Ro,ty1,p1,p2,p3,p4⟩:=q2;obtain⟨vs2,ty2,p5,p6,p7,p8⟩:=q4;have hbne:b1≠b2:=by intro hb12;subst hb12;have:=hr.co.inj l l' b1 C1 C2 S7 Nr;subst this;simp at ck
         have Pr:=M7 hcp1;have Ps:=M8 hcp2;simp only[A7] at Pr Ps;subst Pr Ps;rw[Lib.run_overlaps_apart w tS tR e ht 1 hz _ _ sl3 cap1 sr3 cap2 hbne ty1 ty2 Ro.size vs2.size (by simp[World.shape?,p1]) (by simp[World.shape?,p5]) (by rw[p6,Bn];omega)
          (by simp[World.frozen?,p1]) (by simp[World.frozen?,p1])]
         rfl
      have hF:a.eval (.func f)= .func (.func f) #[] #[]:=rfl;simp[AS,bc,Bm,hF,Bq,Bw,sq,jh,fq]
   ·exact hk.elim
 ·exact hk.elim
end
open Go Go.ChangeMaps
section
variable {P:B9} {A:t7} {ro:Option Nat} {E:x4} {c:Nat} {o:Oper} {io:qr} {st:St} {K:AV->List ae->List Nat->Prop}
 {a:Cp} {w:A4} {S:Nat->Prop} {ρ:Cg} {h:List ae}
theorem l7v: ∀{ks:List Ai} {ns:List Int},Yw ks (ns.map KC.i)=BK (fun k n=>AV.d (.int k (.v n))) ks ns
 |[],_=>by simp[Yw]
 |_::_,[]=>by simp[Yw]
 |k::ks,n::ns=>by simp[Yw,l7v (ks:=ks) (ns:=ns)]
theorem m0y {wide:Bool}{ks:List Ai}{v:AM}{kc:List KC}(h:px wide ks v)(hk:Ao v=AF kc):VR w S ρ (m2l wide ks kc) v:=by
 obtain⟨h1,ns,h2,h3,h4⟩:=h;have e:kc=ns.map KC.i:=by rw[Ao,h3,b3j h2] at hk;exact (Bo hk).symm
 subst e;unfold m2l;rw[l7v];cases wide with
 |true=>
  obtain⟨cs,rfl⟩:=h1;simp only[if_true];have I3:cs.toList=BK BV ks ns:=h3;refine .agg _ cs ?_ fun i x u hx hu=> ?_
  ·rw[<-AR,I3];simp
  ·rw[<-AW,I3] at hu;simp only[CJ] at hx hu;cases ij:ks[i]? with
   |none=>simp[ij] at hx
   |some k=>cases ky:ns[i]? with
    |none=>simp[ij,ky] at hx
    |some n=>simp[ij,ky] at hx hu;subst hx;subst hu;exact .d (.int k (.v n))
 |false=>
  obtain⟨k,n,rfl⟩:=h1;have I3:[BV k n]=BK BV ks ns:=h3
  match ks,ns,h2 with
  |[],[],_=>simp at I3
  |[k'],[n'],_=>simp at I3;obtain⟨rfl,rfl⟩:=I3;exact .d (.int k (.v n))
  |k'::k2::ks,n'::n2::ns,_=>simp at I3
theorem m1b {t kt et:AY}{X:AX}(bc:o.op= .range t X)(ht:P.underlying t=AF (.map kt et)){x:ah}(hx:bh X=AF x)
 (hk:af (Az P A ro E) (.W8 x) st K) (hr:Bt E st a w S ρ):Bj P o a w S ρ st.h K:=by
 have h0:=dm hr.ts hx;simp only[af] at hk;split at hk
 ·rename_i l e1;rw[e1] at h0;split at hk
  ·rename_i wide ks keys ap uc;generalize hv:a.eval X=v at h0;cases h0 with
   |map _ b C hρ=>
    obtain⟨oo,ho,hh⟩:=hr.co.obj l _ C hρ;rw[<-cy,uc] at ho;cases ho;obtain⟨es,clock,hb,mr,⟨bl,Ih⟩,jo⟩:=hh;have hn:ρ st.h.length=Af:=hr.co.fresh (AJ _);simp only[cv,fi] at hk;have ny:clock=keys.length:=by
     have h6:=mr.len;have h7:es.toList.length=es.size:=by simp
     omega
    subst ny;refine⟨.pointer (AF ⟨w.heap.size,0,Af⟩),{w with heap:=w.heap.push (.mapIter (AF b) keys.length #[] keys.length)},_,_,[],S,_,.inl ?_,hk,
     n8.new hr.co hn (.mapIter (AF b) keys.length #[] keys.length) (.iter (.map l) keys.length []) 0 (fun w' gd=>⟨b,by rw[gd];simp,.map l b C hρ⟩),.ptr _ 0 w.heap.size 0 (by simp)⟩
    have aj:=run_range_map w t kt et b es _ ht hb;simp only[AS,bc,hv,aj,Be,Ak];rfl
  ·exact hk.elim
 ·exact hk.elim
theorem m0v {X:AX}(bc:o.op= .next X Ah){x:ah}(hx:bh X=AF x)
 (hk:af (Az P A ro E) (.W7 x) st K) (hr:Bt E st a w S ρ):Bj P o a w S ρ st.h K:=by
 have h0:=dm hr.ts hx;simp only[af] at hk;split at hk
 ·rename_i l e1;rw[e1] at h0;split at hk
  ·rename_i m since seen uc;split at hk
   ·rename_i wide ks keys ap hlm;obtain⟨xx,hk⟩:since=az keys/\_:=hk;rw[cv] at xx;obtain⟨ij,cp⟩:((∀i,i<since->i∈seen)->_)/\_:=hk;simp only[fg] at cp;generalize hv:a.eval X=v at h0;cases h0 with
    |ptr _ _ r C hρ=>
     have iv:=uc;rw[cy] at iv;have Hn:=hlm;rw[cy] at Hn;obtain⟨oo,ho,hh⟩:=hr.co.obj l _ C hρ;rw[iv] at ho;cases ho;obtain⟨bm,Jg,hvm⟩:=hh;cases hvm with
     |map _ _ C2 S8=>
      obtain⟨o2,xu,SK⟩:=hr.co.obj m _ C2 S8;rw[Hn] at xu;cases xu;obtain⟨es,clock,hb,mr,⟨bl,Ih⟩,jo⟩:=SK;have h7:es.toList.length=es.size:=by simp
      have ny:clock=since:=by have:=mr.len;omega
      have SD:es.size=since:=by omega
      rw[ny] at hb;have J6: ∀x,x∈es.toList-> ∃i,i<since/\es.toList[i]? =AF x/\x.born=i:=fun x hx=>by obtain⟨i,hi⟩:=List.getElem?_of_mem hx;have hlt:=(AC.1 hi).1;exact⟨i,by omega,hi,mr.born i x hi⟩
      have hold: ∀x,x∈es.toList->x.born<since:=fun x hx=>by obtain⟨i,h1,_,h2⟩:=J6 x hx;omega
      have gm: ∀i:Nat,seen.reverse.toArray.contains i=An↔i∈seen:=fun i=>by simp
      rcases run_next_at (P:=P) w o.type r bm since since seen.reverse.toArray es since Jg hb hold (AJ _) with⟨hz,aj⟩|⟨e,he,w1,GD,aj⟩
      ·refine .same hr.co (v:= .tuple #[.bool Ah]) ?_ (ij fun i hi=> ?_) (.tuple _ _ rfl fun i y u hy hu=> ?_)
       ·simp[AS,bc,hv,aj]
       ·have jx:i<es.size:=by omega
        have h3:=mr.born i es[i] (by simp);have h4:(es.filter fun e=>!seen.reverse.toArray.contains e.born)= #[]:=Array.eq_empty_of_size_eq_zero hz;rw[Array.filter_eq_empty_iff] at h4;have h5:=h4 es[i] (by simp);rw[h3] at h5;exact (gm i).1 (by simpa using h5)
       ·match i with
        |0=>simp at hy hu;subst hy;subst hu;exact .d (.bool Ah)
        |i+1=>simp at hy
      ·unfold leftOf at he;have l9:e∈es/\(!seen.reverse.toArray.contains e.born)=An:=by simpa using he
       obtain⟨i,hi,hei,Na⟩:=J6 e (by simpa using l9.1);have p0:i∉seen:=fun hm=>by have:=(gm e.born).2 (Na▸hm);rw[this] at l9;simp at l9
       have kf:seen.reverse.toArray.push e.born=(i::seen).reverse.toArray:=by rw[Na];simp
       rw[kf] at aj;have xw:w1.heap=w.heap:=by rcases GD with rfl|rfl<;>rfl
       have hrl:r<w.heap.size:=(Aw.1 Jg).1;refine⟨.tuple #[.bool An,e.key,e.val],setBlock w1 r (.mapIter (AF bm) since (i::seen).reverse.toArray since),_,_,[],S,ρ,.inl ?_,cp i hi p0,n8.set hr.co hρ iv rfl ?_ ?_ ?_ ?_ (fun k ck=> ?_) ⟨bm,?_,.map m bm C2 S8⟩,.tuple _ _ rfl fun j y u hy hu=> ?_⟩
       ·simp[AS,bc,hv,aj]
       ·rcases GD with rfl|rfl<;>rfl
       ·rcases GD with rfl|rfl
        ·exact⟨rfl,AJ _⟩
        ·exact⟨rfl,CN _⟩
       ·rcases GD with rfl|rfl<;>rfl
       ·rcases GD with rfl|rfl<;>simp[setBlock]
       ·show (w1.heap.setIfInBounds r _)[k]? =_;rw[xw,Ab (As ck)]
       ·show (w1.heap.setIfInBounds r _)[r]? =_;rw[xw];simp[hrl]
       ·match j with
        |0=>simp at hy hu;subst hy;subst hu;exact .d (.bool An)
        |1=>simp at hy;subst hy;exact .any _
        |2=>simp at hy;subst hy;exact .any _
        |j+3=>simp at hy
   ·exact hk.elim
  ·exact hk.elim
 ·exact hk.elim
theorem m1a {X:AX}(bc:o.op= .entry X){x:ah}(hx:bh X=AF x)
 (hk:af (Az P A ro E) (.W2 x) st K) (hr:Bt E st a w S ρ):Bj P o a w S ρ st.h K:=by
 have h0:=dm hr.ts hx;simp only[af] at hk;split at hk
 ·rename_i l e1;rw[e1] at h0;split at hk
  ·rename_i m since i seen uc;split at hk
   ·rename_i wide ks keys ap hlm;obtain⟨xx,hk⟩:since=az keys/\_:=hk;rw[cv] at xx;split at hk
    ·rename_i k rp;split at hk
     ·rename_i xv No;rw[cy] at rp No;generalize hv:a.eval X=v at h0;cases h0 with
      |ptr _ _ r C hρ=>
       have iv:=uc;rw[cy] at iv;have Hn:=hlm;rw[cy] at Hn;obtain⟨oo,ho,hh⟩:=hr.co.obj l _ C hρ;rw[iv] at ho;cases ho;obtain⟨bm,Jg,hvm⟩:=hh;cases hvm with
       |map _ _ C2 S8=>
        obtain⟨o2,xu,SK⟩:=hr.co.obj m _ C2 S8;rw[Hn] at xu;cases xu;obtain⟨es,clock,hb,mr,⟨bl,Ih⟩,jo⟩:=SK;have h7:es.toList.length=es.size:=by simp
        have ny:clock=since:=by have:=mr.len;omega
        have SD:es.size=since:=by omega
        have hil:=(AC.1 No).1;have jx:i<es.size:=by omega
        obtain⟨e,he⟩: ∃e,es.toList[i]? =AF e:=⟨es.toList[i]'(by simpa using jx),AN _⟩;have Na:=mr.born i e he;have im:(es.toList.map (·.born)).Nodup:=by
         have:es.toList.map (·.born)=CP es.toList.length:=by
          refine A2 fun j=> ?_;rw[AZ];by_cases hj:j<es.toList.length
          ·rw[AN hj,BU hj];exact congrArg AF (mr.born j _ (AN hj))
          ·rw[CL (by omega),CL (by simp;omega)];rfl
         rw[this];exact List.nodup_range
        have hir':w.heap[r]? =AF (.mapIter (AF bm) since (seen.reverse.toArray.push e.born) clock):=by rw[Jg,Na,ny];simp
        have aj:=run_entry_at (P:=P) w r bm since seen.reverse.toArray es clock e hir' hb (Am he) im;have l5:=mr.shape e (Am he);refine .same hr.co (v:= .tuple #[e.key,e.val]) ?_ hk (.tuple _ _ rfl fun j y u hy hu=> ?_)
        ·simp[AS,bc,hv,aj]
        ·match j with
         |0=>simp at hy hu;subst hy;subst hu;exact m0y l5 (mr.WQ i e k he rp)
         |1=>simp at hy hu;subst hy;subst hu;exact jo i xv e No (by rw[<-AW];exact he)
         |j+2=>simp at hy
     ·exact hk.elim
    ·exact hk.elim
   ·exact hk.elim
  ·exact hk.elim
 ·exact hk.elim
end
section
variable {P:B9} {A:t7} {ro:Option Nat} {E:x4} {c:Nat} {o:Oper} {io:qr} {st:St} {K:AV->List ae->List Nat->Prop}
 {a:Cp} {w:A4} {S:Nat->Prop} {ρ:Cg} {h:List ae} {next:Cp->A4->Prop} {Q:Exit->Cp->A4->Prop}
theorem HK {t k e:AY}(h:Kr P t=AF (k,e)):P.underlying t=AF (.map k e):=by
 simp[Kr,AA] at h;obtain⟨d,hd,h⟩:=h;split at h
 ·simp at h;obtain⟨rfl,rfl⟩:=h;exact hd
 ·cases h
theorem Vc (d:Nat): ∀(m:Nat) (t:AY),P.keyTypeAt m t=An-> ∀(n:Nat) (ks:List CK),ua P n t=AF ks->Y7 P w (d+m) t ks
 |0,_,h=>by simp[Program.keyTypeAt] at h
 |m+1,t,hk=>by
  intro n ks hf x y fx fy hx hy;cases n with
  |zero=>simp[ua] at hf
  |succ n=>
   unfold Program.keyTypeAt at hk;simp only[ua] at hf;split at hf
   ·rename_i q hu;split at hf
    ·simp at hf;subst hf;have one: ∀{z:AM},z.formed P t=An->z.cells= #[z]:=by
      intro z hz;cases z<;>first|rfl|(simp[Av,hu] at hz)
     rw[one fx] at hx;rw[one fy] at hy;obtain⟨x',h1,k1⟩:=hx.2 0 _ rfl;obtain⟨y',h2,k2⟩:=hy.2 0 _ rfl;have h1:AF x=AF x':=h1;have h2:AF y=AF y':=h2;cases h1;cases h2;cases k1 with
     |i _ n1=>
      cases k2 with
      |i _ n2=>refine⟨n1==n2,?_,by simp[BP]⟩;rw[show d+(m+1)=(d+m)+1 from rfl];simp[Bh,AI hu]
    ·cases hf
   ·rename_i hu;split at hf
    ·simp at hf;subst hf;have one: ∀{z:AM},z.formed P t=An->z.cells= #[z]:=by
      intro z hz;cases z<;>first|rfl|(simp[Av,hu] at hz)
     rw[one fx] at hx;rw[one fy] at hy;obtain⟨x',h1,k1⟩:=hx.2 0 _ rfl;obtain⟨y',h2,k2⟩:=hy.2 0 _ rfl;have h1:AF x=AF x':=h1;have h2:AF y=AF y':=h2;cases h1;cases h2;cases k1 with
     |o n1=>
      cases k2 with
      |o n2=>refine⟨n1==n2,?_,by simp[BP]⟩;rw[show d+(m+1)=(d+m)+1 from rfl];simp[Bh,AI hu]
    ·cases hf
   ·rename_i fs hu;simp only[AG,AA] at hf;obtain⟨dt,hff,hf⟩:=hf;split at hf
    ·rename_i hc;simp only[AH,AB] at hf;subst hf;simp only[hu,BB,Bool.not_eq_true'] at hk;cases x<;>simp only[Av,hu,Ay] at fx;cases y<;>simp only[Av,hu,Ay] at fy;rename_i xs ys;have Jf:P.fieldsOf t=fs:=by simp[Program.fieldsOf,hu]
     have cut: ∀{l:List AM},l.length=dt.length->(l.drop 0).take dt.length=l:=fun h=>by rw[Cd,<-h,CU]
     simp only[BP] at hx hy⊢;obtain⟨r,hr,ku⟩:=c5i (w:=w) (dd:=d+m) xs ys fs.toList 0 dt hff (fun f hf=>by
      have:=Array.all_eq_true_iff_forall_mem.1 hk.1.1 f (Array.mem_toList_iff.1 hf);simp only[BB,bne_iff_ne,ne_eq] at this;exact⟨this.1,fun k2 cp=>Vc d m f.type this.2 n k2 cp⟩) (by rw[cut hx.1];exact hx) (by rw[cut hy.1];exact hy)
     rw[cut hx.1,cut hy.1] at ku;exact⟨r,by rw[show d+(m+1)=(d+m)+1 from rfl,run_equalIn_struct w (d+m) t xs ys (by rw[Jf];exact hu) hk.2,Jf];exact hr,ku⟩
    ·cases hf
   ·rename_i len e hu;simp only[AG,AA] at hf;obtain⟨dt,GF,hf⟩:=hf;split at hf
    ·rename_i hc;simp only[AH,AB] at hf;subst hf;simp only[hu] at hk;cases x<;>simp only[Av,hu,Ay] at fx;cases y<;>simp only[Av,hu,Ay] at fy;rename_i xs ys;simp only[BP] at hx hy⊢;have hL:((BM len dt).flatten).length=len*dt.length:=by simp
     have hi: ∃i,P.info? e=AF i:=by
      cases n with
      |zero=>simp[ua] at GF
      |succ n=>
       simp only[ua] at GF;split at GF
       ·rename_i LP;exact BN LP
       ·rename_i LP;exact BN LP
       ·rename_i LP;exact BN LP
       ·rename_i LP;exact BN LP
       ·cases GF
     obtain⟨i,hi⟩:=hi;have sub: ∀{zs:Array AM},q9 (BM len dt).flatten zs.toList-> ∀i,i<len->q9 dt ((zs.toList.drop ((0+i)*dt.length)).take dt.length):=by intro zs hz i hi;have h1:=hz.1;rw[hL] at h1;have h2:(i+1)*dt.length<=len*dt.length:=AP _ (by omega);rw[Ae] at h2;rw[A3];refine hz.cut (by omega) fun j k hj=> ?_;rw[c6x _ _ _ _ hi (AC.1 hj).1];exact hj
     have cut: ∀{zs:Array AM},q9 (BM len dt).flatten zs.toList->(zs.toList.drop (0*dt.length)).take (len*dt.length)=zs.toList:=fun hz=>by have h1:=hz.1;rw[hL] at h1;rw[Nat.zero_mul,Cd,<-h1,CU]
     obtain⟨r,hr,ku⟩:=d0r GF (Vc d m e hk n dt GF) xs ys len 0 (sub hx) (sub hy);rw[cut hx,cut hy] at ku;refine⟨r,?_,ku⟩;rw[show d+(m+1)=(d+m)+1 from rfl,run_equalIn_array w (d+m) xs ys hu hi,<-hc.1,List.range_eq_range'];exact hr
    ·cases hf
   ·cases hf
theorem e4q {ks:List CK}: ∀{xs ys:List AV} {us vs:List AM} {b:Bool},Gv (Az P A ro E) ks xs ys=AF b->xs.length=us.length->ys.length=vs.length->
 (∀(i:Nat) (x:AV) (v:AM),xs[i]? =AF x->us[i]? =AF v->VR w S ρ x v)->(∀(i:Nat) (x:AV) (v:AM),ys[i]? =AF x->vs[i]? =AF v->VR w S ρ x v)->
 q9 ks us/\q9 ks vs/\(b=An↔us=vs):=by
 have mk: ∀{k:CK} {ks:List CK} {z:AM} {ws:List AM},Y8 k z->q9 ks ws->q9 (k::ks) (z::ws):=by
  intro k ks z ws hz hw;refine⟨by simp[hw.1],fun i q hq=> ?_⟩;cases i with
  |zero=>simp at hq;subst hq;exact⟨z,rfl,hz⟩
  |succ i=>simp at hq⊢;exact hw.2 i q hq
 induction ks with
 |nil=>
  intro xs ys us vs b h h1 h2 _ _
  match xs,ys,h with
  |[],[],h=>simp[Gv] at h;subst h;cases us<;>simp at h1;cases vs<;>simp at h2;exact⟨⟨rfl,by simp⟩,⟨rfl,by simp⟩,by simp⟩
 |cons k ks ih=>
  intro xs ys us vs b h h1 h2 hx hy;cases k with
  |i k=>
   match xs,ys,us,vs,h,h1,h2 with
   | .d (.int k1 x)::xs,.d (.int k2 y)::ys,u::us,v::vs,h,h1,h2=>
     simp only[Gv] at h;split at h
     ·rename_i ij;split at h
      ·rename_i cp;split at h
       ·rename_i b' k7;simp only[AB] at h;obtain⟨i1,i2,i3⟩:=ih k7 (by simpa using h1) (by simpa using h2) (fun i x v te fc=>hx (i+1) x v (by simpa using te) (by simpa using fc)) (fun i x v te fc=>hy (i+1) x v (by simpa using te) (by simpa using fc));have e1:u= .int k x.val:=by rw[ij];exact (hx 0 _ u rfl rfl).int
        have e2:v= .int k y.val:=by rw[cp];exact (hy 0 _ v rfl rfl).int
        subst e1 e2;refine⟨mk (.i k _) i1,mk (.i k _) i2,?_⟩;rw[<-h];show ((x.val==y.val)&&b')=An↔_;simp[i3]
       ·cases h
      ·cases h
     ·cases h
  |o=>
   match xs,ys,us,vs,h,h1,h2 with
   | .d (.bool x)::xs,.d (.bool y)::ys,u::us,v::vs,h,h1,h2=>
     simp only[Gv] at h;split at h
     ·rename_i b' k7;simp only[AB] at h;obtain⟨i1,i2,i3⟩:=ih k7 (by simpa using h1) (by simpa using h2) (fun i x v te fc=>hx (i+1) x v (by simpa using te) (by simpa using fc)) (fun i x v te fc=>hy (i+1) x v (by simpa using te) (by simpa using fc));have e1:u= .bool x:=(hx 0 _ u rfl rfl).bool;have e2:v= .bool y:=(hy 0 _ v rfl rfl).bool;subst e1 e2;refine⟨mk (.o _) i1,mk (.o _) i2,?_⟩;rw[<-h];show ((x==y)&&b')=An↔_;simp[i3]
     ·cases h
theorem e2t {S:We}{ks:List Ai}: ∀{xs ys:List AV} {b:Bool},My S ks xs ys=AF b->Gv S (ks.map .i) xs ys=AF b:=by
 induction ks with
 |nil=>
  intro xs ys b h
  match xs,ys,h with
  |[],[],h=>exact h
 |cons k ks ih=>
  intro xs ys b h
  match xs,ys,h with
  | .d (.int k1 x)::xs,.d (.int k2 y)::ys,h=>
    simp only[My] at h;simp only[B7,Gv];split at h
    ·rename_i ij;split at h
     ·rename_i cp;split at h
      ·rename_i b' k7;rw[if_pos ij,if_pos cp,ih k7];exact h
      ·cases h
     ·cases h
    ·cases h
theorem UB {op:BinOp}{t t':AY}{X Y:AX}(bc:o.op= .binOp op t X Y t'){neg:Bool}(vz:op=if neg then .neq else .eql){ks:List CK}(ep:KX P t=AF ks){kd:TypeDesc}(hu:P.underlying t=AF kd)(hkd:(∃n e,kd= .array n e)\/ ∃fs,kd= .struct fs)
 (hg:P.eqGuardType P.depth t=Ah)
 {x y:ah} (hx:bh X=AF x) (hy:bh Y=AF y) (hk:af (Az P A ro E) (.Wf neg ks x y) st K) (hr:Bt E st a w S ρ):Bj P o a w S ρ st.h K:=by
 have h0:=dm hr.ts hx;have h1:=dm hr.ts hy;simp only[af] at hk;split at hk
 ·rename_i xs ys e1 e2;rw[e1] at h0;rw[e2] at h1;generalize sq:a.eval X=v1 at h0;generalize jh:a.eval Y=v2 at h1;split at hk
  ·rename_i b hb;cases h0 with
   |agg _ us nw j9=>
    cases h1 with
    |agg _ vs qt k8=>
     obtain⟨i1,i2,i3⟩:=e4q (us:=us.toList) (vs:=vs.toList) hb (by simpa using nw) (by simpa using qt) (fun i x v hx hv=>j9 i x v hx (by simpa using hv)) (fun i x v hx hv=>k8 i x v hx (by simpa using hv));simp only[KX,AG,AA] at ep;obtain⟨dt,hf,ep⟩:=ep;split at ep
     ·rename_i hkt;simp only[AH,AB] at ep;subst ep;have hlen:=b8d hf;have fm: ∀{zs:Array AM},q9 dt zs.toList->(Cq zs).formed P t=An:=by
       intro zs hz;have:=hz.1;simp only[AR] at this;rcases hkd with⟨n,e,rfl⟩|⟨fs,rfl⟩<;>simp[Av,hu,this,hlen]
      obtain⟨r,aj,ku⟩:=Vc (w:=w) (10000-20) 20 t hkt _ dt hf (.agg us) (.agg vs) (fm i1) (fm i2) i1 i2;have hrb:r=b:=by
       have:r=An↔b=An:=by rw[ku,i3];rfl
       cases r<;>cases b<;>simp_all
      subst hrb;have heq:(C5 t (.agg us) (.agg vs)).run P w= .ok r w:=aj;have Hi: ∀op,(eqGuard op t X Y (.agg us) (.agg vs)).run P w= .ok () w:=by intro op;have hp:(program:Sem B9).run P w= .ok P w:=rfl;unfold eqGuard;cases op<;>simp[hp,hg]
      subst vz;cases neg with
      |true=>simp only[if_true] at bc hk;refine .same hr.co (v:= .bool (!r)) ?_ hk (.d (.bool _));simp[AS,bc,sq,jh,Hi,binOp,heq]
      |false=>simp only[Ay,if_false] at bc hk;refine .same hr.co (v:= .bool r) ?_ hk (.d (.bool _));simp[AS,bc,sq,jh,Hi,binOp,heq]
     ·cases ep
  ·exact hk.elim
 ·exact hk.elim
theorem e2u {op:BinOp}{t t':AY}{X Y:AX}(bc:o.op= .binOp op t X Y t'){neg:Bool}(vz:op=if neg then .neq else .eql){fs:Array C7}(hu:P.underlying t=AF (.struct fs))
 (hg:P.eqGuardType P.depth t=Ah) {x y:ah} (hx:bh X=AF x) (hy:bh Y=AF y) (hc:Oy P neg t x y=AF io) (hk:af (Az P A ro E) io st K) (hr:Bt E st a w S ρ):Bj P o a w S ρ st.h K:=by
 unfold Oy at hc;split at hc
 ·rename_i k ep;cases hc;have ij:KX P t=AF (k.2.map .i):=by
   simp only[y9,AG,AA] at ep;obtain⟨dt,hf,ep⟩:=ep;rw[hu] at ep;simp only at ep;split at ep
   ·rename_i hkt;simp only[AH,AB] at ep;subst ep;simp only[KX,AG,AA];exact⟨_,e3x hf,by rw[if_pos hkt.1];rfl⟩
   ·cases ep
  refine UB (A:=A) (ro:=ro) bc vz ij hu (.inr ⟨fs,rfl⟩) hg hx hy ?_ hr;simp only[af] at hk⊢;split at hk
  ·rename_i e1 e2;split at hk
   ·rename_i b hb;simp only[e2t hb];exact hk
   ·exact hk.elim
  ·exact hk.elim
 ·simp only[AG,AA,AH,AB] at hc;obtain⟨ks,ep,rfl⟩:=hc;exact UB bc vz ep hu (.inr ⟨fs,rfl⟩) hg hx hy hk hr
theorem d1x (hl:Br P=An){t kt et:AY}{M X:AX}{ok:Bool}(bc:o.op= .lookup t M X ok)(ht:P.underlying t=AF (.map kt et))(hz: ∀w,(Cn et).run P w= .ok (.int .i64 0) w){wide:Bool}{ks:List Ai}(ep:y9 P kt=AF (wide,ks))
 {m x:ah} (hm:bh M=AF m) (hx:bh X=AF x) (hk:af (Az P A ro E) (.lookup wide ks ok m x) st K) (hr:Bt E st a w S ρ):Bj P o a w S ρ st.h K:=by
 have h0:=dm hr.ts hm;have h1:=dm hr.ts hx;simp only[af] at hk;split at hk
 ·rename_i l e1;rw[e1] at h0;split at hk
  ·rename_i ct dt n f uc;split at hk
   ·rename_i hc;obtain⟨rfl,rfl⟩:=hc;generalize hv:a.eval M=v at h0;cases h0 with
    |map _ b C hρ=>
     obtain⟨kc,l5,ik,hk⟩:=QJ h1 hk;obtain⟨oo,ho,hh⟩:=hr.co.obj l _ C hρ;rw[<-cy,uc] at ho;cases ho;obtain⟨es,clock,hb,mr⟩:=hh;obtain⟨KK,yy,_⟩:=QG hl ep;obtain⟨lx,td⟩:=yy _ l5;have hex: ∀{r:Option (Nat×AM)},(B5 kt (a.eval X) es.toList).run P w= .ok r w->
      (AS a.eval o).run P w= .ok (.value (if ok then .tuple #[(r.map (·.2)).getD (.int .i64 0),.bool r.isSome] else (r.map (·.2)).getD (.int .i64 0))) w:=by
      intro r hf;cases r with
      |none=>simp[AS,bc,hv,Bs,AI ht,Ac hb,KK.check w _ td,hf,hz,Ak]
      |some r=>simp[AS,bc,hv,Bs,AI ht,Ac hb,KK.check w _ td,hf,Ak]
     have fin: ∀{r:Option (Nat×AM)} {q:Option Int},(B5 kt (a.eval X) es.toList).run P w= .ok r w->r.map (·.2)=q.map (BV .i64)->f kc=q->Bj P o a w S ρ st.h K:=by
      intro r q hf hq hfq;have hrv:(r.map (·.2)).getD (.int .i64 0)= .int .i64 (q.getD 0):=by rw[hq];cases q<;>rfl
      have Qd:r.isSome=q.isSome:=by have:=congrArg Option.isSome hq;simpa using this
      have hex:=hex hf;rw[hrv,Qd] at hex;subst hfq;cases ok with
      |true=>
       refine .same hr.co hex hk (.tuple _ _ rfl fun i x v hx hv=> ?_)
       match i with
       |0=>simp at hx hv;subst hx;subst hv;exact .d (.int .i64 (.v ((f kc).getD 0)))
       |1=>simp at hx hv;subst hx;subst hv;exact .d (.bool (f kc).isSome)
       |i+2=>simp at hx
      |false=>exact .same hr.co hex hk (.d (.int .i64 (.v ((f kc).getD 0))))
     rcases KK.find w td es.toList (fun e he=>yy _ (mr.keys e he)) with⟨h2,h3⟩|⟨j,e,h2,h3,h4⟩
     ·exact fin h2 (q:=Af) rfl (by rw[<-mr.find];exact b3b l5 ik mr.keys h3)
     ·have he:=Am h3;obtain⟨q,hq⟩:=mr.ap e he;exact fin h2 (q:=AF q) (by simp[hq]) (by rw[<-mr.find];exact b2y l5 ik mr.keys mr.nd he h4 hq)
   ·exact hk.elim
  ·exact hk.elim
 ·exact hk.elim
theorem c7f {t:AY}{z:AV}(h:Ms P t=AF z): ∃v,(∀w,(Cn t).run P w= .ok v w)/\ ∀w S ρ,VR w S ρ z v:=by simp only[Ms,AG,AA] at h;obtain⟨i,hi,v,hv,h⟩:=h;exact⟨v,fun w=>Jz hi hv,fun w S ρ=>d5c h⟩
theorem b7g (hl:Br P=An){t kt et:AY}{M X:AX}{ok:Bool}(bc:o.op= .lookup t M X ok)(ht:P.underlying t=AF (.map kt et)){z:AV}(hz:Ms P et=AF z){wide:Bool}{ks:List Ai}(ep:y9 P kt=AF (wide,ks))
 {m x:ah} (hm:bh M=AF m) (hx:bh X=AF x) (hk:af (Az P A ro E) (.m9 wide ks ok z m x) st K) (hr:Bt E st a w S ρ):Bj P o a w S ρ st.h K:=by
 have h0:=dm hr.ts hm;have h1:=dm hr.ts hx;obtain⟨zv,jl,eb⟩:=c7f hz;simp only[af] at hk;split at hk
 ·rename_i l e1;rw[e1] at h0;split at hk
  ·rename_i ct dt keys ap uc;split at hk
   ·rename_i hc;obtain⟨rfl,rfl⟩:=hc;generalize hv:a.eval M=v at h0;cases h0 with
    |map _ b C hρ=>
     obtain⟨kc,l5,ik,hk⟩:=QJ h1 hk;obtain⟨oo,ho,hh⟩:=hr.co.obj l _ C hρ;rw[<-cy,uc] at ho;cases ho;obtain⟨es,clock,hb,mr,⟨bl,_⟩,jo⟩:=hh;obtain⟨KK,yy,_⟩:=QG hl ep;obtain⟨lx,td⟩:=yy _ l5;have tk:H6 es.toList keys:=⟨mr.len,mr.WQ⟩;have GM:ap.length=es.toList.length:=by rw[<-bl];simp
     have hex: ∀{r:Option (Nat×AM)},(B5 kt (a.eval X) es.toList).run P w= .ok r w->
      (AS a.eval o).run P w= .ok (.value (if ok then .tuple #[(r.map (·.2)).getD zv,.bool r.isSome] else (r.map (·.2)).getD zv)) w:=by
      intro r hf;cases r with
      |none=>simp[AS,bc,hv,Bs,AI ht,Ac hb,KK.check w _ td,hf,jl,Ak]
      |some r=>simp[AS,bc,hv,Bs,AI ht,Ac hb,KK.check w _ td,hf,Ak]
     have two: ∀{x:AV} {v:AM} {b:Bool},VR w S ρ x v->VR w S ρ (.tuple [x,.d (.bool b)]) (.tuple #[v,.bool b]):=fun {x v b} h=> .tuple _ _ rfl fun i y u hy hu=>by
      match i with
      |0=>simp at hy hu;subst hy;subst hu;exact h
      |1=>simp at hy hu;subst hy;subst hu;exact .d (.bool b)
      |i+2=>simp at hy
     rcases KK.find w td es.toList (fun e he=>yy _ (mr.shape e he)) with⟨h2,h3⟩|⟨j,e,h2,h3,h4⟩
     ·obtain⟨qj,_⟩:=d5n l5 ik .any (ap:=ap) tk mr.shape h3;rw[qj] at hk;have hex:=hex h2;cases ok with
      |true=>exact .same hr.co hex hk (two (eb _ _ _))
      |false=>exact .same hr.co hex hk (eb _ _ _)
     ·obtain⟨⟨v',fc,Hz⟩,_⟩:=d5g l5 ik .any (ap:=ap) tk GM mr.shape mr.nd h3 h4;rw[Hz] at hk;have hex:=hex h2;have pd:=jo j v' e fc (by simpa using h3);cases ok with
      |true=>exact .same hr.co hex hk (two pd)
      |false=>exact .same hr.co hex hk pd
   ·exact hk.elim
  ·exact hk.elim
 ·exact hk.elim
theorem d4b (hl:Br P=An){t kt et:AY}{M X:AX}(bc:o.op= .mapEntry t M X)(ht:P.underlying t=AF (.map kt et)){z:AV}(hz:Ms P et=AF z){wide:Bool}{ks:List Ai}(ep:y9 P kt=AF (wide,ks))
 {m x:ah} (hm:bh M=AF m) (hx:bh X=AF x) (hk:af (Az P A ro E) (.SW wide ks z m x) st K) (hr:Bt E st a w S ρ):Bj P o a w S ρ st.h K:=by
 have h0:=dm hr.ts hm;have h1:=dm hr.ts hx;obtain⟨zv,jl,eb⟩:=c7f hz;simp only[af] at hk;split at hk
 ·rename_i l e1;rw[e1] at h0;split at hk
  ·rename_i ct dt keys ap uc;split at hk
   ·rename_i hc;obtain⟨rfl,rfl⟩:=hc;generalize hv:a.eval M=v at h0;cases h0 with
    |map _ b C hρ=>
     obtain⟨kc,l5,ik,hk⟩:=QJ h1 hk;obtain⟨oo,ho,hh⟩:=hr.co.obj l _ C hρ;have iv:=uc;rw[cy] at iv;rw[iv] at ho;cases ho;obtain⟨es,clock,hb,mr,⟨bl,Ih⟩,jo⟩:=hh;obtain⟨KK,yy,_⟩:=QG hl ep;obtain⟨lx,td⟩:=yy _ l5;have tk:H6 es.toList keys:=⟨mr.len,mr.WQ⟩;have GM:ap.length=es.toList.length:=by rw[<-bl];simp
     have J7:b<w.heap.size:=(Aw.1 hb).1;have Kg: ¬S b:=hr.co.own l b C _ hρ iv rfl;have two: ∀{w':A4} {x:AV} {v:AM} {n:Int},VR w' S ρ x v->VR w' S ρ (.tuple [x,.d (.int .i64 (.v n))]) (.tuple #[v,.int .i64 n]):=fun {w' x v n} h=> .tuple _ _ rfl fun i y u hy hu=>by
      match i with
      |0=>simp at hy hu;subst hy;subst hu;exact h
      |1=>simp at hy hu;subst hy;subst hu;exact .d (.int .i64 (.v n))
      |i+2=>simp at hy
     have xy: ∀es' clock',∀k,S k->(w.heap.setIfInBounds b (.map es' clock'))[k]? =w.heap[k]? :=fun es' clock' k PP=>by have ck:k≠b:=fun e=>Kg (e▸PP);simp[Ab (As ck)]
     rcases KK.find w td es.toList (fun e he=>yy _ (mr.shape e he)) with⟨h3,h4⟩|⟨j,e,h3,h4,h5⟩
     ·rw[c8e l5 ik 0 tk mr.shape h4] at hk;simp only[fi,fg,cv] at hk;have ny:(Az P A ro E).ofNat keys.length=(clock:Int):=by
       have h6:=mr.len;have h7:es.toList.length=es.size:=by simp
       show (keys.length:Int)=clock;rw[h6,h7,Ih]
      rw[ny] at hk;refine⟨.tuple #[zv,.int .i64 clock],{w with heap:=w.heap.setIfInBounds b (.map (es.push ⟨a.eval X,zv,clock⟩) (clock+1))},_,_,[],S,ρ,.inl ?_,hk,?_,two (eb _ _ _)⟩
      ·simp[AS,bc,hv,Ca,AI ht,Ac hb,KK.check w Ah td,h3,jl,Aq _ hb,Ak,CF]
      ·refine n8.set hr.co hρ iv rfl rfl ⟨rfl,AJ _⟩ rfl (by simp) (fun k ck=>by simp[Ab (As ck)]) ⟨es.push ⟨a.eval X,zv,clock⟩,clock+1,by simp[J7],⟨?_,fun e he=> ?_,fun i e k he mn=> ?_,?_,fun i e he=> ?_⟩,⟨by simp[bl],by simp[Ih]⟩,fun i x e hx he=> ?_⟩
       ·have:=mr.len;simp;simpa using this
       ·simp at he;rcases he with he|rfl
        ·exact mr.shape e (by simpa using he)
        ·exact l5
       ·rw[At] at he;have hlen:=mr.len;by_cases hi:i<es.toList.length
        ·rw[AE hi] at he;rw[AE (by omega)] at mn;exact mr.WQ i e k he mn
        ·rw[AD (by omega)] at he;rw[AD (by omega),hlen] at mn;cases hd:i-es.toList.length with
         |zero=>rw[hd] at he mn;simp at he mn;subst he;subst mn;exact ik
         |succ d=>rw[hd] at he;simp at he
       ·rw[At];refine Bl.2 ⟨mr.nd,by simp,fun e he e' l9=> ?_⟩;simp at l9;subst l9;exact h4 e he
       ·rw[At] at he;by_cases hi:i<es.toList.length
        ·rw[AE hi] at he;exact mr.born i e he
        ·rw[AD (by omega)] at he;cases hd:i-es.toList.length with
         |zero=>
          rw[hd] at he;simp at he;subst he;have:es.toList.length=es.size:=by simp
          show clock=i;omega
         |succ d=>rw[hd] at he;simp at he
       ·by_cases hi:i<ap.length
        ·rw[AE hi] at hx;rw[Ar,if_neg (by omega)] at he;exact (jo i x e hx he).mono (fun _ h=>h) (xy _ _) fun _ _ h=>h
        ·rw[AD (by omega)] at hx;cases hd:i-ap.length with
         |zero=>rw[hd] at hx;rw[Ar,if_pos (by omega)] at he;simp at hx he;subst hx;subst he;exact eb _ _ _
         |succ d=>rw[hd] at hx;simp at hx
     ·rw[c7o l5 ik 0 tk mr.shape mr.nd h4 h5] at hk;simp only[A3,cy] at hk;have hj:es[j]? =AF e:=by simpa using h4
      have Jh:j<ap.length:=by have:=(AC.1 h4).1;omega
      rw[AN Jh] at hk;have hvj:VR w S ρ ap[j] e.val:=jo j _ e (AN Jh) hj;have hbj:=mr.born j e h4;have hmod:es.modify j (fun e'=>{e' with key:=a.eval X})=es:=by
       apply BG;rw[BQ,BA _ _ _ _ h4];rw[show ({e with key:=a.eval X}:Al)=e by rw[<-h5]];refine A2 fun i=> ?_;by_cases hi:i=j
       ·subst hi;rw[AU (AC.1 h4).1,h4]
       ·rw[AT (As hi)]
      have hid:({w with heap:=w.heap.setIfInBounds b (.map es clock)}:A4)=w:=by
       have:w.heap.setIfInBounds b (.map es clock)=w.heap:=by
        apply BG;rw[B4];refine A2 fun i=> ?_;by_cases hi:i=b
        ·subst hi;rw[AU (by simpa using J7)];simpa using hb.symm
        ·rw[AT (As hi)]
       rw[this]
      refine .same hr.co (v:= .tuple #[e.val,.int .i64 j]) ?_ hk (two hvj);have aj:(AS a.eval o).run P w= .ok (.value (.tuple #[e.val,.int .i64 (e.born:Int)])) {w with heap:=w.heap.setIfInBounds b (.map (es.modify j (fun e'=>{e' with key:=a.eval X})) clock)}:=by simp[AS,bc,hv,Ca,AI ht,Ac hb,KK.check w Ah td,h3,hj,h5,KK.stays w td,Aq _ hb,Ak,CF]
      rw[aj,hmod,hid,hbj]
   ·exact hk.elim
  ·exact hk.elim
 ·exact hk.elim
theorem d8c {t:AY}{M Y X:AX}(bc:o.op= .entryStore t M Y X){m y x:ah}(hm:bh M=AF m)(hy:bh Y=AF y)(hx:bh X=AF x)(hk:af (Az P A ro E) (.VW m y x) st K)(hr:Bt E st a w S ρ):Bj P o a w S ρ st.h K:=by
 have h0:=dm hr.ts hm;have h1:=dm hr.ts hy;have h2:=dm hr.ts hx;simp only[af] at hk;split at hk
 ·rename_i l e1;rw[e1] at h0;split at hk
  ·rename_i wide ks keys ap uc;generalize hv:a.eval M=v at h0;cases h0 with
   |map _ b C hρ=>
    obtain⟨n,hn,hk⟩:=Ip h1 hk;obtain⟨⟨lz,ky⟩,hk⟩:(0<=n.val/\n.val<(az ap:Int))/\_:=hk;simp only[j5,fg] at hk;rw[cv] at ky;obtain⟨j,xt⟩: ∃j:Nat,n.val=j:=⟨n.val.toNat,by omega⟩;rw[xt] at hk hn ky;simp only[Int.toNat_natCast] at hk;obtain⟨oo,ho,hh⟩:=hr.co.obj l _ C hρ;have iv:=uc;rw[cy] at iv;rw[iv] at ho;cases ho;obtain⟨es,clock,hb,mr,⟨bl,Ih⟩,jo⟩:=hh;have J7:b<w.heap.size:=(Aw.1 hb).1;have Kg: ¬S b:=hr.co.own l b C _ hρ iv rfl;have Jh:j<es.size:=by omega
    obtain⟨e,he⟩: ∃e,es.toList[j]? =AF e:=⟨es.toList[j]'(by simpa using Jh),AN _⟩;have PH:es.findIdx? (fun e=>(e.born:Int)==(j:Int))=AF j:=by
     rw[Array.findIdx?_eq_some_iff_getElem];refine⟨Jh,?_,fun i hi=> ?_⟩
     ·have:=mr.born j es[j] (by simp);simp[this]
     ·have:=mr.born i es[i] (by simp);simp[this];omega
    have gl:(es.modify j (fun e'=>{e' with val:=a.eval X})).toList=es.toList.set j {e with val:=a.eval X}:=by rw[BQ,BA _ _ _ _ he]
    have jd: ∀i e',(es.toList.set j {e with val:=a.eval X})[i]? =AF e'->(i=j/\e'={e with val:=a.eval X})\/(i≠j/\es.toList[i]? =AF e'):=fun i e' h=>by
     by_cases hi:i=j
     ·subst hi;rw[AU (by simpa using Jh)] at h;cases h;exact .inl ⟨rfl,rfl⟩
     ·rw[AT (As hi)] at h;exact .inr ⟨hi,h⟩
    refine⟨CX,{w with heap:=w.heap.setIfInBounds b (.map (es.modify j (fun e'=>{e' with val:=a.eval X})) clock)},.lc,_,[],S,ρ,.inr ⟨?_,rfl⟩,hk,?_,.lc⟩
    ·have Ig:(asInt (.int .i64 (j:Int))).run P w= .ok (j:Int) w:=by simp[asInt,Cl]
     simp[AS,bc,hv,hn,Instr.entryStore,Ig,Ac hb,PH,Aq _ hb,Ak]
    ·refine n8.set hr.co hρ iv rfl rfl ⟨rfl,AJ _⟩ rfl (by simp) (fun k ck=>by simp[Ab (As ck)]) ⟨es.modify j (fun e'=>{e' with val:=a.eval X}),clock,by simp[J7],⟨?_,fun e' l9=> ?_,fun i e' k l9 mn=> ?_,?_,fun i e' l9=> ?_⟩,⟨by simp[bl],by simpa using Ih⟩,fun i x e' hx l9=> ?_⟩
     ·rw[gl];simpa using mr.len
     ·rw[gl] at l9;rcases BC l9 with h|rfl
      ·exact mr.shape e' h
      ·exact mr.shape e (Am he)
     ·rw[gl] at l9;rcases jd i e' l9 with⟨rfl,rfl⟩|⟨_,h⟩
      ·exact mr.WQ i e k he mn
      ·exact mr.WQ i e' k h mn
     ·rw[gl];have e3:(es.toList.set j {e with val:=a.eval X}).map (·.key)=es.toList.map (·.key):=by
       rw[CB];refine A2 fun i=> ?_;by_cases hi:i=j
       ·subst hi;have hlt:=(AC.1 he).1;rw[AU (by simpa using hlt),AZ,he];rfl
       ·rw[AT (As hi)]
      refine (A8 (f:=fun e:Al=>e.key) (R:=fun x y=>x≠y)).1 ?_;rw[e3];exact (A8 (f:=fun e:Al=>e.key) (R:=fun x y=>x≠y)).2 mr.nd
     ·rw[gl] at l9;rcases jd i e' l9 with⟨rfl,rfl⟩|⟨_,h⟩
      ·exact mr.born i e he
      ·exact mr.born i e' h
     ·have sg:(es.toList.set j {e with val:=a.eval X})[i]? =AF e':=by rw[<-gl,AW];simpa only[AW] using l9
      have Kf: ∀{x:AV} {v:AM},VR w S ρ x v->VR {w with heap:=w.heap.setIfInBounds b (.map (es.modify j (fun e'=>{e' with val:=a.eval X})) clock)} S ρ x v:=fun h=>h.mono (fun _ h=>h) (fun k PP=>by
       have ck:k≠b:=fun e=>Kg (e▸PP);simp[Ab (As ck)]) fun _ _ h=>h
      rcases jd i e' sg with⟨rfl,rfl⟩|⟨hi,h⟩
      ·rw[AU (by omega)] at hx;cases hx;exact Kf h2
      ·rw[AT (As hi)] at hx;exact Kf (jo i x e' hx (by simpa using h))
  ·exact hk.elim
 ·exact hk.elim
theorem c4x {t:AY}{u:Unit}(h:Nu P t=AF u):(Cn t).run P w= .ok (.int .i64 0) w:=by
 simp[Nu,AA] at h;obtain⟨k,hk,h⟩:=h;split at h
 ·simp only[AA] at h;obtain⟨i,hi,h⟩:=h;split at h
  ·rename_i hz;exact Jz hi hz
  ·cases h
 ·cases h
theorem d0d {Sg:We}{sz b:Nat}{x y:ah}{st:St}{K:AV->List ae->List Nat->Prop}(hk:af Sg (.t5 sz b x y) st K):af Sg (.append sz b x y Ah) st K\/af Sg (.pi sz b x y Ah) st K:=by
 simp only[af] at hk⊢;split at hk
 ·rename_i e1 e2;right;rw[e1,e2];exact hk
 ·rename_i e1 e2;left;split at hk
  ·rename_i hs;have hs:=AK hs;subst hs;rw[e1,e2];simp only[KI,zm,um];rw[if_pos (by simp)];exact hk
  ·exact hk.elim
 ·exact hk.elim
theorem b7d {t u e e':AY}{X Y:AX}(bc:o.op= .call {callee:= .builtin .append,args:= #[X,Y],argTypes:= #[t,u]})
 (ht:P.underlying t=AF (.slice e)) (hu:P.underlying u=AF (.slice e')) {sz b:Nat} {zs:List DV} (bl:l6 P e=AF sz) (hb:zu P e=AF b) (k7:b<=250) (hz:uo P e=AF zs) (lr:zs.length=sz)
 {x y:ah} {mu:Bool} (hx:bh X=AF x) (hy:bh Y=AF y) (hk:af (Az P A ro E) (.pi sz b x y mu) st K) (hr:Bt E st a w S ρ):Bj P o a w S ρ st.h K:=by
 simp only[af] at hk;split at hk
 ·rename_i e1 e2;have h0:=dm hr.ts hx;have h1:=dm hr.ts hy;rw[e1] at h0;have run: ∀r w',(AL #[t,u] o.type #[a.eval X,a.eval Y]).run P w= .ok r w'->(AS a.eval o).run P w= .ok (.value r) w':=by intro r w' h;simp[AS,bc,Bm,Bw,builtin,h]
  have run: ∀r w',(AL #[t,u] t #[a.eval X,a.eval Y]).run P w= .ok r w'->(AS a.eval o).run P w= .ok (.value r) w':=run;rw[h0.nil] at run;have hv: ∃aa cap,a.eval Y= .slice aa 0 cap:=by
   revert h1 e2;generalize Cu st.ts y=q;generalize a.eval Y=v;intro e2 h1;cases h1 with
   |d hd=>
    cases hd with
    |nil=>exact⟨_,_,rfl⟩
    |VO sz e a cap=>exact⟨_,_,rfl⟩
    |sl sz n e b off cap f hb hc hl hv hr=>
     cases n with
     |zero=>exact⟨_,_,rfl⟩
     |succ n=>simp[y7] at e2
    |_=>simp[y7] at e2
   |lm sz n e aa hd=>
    cases n with
    |zero=>exact⟨_,_,rfl⟩
    |succ n=>simp[y7] at e2
   |bi l sz s n f ob C cap aa hρ hc b9 ha=>
    cases n with
    |zero=>exact⟨_,_,rfl⟩
    |succ n=>simp[y7] at e2
   |_=>simp[y7] at e2
  obtain⟨aa,cap,hv⟩:=hv;obtain⟨new,cm,_⟩:=Iv (P:=P) (w:=w) (S:=S) (sz:=sz) (n:=0) (e:=fun _=>[]) (aa:=aa) (cap:=cap) (.inl rfl) (fun _ _ _=>trivial);have aj:=run _ _ (by rw[hv];exact a5h ht hu bl cm);exact .same hr.co aj hk (.d .nil)
 ·rename_i sz' e' e1 e2;have h0:=dm hr.ts hx;have h1:=dm hr.ts hy;rw[e1] at h0;have run: ∀r w',(AL #[t,u] o.type #[a.eval X,a.eval Y]).run P w= .ok r w'->(AS a.eval o).run P w= .ok (.value r) w':=by intro r w' h;simp[AS,bc,Bm,Bw,builtin,h]
  have run: ∀r w',(AL #[t,u] t #[a.eval X,a.eval Y]).run P w= .ok r w'->(AS a.eval o).run P w= .ok (.value r) w':=run;have hv: ∃aa cap,a.eval Y= .slice aa 0 cap:=by
   revert h1 e2;generalize Cu st.ts y=q;generalize a.eval Y=v;intro e2 h1;cases h1 with
   |d hd=>
    cases hd with
    |nil=>exact⟨_,_,rfl⟩
    |VO sz e a cap=>exact⟨_,_,rfl⟩
    |sl sz n e b off cap f hb hc hl hv hr=>
     cases n with
     |zero=>exact⟨_,_,rfl⟩
     |succ n=>simp[y7] at e2
    |_=>simp[y7] at e2
   |lm sz n e aa hd=>
    cases n with
    |zero=>exact⟨_,_,rfl⟩
    |succ n=>simp[y7] at e2
   |bi l sz s n f ob C cap aa hρ hc b9 ha=>
    cases n with
    |zero=>exact⟨_,_,rfl⟩
    |succ n=>simp[y7] at e2
   |_=>simp[y7] at e2
  obtain⟨aa,cap,hv⟩:=hv;generalize Qy:a.eval X=xv at h0;cases h0 with
  |lm _ _ _ a0 hd=>
   obtain⟨new,cm,ky,_⟩:=Iv (P:=P) (w:=w) (S:=S) (sz:=sz) (n:=0) (e:=fun _=>[]) (aa:=aa) (cap:=cap) (.inl rfl) (fun _ _ _=>trivial);obtain⟨lz,cw⟩:=vu bl;have jy:new.toList=[]:=by
    have:new.size=0:=by omega
    simpa using this
   have aj:(AL #[t,u] t #[.slice a0 0 0,.slice aa 0 cap]).run P w= .ok (.slice a0 0 0) w:=by
    cases a0 with
    |none=>simp[AL,AI ht,AI hu,cw,Ap,cm]
    |some pa=>simp[AL,AI ht,AI hu,cw,Ap,cm,jy,BR]
   exact .same hr.co (run _ _ (by rw[hv,Qy];exact aj)) hk (.lm _ _ _ _ hd)
 ·exact b5f bc ht hu bl hb k7 hz lr hx hy (mu:=mu) hk hr
theorem T4 (dp:WO P)(hc:Oz P c o=AF io)(hk:af (Az P A ro E) io st K)(hr:Bt E st a w S ρ)
 (hn: ∀x h' pg v w' S' ρ',K x h' pg->Cx w S ρ st.h w' S' ρ' h' pg->VR w' S' ρ' x v->next (a.put o.dst v) w'):o.wpIn (ri ro) 0 P a w next Q:=by
 have fin:(∀c,o.op≠ .defer c)->Bj P o a w S ρ st.h K->o.wpIn (ri ro) 0 P a w next Q:=fun h1 h2=>h2.wpIn h1 hn
 unfold Oz at hc;split at hc
 case h_2=>cases hc;exact hk.elim
 rename_i io' j9;cases hc;have hc:=j9;have sf:=hc;unfold ni at hc;split at hc
 ·rename_i X heq;exact fin (by rw[heq];intro c h;cases h) (d5q (.inl heq) sf hk hr)
 ·rename_i X heq;exact fin (by rw[heq];intro c h;cases h) (d5q (.inr heq) sf hk hr)
 ·rename_i heq;exact fin (by rw[heq];intro c h;cases h) (e4o heq sf hk hr)
 ·rename_i heq;exact fin (by rw[heq];intro c h;cases h) (d8p heq sf hk hr)
 ·rename_i heq;exact fin (by rw[heq];intro c h;cases h) (f1z heq sf hk hr)
 ·rename_i t ps heq;simp only[AG,AA,AH,AB] at hc;obtain⟨zs,hz,oc,hp,l,hl,rfl⟩:=hc;exact fin (by rw[heq];intro c h;cases h) (d9d heq hz hp (by simpa using hl) hk hr)
 ·rename_i t n ps heq;simp only[AG,AA,AH] at hc;obtain⟨e,he,sz,bl,zs,hz,hc⟩:=hc;split at hc
  ·rename_i cj;simp only[AA] at hc;obtain⟨l,hl,hc⟩:=hc;split at hc
   ·rename_i hn;split at hc
    ·rename_i hle;cases hc;obtain⟨rfl,_⟩:=hn;obtain⟨hle,rfl⟩:=hle;have vp:ps.toList=[]:=by
      have hle:l=[]:=by simpa using hle
      subst hle;cases hp:ps.toList with
      |nil=>rfl
      |cons q qs=>rw[hp] at hl;simp[AA] at hl
     have aj:=RJ (a:=a) (w:=w) heq vp (qo he) bl;have k:=n8.new hr.co (hr.co.fresh (AJ _)) (.cells #[] e) (.n7 []) 0 (fun w' gd=>⟨#[],e,by rw[gd];simp,by simp,by simp,fun i x v hx=>by simp at hx⟩);simp only[af,cv,fi] at hk;exact fin (by rw[heq];intro c h;cases h) ⟨_,_,_,_,[],S,_,.inl aj,hk,k.world (w2:=w.alloc (.cells #[] e)) rfl rfl ⟨rfl,AJ _⟩ rfl,.bi _ 1 Af 0 Ah (AF w.heap.size) 0 0 _ (by simp) (by simp) (by simp) (by simp)⟩
    ·cases hc
   split at hc
   ·rename_i hn;split at hc
    ·rename_i hle;cases hc;obtain⟨rfl,_⟩:=hn;have vp:ps.toList=[]:=by
      have hle:l=[]:=by simpa using hle
      subst hle;cases hp:ps.toList with
      |nil=>rfl
      |cons q qs=>rw[hp] at hl;simp[AA] at hl
     have aj:=RJ (a:=a) (w:=w) heq vp (qo he) bl;obtain⟨ρ',c2,jh⟩:=c9m (C:=0) (n:=0) (es:=fun _=>[]) (vs:= #[]) hr.co (w2:=w.alloc (.cells #[] e)) rfl rfl ⟨rfl,AJ _⟩ rfl (by simp) (AJ 0) (fun i hi=>by omega);simp only[af,cv,fi] at hk;exact fin (by rw[heq];intro c h;cases h) ⟨_,_,_,_,[],S,ρ',.inl aj,hk,c2,jh⟩
    ·cases hc
   split at hc
   ·rename_i hn;split at hc
    ·rename_i hle;cases hc;obtain⟨rfl,_⟩:=hn;have vp:ps.toList=[]:=by
      have hle:l=[]:=by simpa using hle
      subst hle;cases hp:ps.toList with
      |nil=>rfl
      |cons q qs=>rw[hp] at hl;simp[AA] at hl
     have aj:=RJ (a:=a) (w:=w) heq vp (qo he) bl;obtain⟨ρ',c2,jh⟩:=c9m (C:=0) (n:=0) (es:=fun _=>[]) (vs:= #[]) hr.co (w2:=w.alloc (.cells #[] e)) rfl rfl ⟨rfl,AJ _⟩ rfl (by simp) (AJ 0) (fun i hi=>by omega);simp only[af,cv,fi] at hk;exact fin (by rw[heq];intro c h;cases h) ⟨_,_,_,_,[],S,ρ',.inl aj,hk,c2,jh⟩
    ·cases hc
   split at hc
   ·rename_i hn;split at hc
    ·rename_i hle;cases hc;obtain⟨rfl,_⟩:=hn;have vp:ps.toList=[]:=by
      have hle:l=[]:=by simpa using hle
      subst hle;cases hp:ps.toList with
      |nil=>rfl
      |cons q qs=>rw[hp] at hl;simp[AA] at hl
     have aj:=RJ (a:=a) (w:=w) heq vp (qo he) bl;obtain⟨c2,jh⟩:=c2r (sz:=sz) (C:=0) (n:=0) (es:=fun _=>[]) (vs:= #[]) hr.co (w2:=w.alloc (.cells #[] e)) rfl rfl ⟨rfl,AJ _⟩ rfl (by simp) (AJ 0) (fun i hi=>by omega);exact fin (by rw[heq];intro c h;cases h) ⟨_,_,_,_,[],_,ρ,.inl aj,hk,c2,.lm _ _ _ _ (.VO _ _ _ _)⟩
    ·cases hc
   ·split at hc
    ·cases hc;exact fin (by rw[heq];intro c h;cases h) (c3b heq (qo he) bl hz cj.1 cj.2 (by simpa using hl) (c9n hk) hr)
    ·cases hc;exact fin (by rw[heq];intro c h;cases h) (c3b heq (qo he) bl hz cj.1 cj.2 (by simpa using hl) hk hr)
  ·cases hc
 ·rename_i heq;exact fin (by rw[heq];intro c h;cases h) (e3w heq sf hk hr)
 ·rename_i heq;exact fin (by rw[heq];intro c h;cases h) (d8r heq sf hk hr)
 ·rename_i heq;exact fin (by rw[heq];intro c h;cases h) (d1r heq sf hk hr)
 ·rename_i op t X Y t' heq;simp only[AG,AA] at hc;obtain⟨d,hd,hc⟩:=hc;split at hc
  ·simp only[AA,AH,AB] at hc;obtain⟨x,hx,y,hy,rfl⟩:=hc;unfold U4 at hk;split at hk
   ·exact fin (by rw[heq];intro c h;cases h) (f2t heq hx hy hk hr)
   ·exact fin (by rw[heq];intro c h;cases h) (g4m heq hx hy hk hr)
  ·simp only[AA,AH,AB] at hc;obtain⟨x,hx,y,hy,rfl⟩:=hc;exact fin (by rw[heq];intro c h;cases h) (e1t heq hd hx hy hk hr)
  ·split at hc
   ·split at hc
    ·cases hc
    rename_i hg;simp only[AA] at hc;obtain⟨x,hx,y,hy,hc⟩:=hc;exact fin (by rw[heq];intro c h;cases h) (e2u heq (neg:=Ah) rfl hd (by simpa using hg) hx hy hc hk hr)
   ·split at hc
    ·cases hc
    rename_i hg;simp only[AA] at hc;obtain⟨x,hx,y,hy,hc⟩:=hc;exact fin (by rw[heq];intro c h;cases h) (e2u heq (neg:=An) rfl hd (by simpa using hg) hx hy hc hk hr)
   ·cases hc
  ·split at hc
   ·split at hc
    ·cases hc
    rename_i hg;simp only[AA,AH,AB] at hc;obtain⟨k0,ep,x,hx,y,hy,rfl⟩:=hc;exact fin (by rw[heq];intro c h;cases h) (UB heq (neg:=Ah) rfl ep hd (.inl ⟨_,_,rfl⟩) (by simpa using hg) hx hy hk hr)
   ·split at hc
    ·cases hc
    rename_i hg;simp only[AA,AH,AB] at hc;obtain⟨k0,ep,x,hx,y,hy,rfl⟩:=hc;exact fin (by rw[heq];intro c h;cases h) (UB heq (neg:=An) rfl ep hd (.inl ⟨_,_,rfl⟩) (by simpa using hg) hx hy hk hr)
   ·cases hc
  ·split at hc
   ·simp only[AA,AH,AB] at hc;obtain⟨x,hx,rfl⟩:=hc;exact fin (by rw[heq];intro c h;cases h) (c7b heq rfl hd hx hk hr)
   ·simp only[AA,AH,AB] at hc;obtain⟨x,hx,rfl⟩:=hc;exact fin (by rw[heq];intro c h;cases h) (c7b heq rfl hd hx hk hr)
   ·cases hc
  ·cases hc
 ·rename_i heq;exact fin (by rw[heq];intro c h;cases h) (g7l heq sf hk hr)
 ·rename_i heq;exact fin (by rw[heq];intro c h;cases h) (e3m heq sf hk hr)
 ·rename_i heq;exact fin (by rw[heq];intro c h;cases h) (e1j heq sf hk hr)
 ·rename_i t heq;simp only[AG,AA,AH,AB] at hc;obtain⟨⟨k,e⟩,hm,⟨wide,ks⟩,ep,hc⟩:=hc;split at hc
  ·cases hc;exact fin (by rw[heq];intro c h;cases h) (c3i heq hk hr)
  split at hc
  ·cases hc;exact fin (by rw[heq];intro c h;cases h) (d9g heq hk hr)
  ·cases hc;exact fin (by rw[heq];intro c h;cases h) (c3i heq hk hr)
 ·rename_i t N M heq;simp only[AG,AA] at hc;obtain⟨e,he,sz,bl,zs,hz,b,hb,x,hx,hc⟩:=hc;split at hc
  ·split at hc
   ·rename_i i j cj;cases hc;exact fin (by rw[heq];intro c h;cases h) (b8a heq (by rw[cj.1]) (qo he) bl hz hb cj.2.1 cj.2.2 hx hk hr)
   ·cases hc
  ·split at hc
   ·rename_i i j cj;cases hc;exact fin (by rw[heq];intro c h;cases h) (b8a heq (by rw[cj.1]) (qo he) bl hz hb cj.2.1 cj.2.2 hx hk hr)
   ·cases hc
  ·cases hc
 ·rename_i t X LO HI MX heq;simp only[AG,AA] at hc;obtain⟨d,hd,hc⟩:=hc;split at hc
  ·simp only[AA] at hc;obtain⟨sz,bl,hc⟩:=hc;split at hc
   ·split at hc
    ·simp only[AA,AH,AB] at hc;obtain⟨x,hx,lo,kv,hi,ly,rfl⟩:=hc;exact fin (by rw[heq];intro c h;cases h) (d2d heq hd bl hx kv ly hk hr)
    ·cases hc
   split at hc
   ·split at hc
    ·simp only[AA,AH,AB] at hc;obtain⟨x,hx,lo,kv,hi,ly,mx,mq,rfl⟩:=hc;exact fin (by rw[heq];intro c h;cases h) (d8f heq hd bl hx kv ly mq hk hr)
    ·cases hc
   split at hc
   ·cases hc
   ·rename_i jn;simp only[AA,AH,AB] at hc;obtain⟨x,hx,lo,kv,hi,ly,mx,mq,rfl⟩:=hc;refine fin (by rw[heq];intro c h;cases h) (d8l heq hd bl hx kv ly mq (fun h1=> ?_) hk hr);cases MX with
    |none=>rfl
    |some M=>exact absurd rfl (jn M h1)
  ·simp only[AA] at hc;obtain⟨k1,hu,hc⟩:=hc;split at hc
   ·split at hc
    ·rename_i ij;subst ij;simp only[AA,AH,AB] at hc;obtain⟨x,hx,lo,kv,hi,ly,rfl⟩:=hc;exact fin (by rw[heq];intro c h;cases h) (d8b heq hd hx kv ly hk hr hu)
    ·cases hc
   ·cases hc
  ·cases hc
 ·rename_i heq;exact fin (by rw[heq];intro c h;cases h) (d9h heq sf hk hr)
 ·rename_i heq;exact fin (by rw[heq];intro c h;cases h) (d7k heq sf hk hr)
 ·rename_i t X I heq;simp only[AG,AA] at hc;obtain⟨d,hd,hc⟩:=hc;split at hc
  ·simp only[AA,AH,AB] at hc;obtain⟨sz,bl,x,hx,i,hi,rfl⟩:=hc;exact fin (by rw[heq];intro c h;cases h) (d6m heq hd bl hx hi hk hr)
  ·simp only[AA,AH,AB] at hc;obtain⟨sz,bl,x,hx,i,hi,rfl⟩:=hc;exact fin (by rw[heq];intro c h;cases h) (d1w heq hd bl hx hi hk hr)
  ·cases hc
 ·rename_i t M X ok heq;simp only[AG,AA,AH,AB] at hc;obtain⟨⟨k,e⟩,hm,⟨wide,ks⟩,ep,hc⟩:=hc;split at hc
  ·simp only[AA,AB] at hc;obtain⟨z,hz,m,nq,x,hx,rfl⟩:=hc;exact fin (by rw[heq];intro c h;cases h) (b7g dp.laid heq (HK hm) hz ep nq hx hk hr)
  split at hc
  ·rename_i hu;simp only[AA,AB] at hc;obtain⟨m,nq,x,hx,rfl⟩:=hc;exact fin (by rw[heq];intro c h;cases h) (d1x dp.laid heq (HK hm) (fun _=>c4x hu) ep nq hx hk hr)
  ·simp only[AA,AB] at hc;obtain⟨z,hz,m,nq,x,hx,rfl⟩:=hc;exact fin (by rw[heq];intro c h;cases h) (b7g dp.laid heq (HK hm) hz ep nq hx hk hr)
 ·rename_i t M X Y heq;simp only[AG,AA,AH,AB] at hc;obtain⟨⟨k,e⟩,hm,⟨wide,ks⟩,ep,hc⟩:=hc;split at hc
  ·simp only[AA,AB] at hc;obtain⟨m,nq,x,hx,y,hy,rfl⟩:=hc;exact fin (by rw[heq];intro c h;cases h) (UC dp.laid (.inl heq) (HK hm) ep nq hx hy hk hr)
  split at hc
  ·simp only[AA,AB] at hc;obtain⟨m,nq,x,hx,y,hy,rfl⟩:=hc;exact fin (by rw[heq];intro c h;cases h) (d2s dp.laid (.inl heq) (HK hm) ep nq hx hy hk hr)
  ·simp only[AA,AB] at hc;obtain⟨m,nq,x,hx,y,hy,rfl⟩:=hc;exact fin (by rw[heq];intro c h;cases h) (UC dp.laid (.inl heq) (HK hm) ep nq hx hy hk hr)
 ·rename_i t M X heq;simp only[AG,AA,AH,AB] at hc;obtain⟨⟨k,e⟩,hm,⟨wide,ks⟩,ep,z,hz,m,nq,x,hx,rfl⟩:=hc;exact fin (by rw[heq];intro c h;cases h) (d4b dp.laid heq (HK hm) hz ep nq hx hk hr)
 ·rename_i t M Y X heq;simp only[AG,AA,AH,AB] at hc;obtain⟨m,nq,y,hy,x,hx,rfl⟩:=hc;exact fin (by rw[heq];intro c h;cases h) (d8c heq nq hy hx hk hr)
 ·rename_i t X heq;simp only[AG,AA,AH,AB] at hc;obtain⟨⟨k,e⟩,hm,x,hx,rfl⟩:=hc;exact fin (by rw[heq];intro c h;cases h) (m1b heq (HK hm) hx hk hr)
 ·rename_i X s heq;split at hc
  ·cases hc
  ·rename_i hs;have ug:s=Ah:=by simpa using hs
   subst ug;simp only[AG,AA,AH,AB] at hc;obtain⟨x,hx,rfl⟩:=hc;exact fin (by rw[heq];intro c h;cases h) (m0v heq hx hk hr)
 ·rename_i X heq;simp only[AG,AA,AH,AB] at hc;obtain⟨x,hx,rfl⟩:=hc;exact fin (by rw[heq];intro c h;cases h) (m1a heq hx hk hr)
 ·rename_i t M X Y heq;simp only[AG,AA,AH,AB] at hc;obtain⟨⟨k,e⟩,hm,⟨wide,ks⟩,ep,hc⟩:=hc;split at hc
  ·simp only[AA,AB] at hc;obtain⟨m,nq,x,hx,y,hy,rfl⟩:=hc;exact fin (by rw[heq];intro c h;cases h) (UC dp.laid (.inr heq) (HK hm) ep nq hx hy hk hr)
  split at hc
  ·simp only[AA,AB] at hc;obtain⟨m,nq,x,hx,y,hy,rfl⟩:=hc;exact fin (by rw[heq];intro c h;cases h) (d2s dp.laid (.inr heq) (HK hm) ep nq hx hy hk hr)
  ·simp only[AA,AB] at hc;obtain⟨m,nq,x,hx,y,hy,rfl⟩:=hc;exact fin (by rw[heq];intro c h;cases h) (UC dp.laid (.inr heq) (HK hm) ep nq hx hy hk hr)
 ·rename_i t s X heq;simp only[AG,AA] at hc;obtain⟨d,hd,hc⟩:=hc;split at hc
  ·simp only[AA,AH,AB] at hc;obtain⟨x,hx,rfl⟩:=hc;exact fin (by rw[heq];intro c h;cases h) (e3j heq hd hx hk hr)
  ·cases hc
 ·rename_i heq;simp only[AG,AA,AH] at hc;obtain⟨x,hx,hc⟩:=hc;split at hc
  ·cases hc;exact fin (by rw[heq];intro c h;cases h) (c4n heq hx hk hr)
  ·cases hc;exact fin (by rw[heq];intro c h;cases h) (c8n heq hx hk hr)
 ·rename_i k heq;obtain⟨callee,args,u7⟩:=k;simp only at hc;have UJ: ∀{α:Type} {as:Array α} {l:List α},as.toList=l->as=l.toArray:=fun h=>by apply BG;simpa using h
  split at hc
  ·rename_i f;split at hc
   ·rename_i fn SH;split at hc
    ·rename_i hov;simp only[BB,beq_iff_eq] at hov;split at hc
     ·rename_i X Y h1;rw[UJ h1] at heq;simp only[AG,AA,AH,AB] at hc;obtain⟨x,hx,y,hy,rfl⟩:=hc;exact fin (by rw[heq];intro c h;cases h) (f0s dp SH hov.1 hov.2 heq hx hy hk hr)
     ·cases hc
    ·simp only[AG,AA,AH,AB] at hc;obtain⟨as,has,rfl⟩:=hc;exact d5f heq (f:= .c (.fn f [] [])) rfl has hk hr hn
   ·cases hc
  ·simp only[AG,AA,AH,AB] at hc;obtain⟨f,hf,as,has,rfl⟩:=hc;exact d5f heq hf has hk hr hn
  ·have nd: ∀c,o.op≠ .defer c:=by rw[heq];intro c h;cases h
   have arr: ∀{α:Type} {as:Array α} {l:List α},as.toList=l->as=l.toArray:=fun h=>by apply BG;simpa using h
   unfold U3 at hc;split at hc
   ·split at hc
    ·rename_i X t h1 h2;rw[arr h1,arr h2] at heq;simp only[AG,AA] at hc;obtain⟨d,hd,hc⟩:=hc;split at hc
     ·simp only[AA,AH,AB] at hc;obtain⟨x,hx,rfl⟩:=hc;exact fin nd (e9h heq hd hx hk hr)
     ·simp only[AA,AH,AB] at hc;obtain⟨x,hx,rfl⟩:=hc;exact fin nd (e0y heq hd hx hk hr)
     ·cases hc
    ·cases hc
   ·split at hc
    ·rename_i X t h1 h2;rw[arr h1,arr h2] at heq;simp only[AG,AA] at hc;obtain⟨e,he,sz,bl,zs,hz,hc⟩:=hc;split at hc
     ·rename_i lr;simp only[AA,AH,AB] at hc;obtain⟨x,hx,rfl⟩:=hc;exact fin nd (d7d heq (qo he) bl hz lr hx hk hr)
     ·cases hc
    ·cases hc
   ·split at hc
    ·rename_i X t h1 h2;rw[arr h1,arr h2] at heq;simp only[AG,AA,AH,AB] at hc;obtain⟨e,he,x,hx,rfl⟩:=hc;exact fin nd (f0a heq (qo he) hx hk hr)
    ·cases hc
   ·split at hc
    ·rename_i X Y h1;rw[arr h1] at heq;simp only[AG,AA,AH,AB] at hc;obtain⟨x,hx,y,hy,rfl⟩:=hc;exact fin nd (f2j heq hx hy hk hr)
    ·cases hc
   ·split at hc
    ·rename_i X Y h1;rw[arr h1] at heq;simp only[AG,AA,AH,AB] at hc;obtain⟨x,hx,y,hy,rfl⟩:=hc;exact fin nd (f0m heq hx hy hk hr)
    ·cases hc
   ·split at hc
    ·rename_i X Y t u h1 h2;rw[arr h1,arr h2] at heq;simp only[AG,AA] at hc;obtain⟨e,he,e',l9,sz,bl,b,hb,zs,hz,hc⟩:=hc;split at hc
     ·rename_i cj;split at hc
      ·split at hc
       ·rename_i h1;subst h1;simp only[AA,AH,AB] at hc;obtain⟨x,hx,y,hy,rfl⟩:=hc;exact fin nd (i1k heq (qo he) (qo l9) bl hb cj.2.1 hz cj.2.2 hx hy hk hr)
       ·cases hc
      split at hc
      ·simp only[AA,AH,AB] at hc;obtain⟨x,hx,y,hy,rfl⟩:=hc;rcases d0d hk with hk|hk
       ·exact fin nd (b5f heq (qo he) (qo l9) bl hb cj.2.1 hz cj.2.2 hx hy hk hr)
       ·exact fin nd (b7d heq (qo he) (qo l9) bl hb cj.2.1 hz cj.2.2 hx hy hk hr)
      split at hc
      ·simp only[AA,AH,AB] at hc;obtain⟨x,hx,y,hy,rfl⟩:=hc;exact fin nd (c5b heq (qo he) (qo l9) bl hx hy hk hr)
      split at hc
      ·simp only[AA,AH,AB] at hc;obtain⟨x,hx,y,hy,rfl⟩:=hc;exact fin nd (b7d heq (qo he) (qo l9) bl hb cj.2.1 hz cj.2.2 hx hy hk hr)
      simp only[AA,AH,AB] at hc;obtain⟨x,hx,y,hy,rfl⟩:=hc;exact fin nd (b5f heq (qo he) (qo l9) bl hb cj.2.1 hz cj.2.2 hx hy hk hr)
     ·cases hc
    ·cases hc
   ·split at hc
    ·rename_i X Y t u h1 h2;rw[arr h1,arr h2] at heq;simp only[AG,AA] at hc;obtain⟨e,he,e',l9,sz,bl,hc⟩:=hc;split at hc
     ·simp only[AA,AH,AB] at hc;obtain⟨x,hx,y,hy,rfl⟩:=hc;exact fin nd (e4m heq (qo he) bl hx hy hk hr)
     ·cases hc
    ·cases hc
   ·cases hc
  ·cases hc
 ·cases hc
end
end Go.Vf
