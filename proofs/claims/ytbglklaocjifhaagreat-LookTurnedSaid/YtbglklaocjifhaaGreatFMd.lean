/- The executor's text on keys of maps. Conditions: none. -/
import Derived.Test.YtbglklaocjifhaaGreatFMb
import Derived.Laws.Tables
import Derived.Maps.Keyed
import Derived.DeepKeys4
import Derived.WideShapes4
import Derived.DeepKeys
import Derived.Lib.Overlaps
open Option renaming bind_eq_some_iff->AA,some->AF,bind_eq_bind->AG,pure_def->AH,none->Ag,map_some->A7
open List renaming getElem?_eq_some_iff->AB,getElem?_append_right->AD,getElem?_append_left->AE,length_take->AO,length_append->AQ,getElem?_set_ne->AR,getElem?_eq_getElem->AS,getElem?_set_self->AT,append_assoc->AY,getElem?_take_of_lt->Ab,getElem?_map->Ad,getElem?_toArray->Af,mem_of_getElem?->As,length_eq_zero_iff->Au,getElem?_drop->Ax,length_drop->A4,pairwise_map->A8,ext_getElem?->A9,mem_or_eq_of_mem_set->BE,getElem?_cons_zero->BJ,getElem?_cons_succ->BK,size_toArray->BM,replicate->BN,getElem_of_mem->BU,pairwise_cons->BX,mapM_cons->BY,pairwise_append->Bi,getElem?_range->Bm,zipWith->Bq,length_map->By,map_cons->B9,take->CF,map_set->CJ,take_length->CU,length_cons->CV,cons_append->CW,length_set->CZ,drop_zero->Cd,mem_cons->Ch,range->Cv
open Option.some renaming injEq->AC,inj->CI
open Go renaming run_underlying->AI,Value->AN,execOp->AU,TypeId->AX,Operand->AZ,IntKind->Ak,MapEntry->Al,World->A6,info_of_underlying->BO,storeCells->BS,resolve->Bj,laidOutB->Bo,invoke->Bv,run_storeCells_at->B0,Addr->B8,Program->CG,goInt->CO,undef->CX,FuncId->Ci,asIntOf->Cl,zeroValue->Cp,Act->Cw,callsIn_wide->C6,keyOf->C9,Field->DA,newRow->DB,BoundsCode->DJ
open Nat renaming eq_of_beq_eq_true->AJ,le_refl->AK,mul_le_mul_right->AP,add_mul->Ac,zero_add->A3,add_zero->BV,lt_of_lt_of_le->Ba,add_sub_cancel_left->Bc,succ_mul->Bd,div_lt_iff_lt_mul->Bh,mul_one->Bk,lt_of_not_le->Bw,div_add_mod->B3,mul_comm->CL,le_trans->CM,mod_lt->CR,min_le_right->CY,zero_le->Ct,le_succ->Cu
open Go.Builtin renaming append_->AM,lenOf->Ao,firstCells->A5,clear_->Be,copy_->B4,len_->B7,zeroCells->CN,min_->DC,min2->DD,max_->DE,max2->DF,cap_->DH
open Array renaming length_toList->AW,getElem?_toList->Ae,getElem?_setIfInBounds_ne->Ah,getElem?_push->Aq,toList_push->At,range->BA,getElem?_eq_some_iff->BB,ext'->BI,toList_modify->BR,getElem?_append_left->BW,getElem?_append_right->Bz,toList_setIfInBounds->B5,size_append->CQ
open Go.MapKept renaming run_getObj_map->Aa,run_setObj_map->Ap
open Int renaming toNat_of_nonneg->Ai
open Bool renaming false->Aj,true->An,false_eq_true->Ay,and_eq_true->BD,and_self->Cj
open Go.Result renaming andThen->Am,andThen_ok->BZ
open Go.Vf renaming keyOf->Ar,std->Az,Yld->Bl,Rel->Bx,VRs->Cb,Sim->Cm,Rho->Co,opd->Cy,cell?_of->Cz,Chg->C4,DVR->C7
open Ne renaming symm->Av
open Go.Value renaming formed->Aw,cells->BQ,int->Br,agg->Cr
open Go.ChangeMaps renaming modify_eq_set->BC
open Go.Instr renaming sliceAt->BF,mapUpdate->BG,fill->BH,sliceBounds->BL,sliceBound->Bb,lookup->Bp,buildSlice->Bt,findKey->B6,mapEntry->Ca,makeMap->Ce
open Go.Vf.AV renaming normL->BP,shiftL->Cg,free->Cx,normL_eq->C5
open Go.Op renaming equalIn->Bf,eqFields->CP,eqItems->CT,equal->C8
open Go.Vf.IX renaming val->Bg
open Go.Deferred renaming ofValue->Bn
open Go.Sem renaming run_bind->Bs
open Go.Vf.DVR renaming mono->Bu,one->Cq
set_option linter.unusedSimpArgs false
set_option linter.unusedVariables false
namespace Go.Vf
open Go
section
variable {P:CG} {A:Ann} {ro:Option Nat} {E:Ent} {c:Nat} {o:Oper} {io:IOp} {st:St} {K:AV->List a0f->List Nat->Prop}
 {a:Cw} {w:A6} {S:Nat->Prop} {ρ:Co} {h:List a0f}
theorem Chg.nilarr {e:Nat->List DV}(hs:Cm w S ρ h)(sz:Nat):
 C4 w S ρ h w S (fun m=>if m=h.length then AF (Ag,0) else ρ m) (h++[.arr sz 0 e]) []/\
  VR w S (fun m=>if m=h.length then AF (Ag,0) else ρ m) (.msl h.length sz Ag 0 Aj) (.slice Ag 0 0):=by
 have hn:ρ h.length=Ag:=hs.fresh (AK _);have hρ: ∀m p,ρ m=AF p->(if m=h.length then AF (Ag,0) else ρ m)=AF p:=by intro m p hm;rw[if_neg (fun e=>by subst e;simp[hn] at hm)];exact hm
 refine⟨⟨⟨hs.sblk,fun m ob C hm=> ?_,fun m m' b C C' h1 h2=> ?_,fun m b C ao hm hao hf=> ?_⟩,by simp,
  ⟨rfl,⟨rfl,AK _⟩,rfl,AK _,fun _ h=>h,fun _ _=>rfl,fun _ h=> .inl h,fun _ _ _=>rfl,fun m b C hm=> ?_⟩,fun m p _ hm=>hρ m p hm,fun m hm _=>if_neg (by omega)⟩,
  .msl _ _ Ag 0 Aj Ag 0 0 Ag (by simp) (by simp) (by simp) (by simp)⟩
 ·show∃o,(h++[.arr sz 0 e])[m]? =AF o/\_;by_cases e1:m=h.length
  ·rw[if_pos e1] at hm;cases hm;exact⟨_,by rw[e1];simp,rfl,sz,e,.inl rfl⟩
  ·rw[if_neg e1] at hm;obtain⟨o',h1,h2⟩:=hs.obj m ob C hm;refine⟨o',by rw[AE (AB.1 h1).1];exact h1,?_⟩;cases ob with
   |none=>exact h2
   |some b=>exact a0z.mono (fun _ h=>h) (fun _ _=>rfl) hρ rfl h2
 ·by_cases e1:m=h.length
  ·rw[if_pos e1] at h1;cases h1
  ·by_cases e2:m'=h.length
   ·rw[if_pos e2] at h2;cases h2
   ·rw[if_neg e1] at h1;rw[if_neg e2] at h2;exact hs.inj m m' b C C' h1 h2
 ·by_cases e1:m=h.length
  ·rw[if_pos e1] at hm;cases hm
  ·rw[if_neg e1] at hm;obtain⟨o',h1,h2⟩:=hs.obj m _ C hm;have hao:(h++[.arr sz 0 e])[m]? =AF ao:=hao;rw[AE (AB.1 h1).1] at hao;exact hs.own m b C ao hm hao hf
 ·by_cases e1:m=h.length
  ·rw[if_pos e1] at hm;cases hm
  ·rw[if_neg e1] at hm;exact .inr ⟨m,C,hm⟩
theorem c0i {t u e e':AX}{sz b:Nat}{zs:List DV}{v v2:AN}{n m l:Nat}{es es2:Nat->List DV}{a2:Option B8}{cap2:Nat}
 (hop: ∀r w',(AM #[t,u] t #[v,v2]).run P w= .ok r w'->(AU a.eval o).run P w= .ok (.value r) w')
 (ht:P.underlying t=AF (.slice e)) (hu:P.underlying u=AF (.slice e')) (hsz:a1x P e=AF sz) (hb:a5j P e=AF b) (hb':b<=250) (hz:a5d P e=AF zs) (hzl:zs.length=sz)
 (hs:Cm w S ρ h) (hv:VR w S ρ (.msl l sz Ag n Aj) v) (hl:h[l]? =AF (.arr sz n es)) (hv2:v2= .slice a2 m cap2) (he2:Els w S sz m es2 a2 cap2) (hbig:n+m<=big)
 (hk:K (.msl l sz Ag (n+m) Aj) (a2n l Aj (h.set l (.arr sz (n+m) ((Az P A ro E).app n es es2)))) [l]):
 Bl P o a w S ρ h K:=by
 subst hv2;have hlt:=(AB.1 hl).1;cases hv with
 |msl _ _ _ _ _ ob C cap aa hρ hc hcap ha=>
  obtain⟨oo,h1,h2⟩:=hs.obj l ob C hρ;rw[hl] at h1;cases h1;simp at hcap hc ha;subst hcap;by_cases hroom:n+m<=cap
  ·cases ob with
   |none=>
    have hC:cap=0:=h2.1;subst hC;have hn:n=0:=by omega
    have hm:m=0:=by omega
    subst hn hm;have hrun:(AM #[t,u] t #[.slice aa 0 0,.slice a2 0 cap2]).run P w= .ok (.slice aa 0 0) w:=by
     obtain⟨new,hnew,hn1,hn2⟩:=a1y (P:=P) he2 (fun _ _ _=>trivial);obtain⟨hn0,hszr⟩:=a1s hsz;have:new.toList=[]:=by
      have:new.size=0:=by omega
      simpa using this
     cases aa with
     |none=>simp[AM,AI ht,AI hu,hszr,Ao,hnew]
     |some pa=>simp[AM,AI ht,AI hu,hszr,Ao,hnew,this,BS]
    have hsame:Cm w S ρ (h.set l (.arr sz (0+0) ((Az P A ro E).app 0 es es2))):=by
     refine⟨hs.sblk,fun l' ob' C' hl'=> ?_,hs.inj,fun l' b' C' ao hl' hao hf=> ?_⟩
     ·by_cases e1:l'=l
      ·subst e1;rw[hρ] at hl';cases hl';exact⟨_,by simp[hlt];rfl,rfl,sz,_,.inl rfl⟩
      ·obtain⟨o1,h3,h4⟩:=hs.obj l' ob' C' hl';exact⟨o1,by rw[AR (Av e1)];exact h3,h4⟩
     ·by_cases e1:l'=l
      ·subst e1;rw[hρ] at hl';cases hl'
      ·rw[AR (Av e1)] at hao;exact hs.own l' b' C' ao hl' hao hf
    refine⟨_,w,_,_,[l],S,ρ,.inl (hop _ _ hrun),hk,⟨hsame.forget l Aj,by rw[a4i];simp,.refl _ _ _,fun _ _ _ h=>h,fun _ _ _=>rfl⟩,.msl l sz Ag _ Aj Ag 0 0 aa hρ (by simp) (by simp) (by simp)⟩
   |some b0=>
    obtain⟨new,hnew,hn1,hn2⟩:=a1y (P:=P) he2 (fun _ _ _=>trivial);obtain⟨vs,ty,h4,h5,h5',h6⟩:=h2;obtain⟨hn0,hszr⟩:=a1s hsz;have hnm:(n+m)*sz<=cap*sz:=AP _ hroom;rw[Ac] at hnm;have hone: ∀v,v∈new.toList->v.oneCell'=An:=by
     intro v hv;obtain⟨k,hk1,rfl⟩:=BU hv;have hk2:k<m*sz:=by simpa [hn1] using hk1
     have hi:k/sz<m:=(Bh hn0).2 hk2;have hj:k % sz<sz:=CR _ hn0;have hlen:=hn2.1 _ hi;have hx:(es2 (k/sz))[k % sz]? =AF ((es2 (k/sz))[k % sz]'(by omega)):=AS _;refine Cq (hn2.2 (k/sz) hi (k % sz) _ new.toList[k] hx ?_);rw[show k/sz*sz+k % sz=k by rw[CL];exact B3 k sz];simp at hk1;simp[hk1]
    by_cases hcp:0<cap
    ·have haa:=ha hcp;simp at haa;subst haa;have hrun:=a5o (P:=P) (b:=b0) (off:=0) ht hu hsz hroom hnew h4 (by rw[h5,hn1];omega) hone;simp only[A3] at hrun;obtain⟨s1,s2,s3,s4,s5,s6⟩:=a7p (cs:=(vs.toList.take (n*sz)++new.toList++vs.toList.drop (n*sz+new.toList.length)).toArray) h4;have hS: ∀k,S k->(w.setRow b0 (vs.toList.take (n*sz)++new.toList++vs.toList.drop (n*sz+new.toList.length)).toArray).heap[k]? =w.heap[k]? :=
      fun k hk=>s6 k (fun e=>hs.own l b0 cap _ hρ hl rfl (e▸hk))
     have hsize:((vs.toList.take (n*sz)++new.toList++vs.toList.drop (n*sz+new.toList.length)).toArray).size=cap*sz:=by simp only[BM,AQ,AO,A4,AW];omega
     have k:=Chg.set hs hρ hl rfl s1 s2 s3 s4 s6 (o':= .arr sz (n+m) ((Az P A ro E).app n es es2)) ⟨_,ty,s5,hsize,hroom,fun i hi=> ?_⟩
     ·refine⟨_,_,_,_,[l],S,ρ,.inl (hop _ _ hrun),hk,(k.forgot l).purged [l],.msl l sz Ag _ Aj (AF b0) cap cap _ hρ (by simpa using hroom) (by simp) (by simp)⟩
     ·show (if i<n then es i else es2 (i-n)).length=sz/\ ∀(j:Nat) (x:DV) (u:AN),(if i<n then es i else es2 (i-n))[j]? =AF x->_;have hnl:new.toList.length=m*sz:=by simpa using hn1
      by_cases i1:i<n
      ·rw[if_pos i1];refine⟨(h6 i i1).1,fun j x u hx hu=> ?_⟩;have hj:j<sz:=by have:=(AB.1 hx).1;rw[(h6 i i1).1] at this;exact this
       have h7:(i+1)*sz<=n*sz:=AP _ (by omega);rw[Ac] at h7;simp only[Af] at hu;rw[AY,AE (by simp;omega),Ab (by omega)] at hu;exact Bu (w:=w) (fun _ h=>h) hS ((h6 i i1).2 j x u hx (by simpa using hu))
      ·rw[if_neg i1];have i2:i-n<m:=by omega
       refine⟨hn2.1 _ i2,fun j x u hx hu=> ?_⟩;have hj:j<sz:=by have:=(AB.1 hx).1;rw[hn2.1 _ i2] at this;exact this
       have h7:(i-n+1)*sz<=m*sz:=AP _ (by omega);rw[Ac] at h7;have h8:i*sz=n*sz+(i-n)*sz:=by rw[<-Ac];congr 1;omega
       simp only[Af] at hu;rw[AY,AD (by simp;omega),AE (by simp;omega)] at hu;rw[show i*sz+j-(CF (n*sz) vs.toList).length=(i-n)*sz+j by simp;omega] at hu;exact Bu (w:=w) (fun _ h=>h) hS (hn2.2 _ i2 j x u hx (by simpa using hu))
    ·have hC:cap=0:=by omega
     subst hC;have hn:n=0:=by omega
     have hm:m=0:=by omega
     subst hn hm;have hnl:new.toList=[]:=by
      have:new.size=0:=by omega
      simpa using this
     have hrun:(AM #[t,u] t #[.slice aa 0 0,.slice a2 0 cap2]).run P w= .ok (.slice aa 0 0) w:=by
      cases aa with
      |none=>simp[AM,AI ht,AI hu,hszr,Ao,hnew]
      |some pa=>simp[AM,AI ht,AI hu,hszr,Ao,hnew,hnl,BS]
     have k:=Chg.set hs hρ hl rfl (w':=w) rfl ⟨rfl,AK _⟩ rfl rfl (fun _ _=>rfl) (o':= .arr sz (0+0) ((Az P A ro E).app 0 es es2)) ⟨vs,ty,h4,h5,by omega,fun i hi=>by omega⟩;exact⟨_,w,_,_,[l],S,ρ,.inl (hop _ _ hrun),hk,(k.forgot l).purged [l],.msl l sz Ag _ Aj (AF b0) 0 0 aa hρ (by simp) (by simp) (by simp)⟩
  ·have hels:Els w S sz n es aa cap:=by
    by_cases hn:n=0
    ·exact .inl hn
    ·obtain⟨b1,vs,ty,fr,rfl,h3,h4,h5,h6⟩:=a8u (.inl rfl) h2 (by omega);refine .inr ⟨b1,0,by simpa using ha (by omega),by omega,fun i hi=> ?_⟩;have hrow:=b1w h3 h4 h5 h6 hi;refine⟨hrow.1,fun j hj=>⟨_,?_,(hrow.2 j hj).2⟩⟩;rw[<-(hrow.2 j hj).1,A3]
   obtain⟨old,hold,ho1,ho2⟩:=a1y (P:=P) hels.drew (fun _ _ _=>trivial);obtain⟨new,hnew,hn1,hn2⟩:=a1y (P:=P) he2.drew (fun _ _ _=>trivial);obtain⟨newCap,rest,hle,hrs,hrun⟩:=a6j ht hu hsz hb hb' hz (by omega) hbig hold hnew;have hrows: ∀w':A6,(∀b,S b->w'.heap[b]? =w.heap[b]?)->_:=fun w' hw'=>b0z (P:=P) (A:=A) (ro:=ro) (E:=E) (w:=w') (S:=S) (sz:=sz) (newCap:=newCap) (rest:=rest) hzl ho1 hn1 hrs hle
    ⟨ho2.1,fun i hi j x u hx hu=>Bu (w:=w.drew) (w':=w') (fun _ h=>h) hw' (ho2.2 i hi j x u hx hu)⟩ ⟨hn2.1,fun i hi j x u hx hu=>Bu (w:=w.drew) (w':=w') (fun _ h=>h) hw' (hn2.2 i hi j x u hx hu)⟩
   have hpush: ∀w':A6,w'.heap=w.heap.push (.cells (old++(new++rest)) e)-> ∀b,S b->w'.heap[b]? =w.heap[b]? :=by intro w' hw' b hb;rw[hw',Aq,if_neg];have:=hs.sblk b hb;omega
   have k:=Chg.move hs hρ hlt (.cells (old++(new++rest)) e) sz (n+m) ((Az P A ro E).app n es es2) newCap (fun w' hw'=>⟨_,e,by rw[hw'];simp,(hrows w' (hpush w' hw')).1,hle,(hrows w' (hpush w' hw')).2⟩);refine⟨_,_,_,_,[l],S,_,.inl (hop _ _ hrun),hk,k.world (w2:=w.drew.alloc (.cells (old++(new++rest)) e)) rfl rfl ⟨rfl,Cu _⟩ rfl,?_⟩;exact .msl _ _ Ag _ Aj (AF w.heap.size) newCap _ _ (by simp) (by simpa using hle) (by simp) (by simp)
theorem d1n {l sz n:Nat}{s:Option Nat}{f:Bool}{K:Nat->Nat->(Nat->List DV)->Prop}(hk:b3s (Az P A ro E) h (.msl l sz s n f) K):
 b3s (Az P A ro E) h (.msl l sz s n f) fun sz2 n2 e=>sz2=sz/\n2=n/\K sz2 n2 e:=by
 simp only[b3s] at hk⊢;split at hk
 ·split at hk
  ·rename_i h1 h2;rw[if_pos h2];exact⟨hk.1,trivial,trivial,hk.2⟩
  ·exact hk.elim
 ·split at hk
  ·rename_i h1 h2;rw[if_pos h2];exact⟨hk.1,trivial,trivial,hk.2⟩
  ·exact hk.elim
 ·exact hk.elim
theorem b5f {t u e e':AX}{X Y:AZ}(hop:o.op= .call {callee:= .builtin .append,args:= #[X,Y],argTypes:= #[t,u]})
 (ht:P.underlying t=AF (.slice e)) (hu:P.underlying u=AF (.slice e')) {sz b:Nat} {zs:List DV} (hsz:a1x P e=AF sz) (hb:a5j P e=AF b) (hb':b<=250) (hz:a5d P e=AF zs) (hzl:zs.length=sz)
 {x y:a0h} {mu:Bool} (hx:a0g X=AF x) (hy:a0g Y=AF y) (hk:a0a (Az P A ro E) (.append sz b x y mu) st K) (hr:Bx E st a w S ρ):Bl P o a w S ρ st.h K:=by
 have h0:=a0t hr.ts hx;have h1:=a0t hr.ts hy;simp only[a0a] at hk;have run: ∀r w',(AM #[t,u] o.type #[a.eval X,a.eval Y]).run P w= .ok r w'->(AU a.eval o).run P w= .ok (.value r) w':=by intro r w' h;simp[AU,hop,Bj,Bv,builtin,h]
 have run: ∀r w',(AM #[t,u] t #[a.eval X,a.eval Y]).run P w= .ok r w'->(AU a.eval o).run P w= .ok (.value r) w':=run;revert h0 h1 hk run;generalize Cy st.ts x=p;generalize Cy st.ts y=q;generalize a.eval X=v;generalize a.eval Y=v2;intro hk h0 h1 run;unfold a2g at hk;have hview: ∀{K:Nat->Nat->(Nat->List DV)->Prop},a8b (Az P A ro E) sz st.h q K-> ∃sz n e a cap,K sz n e/\v2= .slice a n cap/\Els w S sz n e a cap:=by
  intro K hk;unfold a8b at hk;split at hk
  ·exact⟨sz,0,_,Ag,0,hk,h1.nil,.inl rfl⟩
  ·cases h1 with
   |d hd=>
    cases hd with
    |raw _ _=>exact⟨sz,0,_,_,_,hk,rfl,.inl rfl⟩
  ·exact b4z hr.sim h1 hk
 obtain⟨sz2,m,e2,a2,cap2,hk2,hv2,he2⟩:=hview hk;clear hk;have hk:=hk2;clear hk2;split at hk
 ·rename_i hs2;have hs2:=AJ hs2;subst hs2;split at hk
  ·have hv:=h0.nil;obtain⟨hbig,hk⟩:(m<=big)/\_:=hk;by_cases hm:m=0
   ·subst hm;subst hv hv2;obtain⟨new,hnew,hn1,hn2⟩:=a1y (P:=P) he2 (fun _ _ _=>trivial);have hrun:=run _ _ (a5h ht hu hsz hnew);cases mu with
    |true=>simp only[if_true,a0u,a0r] at hk;obtain⟨k,hv⟩:=Chg.nilarr (e:=e2) hr.sim sz;exact⟨_,w,_,_,[],S,_,.inl hrun,hk,k,hv⟩
    |false=>exact .same hr.sim hrun hk (.d (.sl0 sz e2 Ag 0))
   ·have happ:(Az P A ro E).app 0 (fun _=>[]) e2=e2:=by funext j;simp[Az]
    refine a8z (A:=A) (ro:=ro) (E:=E) (mu:=mu) run ht hu hsz hb hb' hz hzl hr.sim hv hv2 (es:=fun _=>[]) Els.zero he2 (by omega) (by simpa using hbig) ?_;rw[happ,A3];cases mu with
    |true=>simpa [a0u,a0r] using hk
    |false=>simpa using hk
  ·rename_i sz' n e1;split at hk
   ·rename_i hs1;have hs1:=AJ hs1;subst hs1;obtain⟨hbig,hm,hk⟩:(n+m<=big)/\(0<m)/\_:=hk;cases h0 with
    |dfs _ _ _ aa hd=>
     have hels:Els w S sz n e1 aa n:=by
      cases hd with
      |sl0 sz e a cap=>exact .inl rfl
      |sl _ _ _ b off cap f hb hc hl hv hr=>exact .inr ⟨b,off,rfl,hc,fun i hi=>⟨hl i hi,fun j hj=>⟨f i j,hv i hi j hj,fun x hx=>hr i hi j x hx⟩⟩⟩
     refine a8z (A:=A) (ro:=ro) (E:=E) (mu:=mu) run ht hu hsz hb hb' hz hzl hr.sim rfl hv2 hels he2 (by omega) hbig ?_;cases mu with
     |true=>simp only[if_true,a0u,a0r] at hk⊢;exact hk
     |false=>exact hk
   ·exact hk.elim
  ·rename_i l sz' n;split at hk
   ·rename_i hs1;have hs1:=AJ hs1;subst hs1;simp only[a0i,a0l] at hk;split at hk
    ·rename_i sz'' n' e1 hl;split at hk
     ·rename_i hs3;have hs3:=AJ hs3;subst hs3;obtain⟨hnn,hbig,hk⟩:(n'=n)/\(n+m<=big)/\_:=hk;subst hnn;exact c0i run ht hu hsz hb hb' hz hzl hr.sim h0 hl hv2 he2 hbig hk
     ·exact hk.elim
    ·exact hk.elim
   ·exact hk.elim
  ·rename_i l sz' s n;split at hk
   ·rename_i hs1;have hs1:=AJ hs1;subst hs1;obtain⟨sz3,n3,e3,a3,cap3,⟨h3,h4,hk4⟩,hv3,he3⟩:=b4z hr.sim h0 (d1n hk);clear hk;have hk:=hk4;clear hk4;subst h3 h4;have hcap:cap3=n3:=by
     cases h0 with
     |msl _ _ _ _ _ ob C cap aa hρ hc hcap ha=>cases hv3;simpa using hcap
    subst hcap;obtain⟨hbig,hm,hk⟩:(_+m<=big)/\(0<m)/\_:=hk;refine a8z (A:=A) (ro:=ro) (E:=E) (mu:=mu) run ht hu hsz hb hb' hz hzl hr.sim hv3 hv2 he3 he2 (by omega) hbig ?_;cases mu with
    |true=>simp only[if_true,a0u,a0r] at hk⊢;exact hk
    |false=>exact hk
   ·exact hk.elim
  ·exact hk.elim
 ·exact hk.elim
def i4h (w:A6)(S:Nat->Prop)(ρ:Co)(l:List AV)(a:Option B8)(cap:Nat):Prop:=
 l=[]\/ ∃b off,a=AF ⟨b,off,Ag⟩/\l.length<=cap/\ ∀(i:Nat) (x:AV),l[i]? =AF x-> ∃u,w.cell? ⟨b,off+i,Ag⟩=AF u/\VR w S ρ x u
theorem i3q {e:Nat->List DV}: ∀{n:Nat} {l:List AV},b2m e n=AF l->l.length=n/\ ∀i x,l[i]? =AF x-> ∃y,x= .d y/\e i=[y]:=by
 intro n
 induction n with
 |zero=>intro l h;simp[b2m] at h;subst h;simp
 |succ n ih=>
  intro l h;unfold b2m at h;split at h
  ·rename_i l0 hl0;split at h
   ·rename_i y hy;cases h;obtain⟨h1,h2⟩:=ih hl0;refine⟨by simp[a0r,h1],fun i x hx=> ?_⟩;rw[a0r] at hx;by_cases hi:i<l0.length
    ·rw[AE hi] at hx;exact h2 i x hx
    ·rw[AD (by omega)] at hx;have:i-l0.length=0:=by have:=(AB.1 hx).1;simpa using this
     rw[this] at hx;simp at hx;subst hx;exact⟨y,rfl,by rw[show i=n by omega];exact hy⟩
   ·cases h
  ·cases h
theorem i1i {y:AV}{v:AN}{K:List AV->Prop}(hs:Cm w S ρ h)(h0:VR w S ρ y v)(hk:h9v h y K):
 ∃l a cap,K l/\v= .slice a l.length cap/\i4h w S ρ l a cap:=by
 unfold h9v at hk;split at hk
 ·exact⟨[],Ag,0,hk,h0.nil,.inl rfl⟩
 ·rename_i n e;split at hk
  ·rename_i l hl;obtain⟨h1,h2⟩:=i3q hl;cases h0 with
   |d hd=>
    cases hd with
    |sl0 sz e a cap=>
     have:l=[]:=by simpa using h1
     subst this;exact⟨[],a,cap,hk,rfl,.inl rfl⟩
    |sl _ _ _ b off cap f hb hc hl hv hr=>
     refine⟨l,_,cap,hk,by rw[h1],.inr ⟨b,off,rfl,by omega,fun i x hx=> ?_⟩⟩;have hi:i<n:=by have:=(AB.1 hx).1;omega
     obtain⟨y,rfl,hy⟩:=h2 i x hx;refine⟨f i 0,by simpa using hv i hi 0 (by omega),.d (hr i hi 0 y (by rw[hy];rfl))⟩
  ·exact hk.elim
 ·rename_i l s n f;split at hk
  ·rename_i vals hl;rw[a0i] at hl;split at hk
   ·rename_i c hc;obtain⟨c1,c2⟩:=c0t _ _ _ _ hc;cases h0 with
    |msl _ _ _ _ _ ob C cap aa hρ hc' hcap ha=>
     obtain⟨oo,h1,h2⟩:=hs.obj l ob C hρ;rw[hl] at h1;cases h1;cases ob with
     |none=>obtain⟨_,sz',e',h3|h3⟩:=h2<;>cases h3
     |some b=>
      obtain⟨vs,ty,h3,h4,h5,h6⟩:=h2;refine⟨c,aa,cap,hk,by rw[c1],?_⟩;by_cases hn:n=0
      ·exact .inl (Au.1 (by omega))
      ·have hcp:0<cap:=by rw[hcap];split<;>omega
       refine .inr ⟨b,s.getD 0,by simpa using ha hcp,by rw[c1,hcap];split<;>omega,fun i x hx=> ?_⟩;have hi:i<n:=by have:=(AB.1 hx).1;omega
       rw[c2 i hi] at hx;have hst:c2c s=s.getD 0:=by cases s<;>rfl
       rw[hst] at hx;have hlt:=(AB.1 hx).1;have hlt2:s.getD 0+i<vs.size:=by omega
       refine⟨vs[s.getD 0+i]'hlt2,?_,h6 _ x _ hx (by simp[hlt2])⟩;rw[Cz h3];simp[hlt2]
   ·exact hk.elim
  ·exact hk.elim
 ·exact hk.elim
theorem i4h.drew {l:List AV}{aa:Option B8}{cap:Nat}(h:i4h w S ρ l aa cap):i4h w.drew S ρ l aa cap:=by
 rcases h with h|⟨b,off,h1,h2,h3⟩
 ·exact .inl h
 ·refine .inr ⟨b,off,h1,h2,fun i x hx=> ?_⟩;obtain⟨u,h4,h5⟩:=h3 i x hx;exact⟨u,h4,VR.mono (w:=w) (w':=w.drew) (fun _ h=>h) (fun _ _=>rfl) (fun _ _ h=>h) h5⟩
theorem h5p {l:List AV}{aa:Option B8}{cap:Nat}(he:i4h w S ρ l aa cap):
 ∃cs:Array AN,(A5 1 l.length (.slice aa l.length cap)).run P w= .ok cs w/\cs.size=l.length/\
  ∀(i:Nat) (x:AV) (u:AN),l[i]? =AF x->cs[i]? =AF u->VR w S ρ x u:=by
 rcases he with hn|⟨b,off,rfl,hc,h1⟩
 ·subst hn;refine⟨#[],?_,by simp,fun i x u hx=>by simp at hx⟩;cases aa with
  |none=>simp[A5]
  |some x=>simp[A5,loadCells,loadCellsFrom]
 ·have hex: ∀k,∃u,k<l.length->w.cell? ⟨b,off+k,Ag⟩=AF u/\ ∀x,l[k]? =AF x->VR w S ρ x u:=by
   intro k;by_cases hk:k<l.length
   ·obtain⟨u,hu,hr⟩:=h1 k _ (AS hk);exact⟨u,fun _=>⟨hu,fun x hx=>by rw[AS hk] at hx;cases hx;exact hr⟩⟩
   ·exact⟨CX,fun h=>absurd h hk⟩
  have hch:=fun k=>(hex k).choose_spec;have hrun:=run_loadCells (P:=P) w ⟨b,off,Ag⟩ (l.length*1) (fun k=>(hex k).choose) (fun k hk=>by rw[a1n];exact (hch k (by omega)).1);refine⟨_,by simpa [A5] using hrun,by simp,fun i x u hx hu=> ?_⟩;have hlt:i<l.length:=(AB.1 hx).1;simp only[Bk,Af,Ad,Bm hlt,A7,AC] at hu;subst hu;exact (hch i hlt).2 x hx
theorem h7j {t u e e':AX}{b:Nat}{zs:List DV}{v v2:AN}{l:Nat}{vals new:List AV}{a2:Option B8}{cap2:Nat}
 (hop: ∀r w',(AM #[t,u] t #[v,v2]).run P w= .ok r w'->(AU a.eval o).run P w= .ok (.value r) w')
 (ht:P.underlying t=AF (.slice e)) (hu:P.underlying u=AF (.slice e')) (hsz:a1x P e=AF 1) (hb:a5j P e=AF b) (hb':b<=250) (hz:a5d P e=AF zs) (hzl:zs.length=1)
 (hs:Cm w S ρ h) (hv:VR w S ρ (.msl l 1 Ag vals.length Aj) v) (hl:h[l]? =AF (.arrv vals)) (hv2:v2= .slice a2 new.length cap2) (he2:i4h w S ρ new a2 cap2) (hbig:vals.length+new.length<=big) (hon:b5z new=An)
 (hk:K (.msl l 1 Ag (vals.length+new.length) Aj) (a2n l Aj (h.set l (.arrv (vals++new)))) [l]):
 Bl P o a w S ρ h K:=by
 subst hv2;have hlt:=(AB.1 hl).1;cases hv with
 |msl _ _ _ _ _ ob C cap aa hρ hc hcap ha=>
  obtain⟨oo,h1,h2⟩:=hs.obj l ob C hρ;rw[hl] at h1;cases h1;simp at hcap hc ha;subst hcap;cases ob with
  |none=>obtain⟨_,sz',e',h3|h3⟩:=h2<;>cases h3
  |some b0=>
   obtain⟨vs,ty,h4,h5,h5',h6⟩:=h2;obtain⟨hn0,hszr⟩:=a1s hsz;by_cases hroom:vals.length+new.length<=cap
   ·obtain⟨cs,hnew,hn1,hn2⟩:=h5p (P:=P) he2;have hone: ∀v,v∈cs.toList->v.oneCell'=An:=by
     intro v hv;obtain⟨k,hk1,rfl⟩:=BU hv;have hk2:k<new.length:=by simpa [hn1] using hk1
     exact e1z (hn2 k new[k] _ (by simp[hk2]) (by simp at hk1;simp[hk1])) (d5p hon _ (List.getElem_mem hk2))
    have hcl:cs.toList.length=new.length:=by simpa using hn1
    by_cases hcp:0<cap
    ·have haa:=ha hcp;subst haa;have hrun:=a5o (P:=P) (b:=b0) (off:=0) ht hu hsz hroom hnew h4 (by rw[h5,hn1];omega) hone;simp only[A3,Bk] at hrun;obtain⟨s1,s2,s3,s4,s5,s6⟩:=a7p (cs:=(vs.toList.take vals.length++cs.toList++vs.toList.drop (vals.length+cs.toList.length)).toArray) h4;have hS: ∀k,S k->(w.setRow b0 (vs.toList.take vals.length++cs.toList++vs.toList.drop (vals.length+cs.toList.length)).toArray).heap[k]? =w.heap[k]? :=
      fun k hk=>s6 k (fun e=>hs.own l b0 cap _ hρ hl rfl (e▸hk))
     have hsize:((vs.toList.take vals.length++cs.toList++vs.toList.drop (vals.length+cs.toList.length)).toArray).size=cap:=by simp only[BM,AQ,AO,A4,AW] at hcl⊢;omega
     have k:=Chg.set hs hρ hl rfl s1 s2 s3 s4 s6 (o':= .arrv (vals++new)) ⟨_,ty,s5,hsize,by simpa using hroom,fun i x u hx hu=> ?_⟩
     ·refine⟨_,_,_,_,[l],S,ρ,.inl (hop _ _ hrun),hk,(k.forgot l).purged [l],.msl l 1 Ag _ Aj (AF b0) cap cap _ hρ (by simpa using hroom) (by simp) (by simp)⟩
     ·refine VR.mono (w:=w) (fun _ h=>h) hS (fun _ _ h=>h) (S:=S) (ρ:=ρ) ?_;simp only[Af] at hu;by_cases i1:i<vals.length
      ·rw[AE i1] at hx;rw[AY,AE (by simp;omega),Ab i1] at hu;exact h6 i x u hx (by simpa using hu)
      ·rw[AD (by omega)] at hx;have i2:=(AB.1 hx).1;rw[AY,AD (by simp;omega),AE (by simp at*;omega)] at hu;rw[show i-(CF vals.length vs.toList).length=i-vals.length by simp;omega] at hu;exact hn2 _ x u hx (by simpa using hu)
    ·have hC:cap=0:=by omega
     subst hC;have hn:vals=[]:=Au.1 (by omega);have hm:new=[]:=Au.1 (by omega);subst hn hm;have hnl:cs.toList=[]:=Au.1 (by simpa using hcl);have hrun:(AM #[t,u] t #[.slice aa 0 0,.slice a2 0 cap2]).run P w= .ok (.slice aa 0 0) w:=by
      simp only[List.length_nil] at hnew;cases aa with
      |none=>simp[AM,AI ht,AI hu,hszr,Ao,hnew]
      |some pa=>simp[AM,AI ht,AI hu,hszr,Ao,hnew,hnl,BS]
     have k:=Chg.set hs hρ hl rfl (w':=w) rfl ⟨rfl,AK _⟩ rfl rfl (fun _ _=>rfl) (o':= .arrv ([]++[])) ⟨vs,ty,h4,h5,by simp,fun i x u hx=>by simp at hx⟩;exact⟨_,w,_,_,[l],S,ρ,.inl (hop _ _ hrun),hk,(k.forgot l).purged [l],.msl l 1 Ag _ Aj (AF b0) 0 0 aa hρ (by simp) (by simp) (by simp)⟩
   ·have hels:i4h w S ρ vals aa cap:=by
     by_cases hn:vals=[]
     ·exact .inl hn
     ·have hpos:0<vals.length:=List.length_pos_iff.2 hn;refine .inr ⟨b0,0,by simpa using ha (by omega),by omega,fun i x hx=> ?_⟩;have hi:=(AB.1 hx).1;have hlt2:i<vs.size:=by omega
      refine⟨vs[i]'hlt2,?_,h6 i x _ hx (by simp[hlt2])⟩;rw[Cz h4];simp[hlt2]
    obtain⟨old,hold,ho1,ho2⟩:=h5p (P:=P) hels.drew;obtain⟨cs,hnew,hn1,hn2⟩:=h5p (P:=P) he2.drew;obtain⟨newCap,rest,hle,hrs,hrun⟩:=a6j ht hu hsz hb hb' hz (by omega) hbig hold hnew;have hpush: ∀w':A6,w'.heap=w.heap.push (.cells (old++(cs++rest)) e)-> ∀b,S b->w'.heap[b]? =w.heap[b]? :=by intro w' hw' b hb;rw[hw',Aq,if_neg];have:=hs.sblk b hb;omega
    have hsize:(old++(cs++rest)).size=newCap:=by rw[CQ,CQ,ho1,hn1,hrs,hzl];omega
    have k:=Chg.moveO hs hρ hlt (.cells (old++(cs++rest)) e) (.arrv (vals++new)) rfl newCap (fun w' hw'=>by
     refine⟨old++(cs++rest),e,by rw[hw'];simp,hsize,by simpa using hle,fun i x u hx hu=> ?_⟩;by_cases i1:i<vals.length
     ·rw[AE i1] at hx;rw[BW (by omega)] at hu;exact VR.mono (w:=w.drew) (w':=w') (fun _ h=>h) (hpush w' hw') (fun _ _ h=>h) (ho2 i x u hx hu)
     ·rw[AD (by omega)] at hx;have i2:=(AB.1 hx).1;rw[Bz (by omega),BW (by omega),ho1] at hu;exact VR.mono (w:=w.drew) (w':=w') (fun _ h=>h) (hpush w' hw') (fun _ _ h=>h) (hn2 _ x u hx hu))
    refine⟨_,_,_,_,[l],S,_,.inl (hop _ _ hrun),hk,k.world (w2:=w.drew.alloc (.cells (old++(cs++rest)) e)) rfl rfl ⟨rfl,Cu _⟩ rfl,?_⟩;exact .msl _ _ Ag _ Aj (AF w.heap.size) newCap _ _ (by simp) (by simpa using hle) (by simp) (by simp)
theorem i1k {t u e e':AX}{X Y:AZ}(hop:o.op= .call {callee:= .builtin .append,args:= #[X,Y],argTypes:= #[t,u]})
 (ht:P.underlying t=AF (.slice e)) (hu:P.underlying u=AF (.slice e')) {b:Nat} {zs:List DV} (hsz:a1x P e=AF 1) (hb:a5j P e=AF b) (hb':b<=250) (hz:a5d P e=AF zs) (hzl:zs.length=1)
 {x y:a0h} (hx:a0g X=AF x) (hy:a0g Y=AF y) (hk:a0a (Az P A ro E) (.appendV b x y) st K) (hr:Bx E st a w S ρ):Bl P o a w S ρ st.h K:=by
 have h0:=a0t hr.ts hx;have h1:=a0t hr.ts hy;simp only[a0a] at hk;have run: ∀r w',(AM #[t,u] o.type #[a.eval X,a.eval Y]).run P w= .ok r w'->(AU a.eval o).run P w= .ok (.value r) w':=by intro r w' h;simp[AU,hop,Bj,Bv,builtin,h]
 have run: ∀r w',(AM #[t,u] t #[a.eval X,a.eval Y]).run P w= .ok r w'->(AU a.eval o).run P w= .ok (.value r) w':=run;unfold h4i at hk;obtain⟨new,a2,cap2,hk,hv2,he2⟩:=i1i hr.sim h1 hk;revert h0 hk;generalize Cy st.ts x=p;intro h0 hk;split at hk
 ·rename_i l n;simp only[a0i,a0l,a0r,a0u] at hk;split at hk
  ·rename_i vals hl;obtain⟨hn,hbig,hon,hk⟩:(vals.length=n)/\(n+new.length<=big)/\(b5z new=An)/\_:=hk;subst hn;exact h7j run ht hu hsz hb hb' hz hzl hr.sim h0 hl hv2 he2 hbig hon hk
  ·exact hk.elim
 ·exact hk.elim
end
section
variable {P:CG} {A:Ann} {ro:Option Nat} {E:Ent} {c:Nat} {o:Oper} {io:IOp} {st:St} {K:AV->List a0f->List Nat->Prop}
 {a:Cw} {w:A6} {S:Nat->Prop} {ρ:Co} {h:List a0f}
theorem a3b {t e:AX}{sz:Nat}(ht:P.underlying t=AF (.slice e))(hsz:a1x P e=AF sz){aa:Option B8}{len cap L H M:Nat}{lv hv mv:Option AN}
 (hL:(lv=Ag/\L=0)\/lv=AF (.int .i64 L)) (hH:(hv=Ag/\H=len/\mv=Ag)\/hv=AF (.int .i64 H)) (hM:(mv=Ag/\M=cap)\/mv=AF (.int .i64 M))
 (h1:L<=H) (h2:H<=M) (h3:M<=cap):
 (BF t (.slice aa len cap) lv hv mv).run P w= .ok (.slice (if M=L then aa else aa.map (·.add (L*sz))) (H-L) (M-L)) w:=by
 obtain⟨hn0,hszr⟩:=a1s hsz;have bnd: ∀(i n:Nat) (code:DJ),i<=n->(Bb (.int .i64 i) n code).run P w= .ok i w:=by
  intro i n code hi;have:((0:Int)<=(i:Int))/\((i:Int)<=(n:Int)):=by omega
  simp[Bb,Cl,this]
 have hb:(BL An len cap lv hv mv).run P w= .ok (L,H,M) w:=by
  rcases hM with⟨rfl,rfl⟩|rfl<;>rcases hH with⟨rfl,rfl,hm⟩|rfl<;>rcases hL with⟨rfl,rfl⟩|rfl<;>
   first|(cases hm;done)|simp[BL,bnd _ _ _ h1,bnd _ _ _ h2,bnd _ _ _ h3]
 simp only[BF,Bs,AI ht,BZ];simp[Instr.slice,AI ht,hb,hszr]
theorem a4q {ts:List AV}(hts:Cb w S ρ ts a.tmps){X:Option AZ}{x:Option a0h}(hx:a1z X=AF x){d:IX}{K:IX->Prop}(hk:b0u ts x d K):
 ∃n:IX,K n/\((X=Ag/\n=d)\/X.map a.eval=AF (.int .i64 n.val)):=by
 cases X with
 |none=>simp[a1z] at hx;subst hx;exact⟨d,hk,.inl ⟨rfl,rfl⟩⟩
 |some X=>simp[a1z,AA] at hx;obtain⟨y,hy,rfl⟩:=hx;obtain⟨n,hn,hk⟩:=a6l (a0t hts hy) hk;exact⟨n,hk,.inr (by simp[hn])⟩
theorem a2h (s:Option Nat)(lo:IX):(a6q (Az P A ro E) s lo).getD 0=s.getD 0+lo.val.toNat:=by
 unfold a6q;split
 ·simp[Bg]
 ·split
  ·simp[a0o]
  ·show _+nat (Az P A ro E) lo=_;rw[a0o];rfl
theorem c5m (e:Nat->List DV)(lo:IX):shiftL (Az P A ro E) e lo=fun j=>e (lo.val.toNat+j):=by
 unfold shiftL;split
 ·funext j;simp[Bg]
 ·funext j;show e (nat (Az P A ro E) lo+j)=_;rw[a0o]
theorem d8l {t e:AX}{X:AZ}{LO HI MX:Option AZ}(hop:o.op= .slice t X LO HI MX)(ht:P.underlying t=AF (.slice e)){sz:Nat}(hsz:a1x P e=AF sz)
 {x:a0h} {lo hi mx:Option a0h} (hx:a0g X=AF x) (hlo:a1z LO=AF lo) (hhi:a1z HI=AF hi) (hmx:a1z MX=AF mx) (hnm:HI=Ag->MX=Ag)
 (hk:a0a (Az P A ro E) (.slice sz x lo hi mx) st K) (hr:Bx E st a w S ρ):Bl P o a w S ρ st.h K:=by
 have h0:=a0t hr.ts hx;simp only[a0a] at hk;have run: ∀{v r:AN},a.eval X=v->(BF t v (LO.map a.eval) (HI.map a.eval) (MX.map a.eval)).run P w= .ok r w->(AU a.eval o).run P w= .ok (.value r) w:=by intro v r hv h;simp[AU,hop,hv,h]
 revert h0 hk run;generalize Cy st.ts x=p;generalize a.eval X=v;intro hk h0 run;have run: ∀{r:AN},(BF t v (LO.map a.eval) (HI.map a.eval) (MX.map a.eval)).run P w= .ok r w->(AU a.eval o).run P w= .ok (.value r) w:=fun h=>run rfl h;have optn: ∀{MX:Option AZ} {mx:Option a0h},a1z MX=AF mx->(mx=Ag↔MX=Ag):=by
  intro MX mx h;cases MX with
  |none=>simp[a1z] at h;simp[<-h]
  |some M=>simp[a1z,AA] at h;obtain⟨y,_,rfl⟩:=h;simp
 unfold a1d at hk;split at hk
 ·rename_i l sz' s n f;split at hk
  ·rename_i hs;have hs:=AJ hs;subst hs;obtain⟨L,hk1,hL⟩:=a4q hr.ts hlo hk;obtain⟨H,hk2,hH⟩:=a4q hr.ts hhi hk1;clear hk hk1;obtain⟨g1,g2,g3,hk⟩:(0<=L.val)/\(L.val<=H.val)/\(H.val<=(n:Int))/\_:=hk2;cases h0 with
   |msl _ _ _ _ _ ob C cap aa hρ hc hcap ha=>
    have hLn:((L.val.toNat:Nat):Int)=L.val:=Ai g1;have hHn:((H.val.toNat:Nat):Int)=H.val:=Ai (by omega);have hL':(LO.map a.eval=Ag/\L.val.toNat=0)\/LO.map a.eval=AF (.int .i64 (L.val.toNat:Nat)):=by
     rcases hL with⟨h1,h2⟩|h1
     ·left;simp[h1,h2,Bg]
     ·right;rw[h1,hLn]
    have hH':(HI.map a.eval=Ag/\H.val.toNat=n/\MX.map a.eval=Ag)\/HI.map a.eval=AF (.int .i64 (H.val.toNat:Nat)):=by
     rcases hH with⟨h1,h2⟩|h1
     ·left;exact⟨by simp[h1],by simp[h2,Bg,Az],by simp[hnm h1]⟩
     ·right;rw[h1,hHn]
    have hncap:n<=cap:=by rw[hcap];split<;>omega
    have addr: ∀{M:Nat},L.val.toNat<=H.val.toNat->M<=cap->0<M-L.val.toNat->(if M=L.val.toNat then aa else aa.map (·.add (L.val.toNat*sz)))=ob.map fun b=>⟨b,(a6q (Az P A ro E) s L).getD 0*sz,Ag⟩:=by
     intro M h1 h2 h3;rw[if_neg (by omega),ha (by omega),a2h];cases ob with
     |none=>rfl
     |some b=>simp[a1n,Ac]
    split at hk
    ·have hM0:=(optn hmx).1 rfl;have hrun:=fun h2=>a3b (w:=w) ht hsz (aa:=aa) hL' hH' (.inl ⟨by simp[hM0],rfl⟩) (by omega) h2 (AK cap);split at hk
     ·rename_i hf;subst hf;obtain⟨g4,hk⟩:(H.val=(n:Int))/\_:=hk;simp at hcap;refine .same hr.sim (run (hrun (by omega))) hk ?_;rw[a0o,a0o];exact .msl l sz _ _ An ob C _ _ hρ (by rw[a2h];simp only[Az];omega) (by simp only[Az,if_true];omega) (fun h5=>addr (by omega) (AK _) h5)
     ·rename_i hf;have hf:f=Aj:=by simpa using hf
      subst hf;simp at hcap;refine .same hr.sim (run (hrun (by omega))) hk ?_;rw[a0o,a0o];exact .msl l sz _ _ Aj ob C _ _ hρ (by rw[a2h];simp only[Az];omega) (by rw[a2h];simp;omega) (fun h5=>addr (by omega) (AK _) h5)
    ·rename_i m;obtain⟨M,hMk,hk⟩: ∃M:IX,MX.map a.eval=AF (.int .i64 M.val)/\(M.val=H.val/\K (.msl l sz (a6q (Az P A ro E) s L) ((Az P A ro E).nsub (nat (Az P A ro E) H) (nat (Az P A ro E) L)) An) st.h []):=by
      cases MX with
      |none=>simp[a1z] at hmx
      |some M=>simp[a1z,AA] at hmx;obtain⟨n',hn',hk⟩:=a6l (a0t hr.ts hmx) hk;exact⟨n',by simp[hn'],hk⟩
     obtain⟨g4,hk⟩:=hk;have hrun:=a3b (w:=w) ht hsz (aa:=aa) (len:=n) (cap:=cap) (M:=H.val.toNat) hL' hH' (.inr (by rw[hMk,g4,hHn])) (by omega) (AK _) (by omega);refine .same hr.sim (run hrun) hk ?_;rw[a0o,a0o];exact .msl l sz _ _ An ob C _ _ hρ (by rw[a2h];simp only[Az];omega) (by simp only[Az,if_true]) (fun h5=>addr (by omega) (by omega) h5)
  ·exact hk.elim
 ·rename_i sz' n e1;split at hk
  ·rename_i hs;have hs:=AJ hs;subst hs;obtain⟨L,hk1,hL⟩:=a4q hr.ts hlo hk;obtain⟨H,hk2,hH⟩:=a4q hr.ts hhi hk1;clear hk hk1;obtain⟨g1,g2,g3,hk⟩:(0<=L.val)/\(L.val<=H.val)/\(H.val<=(n:Int))/\_:=hk2;have hLn:((L.val.toNat:Nat):Int)=L.val:=Ai g1;have hHn:((H.val.toNat:Nat):Int)=H.val:=Ai (by omega);have hL':(LO.map a.eval=Ag/\L.val.toNat=0)\/LO.map a.eval=AF (.int .i64 (L.val.toNat:Nat)):=by
    rcases hL with⟨h1,h2⟩|h1
    ·left;simp[h1,h2,Bg]
    ·right;rw[h1,hLn]
   have hH':(HI.map a.eval=Ag/\H.val.toNat=n/\MX.map a.eval=Ag)\/HI.map a.eval=AF (.int .i64 (H.val.toNat:Nat)):=by
    rcases hH with⟨h1,h2⟩|h1
    ·left;exact⟨by simp[h1],by simp[h2,Bg,Az],by simp[hnm h1]⟩
    ·right;rw[h1,hHn]
   rw[c5m] at hk;cases h0 with
   |d hd=>
    have cut: ∀{aa:Option B8} {cap M:Nat},C7 w S (.sl sz n e1) (.slice aa n cap)->n<=cap->H.val.toNat<=M->M<=cap->
     C7 w S (.sl sz (H.val.toNat-L.val.toNat) fun j=>e1 (L.val.toNat+j)) (.slice (if M=L.val.toNat then aa else aa.map (·.add (L.val.toNat*sz))) (H.val.toNat-L.val.toNat) (M-L.val.toNat)):=by
     intro aa cap M hd hnc h1 h2;by_cases h3:H.val.toNat-L.val.toNat=0
     ·rw[h3];exact .sl0 _ _ _ _
     ·rw[if_neg (by omega)];cases hd with
      |sl0 sz e a cap=>omega
      |sl _ _ _ b off _ f hb hc hl hv hrr=>simp only[A7,a1n];refine .sl sz _ _ b _ _ (fun i j=>f (L.val.toNat+i) j) (fun _=>hb (by omega)) (by omega) (fun i hi=>hl _ (by omega)) (fun i hi j hj=> ?_) (fun i hi j x hx=>hrr _ (by omega) j x hx);rw[<-hv (L.val.toNat+i) (by omega) j hj,Ac];congr 3;omega
    have shape: ∃aa cap,v= .slice aa n cap/\n<=cap:=by
     cases hd with
     |sl0 sz e a cap=>exact⟨a,cap,rfl,Ct _⟩
     |sl _ _ _ b off cap f hb hc hl hv hrr=>exact⟨_,cap,rfl,hc⟩
    obtain⟨aa,cap,rfl,hnc⟩:=shape;split at hk
    ·have hM0:=(optn hmx).1 rfl;have hrun:=a3b (w:=w) ht hsz (aa:=aa) hL' hH' (.inl ⟨by simp[hM0],rfl⟩) (by omega) (by omega) (AK cap);refine .same hr.sim (run hrun) hk (.d ?_);rw[a0o,a0o];exact cut hd hnc (by omega) (AK _)
    ·rename_i m;obtain⟨M,hMk,hk⟩: ∃M:IX,MX.map a.eval=AF (.int .i64 M.val)/\(M.val=H.val/\K (.dfs sz ((Az P A ro E).nsub (nat (Az P A ro E) H) (nat (Az P A ro E) L)) fun j=>e1 (L.val.toNat+j)) st.h []):=by
      cases MX with
      |none=>simp[a1z] at hmx
      |some M=>simp[a1z,AA] at hmx;obtain⟨n',hn',hk⟩:=a6l (a0t hr.ts hmx) hk;exact⟨n',by simp[hn'],hk⟩
     obtain⟨g4,hk⟩:=hk;have hrun:=a3b (w:=w) ht hsz (aa:=aa) (len:=n) (cap:=cap) (M:=H.val.toNat) hL' hH' (.inr (by rw[hMk,g4,hHn])) (by omega) (AK _) (by omega);refine .same hr.sim (run hrun) hk ?_;rw[a0o,a0o];exact .dfs sz _ _ _ (cut hd hnc (AK _) (by omega))
  ·exact hk.elim
 ·obtain⟨L,hk1,hL⟩:=a4q hr.ts hlo hk;obtain⟨H,hk2,hH⟩:=a4q hr.ts hhi hk1;clear hk hk1;obtain⟨g1,g2,hk⟩:(L.val=0)/\(H.val=0)/\_:=hk2;have hnil:=h0.nil;subst hnil;have hL':(LO.map a.eval=Ag/\0=0)\/LO.map a.eval=AF (.int .i64 ((0:Nat):Int)):=by
   rcases hL with⟨h1,h2⟩|h1
   ·left;simp[h1]
   ·right;rw[h1,g1];rfl
  have hH':(HI.map a.eval=Ag/\0=0/\MX.map a.eval=Ag)\/HI.map a.eval=AF (.int .i64 ((0:Nat):Int)):=by
   rcases hH with⟨h1,h2⟩|h1
   ·left;exact⟨by simp[h1],rfl,by simp[hnm h1]⟩
   ·right;rw[h1,g2];rfl
  have hM':((MX.map a.eval=Ag/\0=0)\/MX.map a.eval=AF (.int .i64 ((0:Nat):Int)))/\K (.d .nil) st.h []:=by
   cases MX with
   |none=>simp[a1z] at hmx;subst hmx;exact⟨.inl ⟨rfl,rfl⟩,hk⟩
   |some M=>simp[a1z,AA] at hmx;obtain⟨y,hy,rfl⟩:=hmx;obtain⟨n',hn',hk⟩:=a6l (a0t hr.ts hy) hk;obtain⟨g3,hk⟩:(n'.val=0)/\_:=hk;exact⟨.inr (by simp[hn',g3]),hk⟩
  have hrun:=a3b (w:=w) ht hsz (aa:=Ag) (len:=0) (cap:=0) (L:=0) (H:=0) (M:=0) hL' hH' hM'.1 (AK _) (AK _) (AK _);exact .same hr.sim (run hrun) hM'.2 (.d .nil)
 ·exact hk.elim
theorem c4d {n L H:Nat}{lv hv:Option AN}(hL:(lv=Ag/\L=0)\/lv=AF (.int .i64 L))(hH:(hv=Ag/\H=n)\/hv=AF (.int .i64 H))(h1:L<=H)(h2:H<=n):
 (BL Aj n n lv hv Ag).run P w= .ok (L,H,n) w:=by
 have bnd: ∀(i n:Nat) (code:DJ),i<=n->(Bb (.int .i64 i) n code).run P w= .ok i w:=by
  intro i n code hi;have:((0:Int)<=(i:Int))/\((i:Int)<=(n:Int)):=by omega
  simp[Bb,Cl,this]
 rcases hH with⟨rfl,rfl⟩|rfl<;>rcases hL with⟨rfl,rfl⟩|rfl<;>simp[BL,bnd _ _ _ h1,bnd _ _ _ h2]
theorem d8b {t e:AX}{n:Nat}{X:AZ}{LO HI:Option AZ}(hop:o.op= .slice t X LO HI Ag)(ht:P.underlying t=AF (.array n e)){x:a0h}{lo hi:Option a0h}(hx:a0g X=AF x)
 (hlo:a1z LO=AF lo) (hhi:a1z HI=AF hi)
 (hk:a0a (Az P A ro E) (.slarr n x lo hi) st K) (hr:Bx E st a w S ρ) (hsz:b1y P e=AF 1):Bl P o a w S ρ st.h K:=by
 have h0:=a0t hr.ts hx;have hs:(sizeOf e).run P w= .ok 1 w:=by simp[b1y] at hsz;obtain⟨i,hi,hi1⟩:=hsz;simp[sizeOf,typeInfo,hi,hi1]
 simp only[a0a] at hk;split at hk
 ·rename_i l off e1;rw[e1] at h0;obtain⟨L,hk1,hL⟩:=a4q hr.ts hlo hk;obtain⟨H,hk2,hH⟩:=a4q hr.ts hhi hk1;clear hk hk1;obtain⟨g1,g2,g3,hk⟩:(0<=L.val)/\(L.val<=H.val)/\(H.val<=(n:Int))/\_:=hk2;have hLn:((L.val.toNat:Nat):Int)=L.val:=Ai g1;have hHn:((H.val.toNat:Nat):Int)=H.val:=Ai (by omega);have hb:(BL Aj n n (LO.map a.eval) (HI.map a.eval) Ag).run P w= .ok (L.val.toNat,H.val.toNat,n) w:=by
   have hL':(LO.map a.eval=Ag/\L.val.toNat=0)\/LO.map a.eval=AF (.int .i64 (L.val.toNat:Nat)):=by
    rcases hL with⟨h1,h2⟩|h1
    ·left;simp[h1,h2,Bg]
    ·right;rw[h1,hLn]
   have hH':(HI.map a.eval=Ag/\H.val.toNat=n)\/HI.map a.eval=AF (.int .i64 (H.val.toNat:Nat)):=by
    rcases hH with⟨h1,h2⟩|h1
    ·left;exact⟨by simp[h1],by simp[h2,Bg]⟩
    ·right;rw[h1,hHn]
   exact c4d hL' hH' (by omega) (by omega)
  cases h:a.eval X with
  |pointer pa=>
   rw[h] at h0;cases h0 with
   |ptr _ _ b C hρ=>
    have hrun:(AU a.eval o).run P w= .ok (.value (.slice (AF (if n=L.val.toNat then⟨b,off,Ag⟩ else (⟨b,off,Ag⟩:B8).add (L.val.toNat*1))) (H.val.toNat-L.val.toNat) (n-L.val.toNat))) w:=by simp[AU,hop,h,BF,AI ht,Instr.sureAddr,hb,hs]
    rw[a0o,a0o] at hk;have hk:match H.val.toNat-L.val.toNat with
     |0=>K (.d (.sl 1 0 fun _=>[])) st.h []
     |m+1=>K (.vsl l (off+L.val.toNat) (m+1)) st.h []:=hk
    split at hk
    ·rename_i h0;rw[h0] at hrun;exact .same hr.sim hrun hk (.d (.sl0 1 _ _ _))
    ·rename_i m h0;rw[if_neg (by omega),h0] at hrun;refine .same hr.sim hrun hk ?_;rw[a1n,Bk];exact .vsl l (off+L.val.toNat) (m+1) b C _ hρ (by omega)
  |_=>rw[h] at h0;cases h0
 ·exact hk.elim
end
section
variable {P:CG} {A:Ann} {ro:Option Nat} {E:Ent} {c:Nat} {o:Oper} {io:IOp} {st:St} {K:AV->List a0f->List Nat->Prop}
 {a:Cw} {w:A6} {S:Nat->Prop} {ρ:Co} {h:List a0f}
theorem a2d {b:Builtin}{args:Array AZ}{tys:Array AX}(hop:o.op= .call {callee:= .builtin b,args,argTypes:=tys}):
 ∃cs,AU a.eval o=builtin b tys o.type cs (args.map a.eval):=by
 exact⟨_,by simp[AU,hop,Bj,Bv];rfl⟩
theorem e9h {t e:AX}{X:AZ}(hop:o.op= .call {callee:= .builtin .len,args:= #[X],argTypes:= #[t]})(ht:P.underlying t=AF (.slice e))
 {x:a0h} (hx:a0g X=AF x) (hk:a0a (Az P A ro E) (.len x) st K) (hr:Bx E st a w S ρ):Bl P o a w S ρ st.h K:=by
 have h0:=a0t hr.ts hx;obtain⟨cs,hex⟩:=a2d (a:=a) hop;simp only[a0a] at hk;have sl: ∀{aa:Option B8} {n cap:Nat},a.eval X= .slice aa n cap->K (.d (.int .i64 (.v n))) st.h []->Bl P o a w S ρ st.h K:=by intro aa n cap hv hk;exact .same hr.sim (v:= .int .i64 n) (by rw[hex];simp[builtin,B7,AI ht,hv,CO]) hk (.d (.int .i64 (.v n)))
 split at hk
 ·rename_i e1;rw[e1] at h0;exact .same hr.sim (v:= .int .i64 0) (by rw[hex];simp[builtin,B7,AI ht,h0.nil,CO]) hk (.d (.int .i64 (.l 0)))
 ·rename_i sz n e' e1;rw[e1] at h0;generalize hv:a.eval X=v at h0;cases h0 with
  |d hd=>cases hd<;>exact sl hv hk
 ·rename_i sz n e' e1;rw[e1] at h0;generalize hv:a.eval X=v at h0;cases h0 with
  |dfs _ _ _ aa hd=>exact sl hv hk
 ·rename_i l sz s n f e1;rw[e1] at h0;generalize hv:a.eval X=v at h0;cases h0 with
  |msl _ _ _ _ _ ob C cap aa hρ hc hcap ha=>exact sl hv hk
 ·rename_i l off n e1;rw[e1] at h0;generalize hv:a.eval X=v at h0;cases h0 with
  |vsl _ _ _ b C cap hρ hc=>exact sl hv hk
 ·exact hk.elim
theorem e0y {t k e:AX}{X:AZ}(hop:o.op= .call {callee:= .builtin .len,args:= #[X],argTypes:= #[t]})(ht:P.underlying t=AF (.map k e))
 {x:a0h} (hx:a0g X=AF x) (hk:a0a (Az P A ro E) (.lenm x) st K) (hr:Bx E st a w S ρ):Bl P o a w S ρ st.h K:=by
 have h0:=a0t hr.ts hx;obtain⟨cs,hex⟩:=a2d (a:=a) hop;simp only[a0a,a0i] at hk;split at hk
 ·rename_i l e1;rw[e1] at h0;split at hk
  ·rename_i wide ks n f hl;generalize hv:a.eval X=v at h0;cases h0 with
   |map _ b C hρ=>
    obtain⟨oo,h1,h2⟩:=hr.sim.obj l _ C hρ;rw[hl] at h1;cases h1;obtain⟨es,clock,h3,h4⟩:=h2;refine .same hr.sim (v:= .int .i64 n) ?_ hk (.d (.int .i64 (.v n)));have hg:(getObj b).run P w= .ok (.map es clock) w:=by simp[getObj,Sem.run,h3]
    have:es.size=n:=by have:=h4.len;simpa using this
    rw[hex];simp[builtin,B7,AI ht,hv,CO,hg,this]
  ·exact hk.elim
 ·exact hk.elim
theorem f0a {t e:AX}{X:AZ}(hop:o.op= .call {callee:= .builtin .cap,args:= #[X],argTypes:= #[t]})(ht:P.underlying t=AF (.slice e))
 {x:a0h} (hx:a0g X=AF x) (hk:a0a (Az P A ro E) (.cap x) st K) (hr:Bx E st a w S ρ):Bl P o a w S ρ st.h K:=by
 have h0:=a0t hr.ts hx;obtain⟨cs,hex⟩:=a2d (a:=a) hop;simp only[a0a,a0i] at hk;split at hk
 ·rename_i l sz s n f e1;rw[e1] at h0;split at hk
  ·rename_i sz' m e' hl;split at hk
   ·rename_i hs;generalize hv:a.eval X=v at h0;cases h0 with
    |msl _ _ _ _ _ ob C cap aa hρ hc hcap ha=>
     have run:(AU a.eval o).run P w= .ok (.value (.int .i64 cap)) w:=by rw[hex];simp[builtin,DH,AI ht,hv,CO]
     split at hk
     ·rename_i hf;rw[hf] at hcap;simp at hcap;subst hcap;exact .same hr.sim run hk (.d (.int .i64 (.v (cap:Nat))))
     ·rename_i hf;have hf:f=Aj:=by simpa using hf
      subst hf;simp at hcap;obtain⟨oo,h1,h2⟩:=hr.sim.obj l ob C hρ;rw[hl] at h1;cases h1;have hmC:m<=C:=by
       cases ob with
       |none=>obtain⟨hC,sz2,e2,h3|h3⟩:=h2<;>cases h3;omega
       |some b=>obtain⟨vs,ty,h3,h4,h5,h6⟩:=h2;exact h5
      refine .same hr.sim run hk (.ge _ _ ?_);have:f7l (Az P A ro E) m s=m-s.getD 0:=by cases s<;>rfl
      rw[this];omega
   ·exact hk.elim
  ·exact hk.elim
 ·exact hk.elim
theorem f2j {tys:Array AX}{X Y:AZ}(hop:o.op= .call {callee:= .builtin .min,args:= #[X,Y],argTypes:=tys}){x y:a0h}(hx:a0g X=AF x)(hy:a0g Y=AF y)
 (hk:a0a (Az P A ro E) (.min x y) st K) (hr:Bx E st a w S ρ):Bl P o a w S ρ st.h K:=by
 have h0:=a0t hr.ts hx;have h1:=a0t hr.ts hy;obtain⟨cs,hex⟩:=a2d (a:=a) hop;simp only[a0a] at hk;split at hk
 ·rename_i k1 n1 k2 n2 e1 e2;rw[e1] at h0;rw[e2] at h1;split at hk
  ·rename_i hkk;subst hkk;refine .same hr.sim (v:= .int k1 ((Az P A ro E).isel ((Az P A ro E).ilt n2.val n1.val) n2.val n1.val)) ?_ hk (.d (.int k1 (.v _)));have e:(Az P A ro E).isel ((Az P A ro E).ilt n2.val n1.val) n2.val n1.val=if n2.val<n1.val then n2.val else n1.val:=by simp[Az]
   rw[hex,e];simp[builtin,DC,DD,h0.int,h1.int]
  ·exact hk.elim
 ·exact hk.elim
theorem f0m {tys:Array AX}{X Y:AZ}(hop:o.op= .call {callee:= .builtin .max,args:= #[X,Y],argTypes:=tys}){x y:a0h}(hx:a0g X=AF x)(hy:a0g Y=AF y)
 (hk:a0a (Az P A ro E) (.max x y) st K) (hr:Bx E st a w S ρ):Bl P o a w S ρ st.h K:=by
 have h0:=a0t hr.ts hx;have h1:=a0t hr.ts hy;obtain⟨cs,hex⟩:=a2d (a:=a) hop;simp only[a0a] at hk;split at hk
 ·rename_i k1 n1 k2 n2 e1 e2;rw[e1] at h0;rw[e2] at h1;split at hk
  ·rename_i hkk;subst hkk;refine .same hr.sim (v:= .int k1 ((Az P A ro E).isel ((Az P A ro E).ilt n1.val n2.val) n2.val n1.val)) ?_ hk (.d (.int k1 (.v _)));have e:(Az P A ro E).isel ((Az P A ro E).ilt n1.val n2.val) n2.val n1.val=if n1.val<n2.val then n2.val else n1.val:=by simp[Az]
   rw[hex,e];simp[builtin,DE,DF,h0.int,h1.int]
  ·exact hk.elim
 ·exact hk.elim
theorem d9g {t:AX}(hop:o.op= .makeMap t Ag){wide:Bool}{ks:List Ak}(hk:a0a (Az P A ro E) (.mkmap wide ks) st K)(hr:Bx E st a w S ρ):Bl P o a w S ρ st.h K:=by have hn:ρ st.h.length=Ag:=hr.sim.fresh (AK _);simp only[a0a,a0u,a0r] at hk;refine⟨.map (AF w.heap.size),{w with heap:=w.heap.push (.map #[] 0)},_,_,[],S,_,.inl ?_,hk,Chg.new hr.sim hn (.map #[] 0) (.map wide ks 0 fun _=>Ag) 0 (fun w' hw'=>⟨#[],0,by rw[hw'];simp,⟨rfl,by simp,by simp,fun k=>rfl,by simp⟩⟩),.map _ w.heap.size 0 (by simp)⟩;simp[AU,hop,Ce]
theorem c3i {t:AX}(hop:o.op= .makeMap t Ag){wide:Bool}{ks:List Ak}(hk:a0a (Az P A ro E) (.mkmapv wide ks) st K)(hr:Bx E st a w S ρ):Bl P o a w S ρ st.h K:=by have hn:ρ st.h.length=Ag:=hr.sim.fresh (AK _);simp only[a0a,a0u,a0r] at hk;refine⟨.map (AF w.heap.size),{w with heap:=w.heap.push (.map #[] 0)},_,_,[],S,_,.inl ?_,hk,Chg.new hr.sim hn (.map #[] 0) (.mapv wide ks [] []) 0 (fun w' hw'=>⟨#[],0,by rw[hw'];simp,⟨rfl,by simp,by simp,by simp,by simp⟩,⟨rfl,rfl⟩,by simp⟩),.map _ w.heap.size 0 (by simp)⟩;simp[AU,hop,Ce]
end
theorem a5w (ro:Option Nat)(f:Ci):(a3i ro).fn f:=by cases ro<;>trivial
theorem b1e (ro:Option Nat):(a3i ro).depth=Ag:=by cases ro<;>rfl
theorem a5a (ro:Option Nat):(a3i ro).round=ro:=by cases ro<;>rfl
section
variable {P:CG} {A:Ann} {ro:Option Nat} {E:Ent} {c:Nat} {o:Oper} {io:IOp} {st:St} {K:AV->List a0f->List Nat->Prop}
 {a:Cw} {w:A6} {S:Nat->Prop} {ρ:Co} {h:List a0f} {next:Cw->A6->Prop} {Q:Exit->Cw->A6->Prop}
theorem Yld.wpIn (hd: ∀c,o.op≠ .defer c)(hy:Bl P o a w S ρ h K)
 (hn: ∀x h' pg v w' S' ρ',K x h' pg->C4 w S ρ h w' S' ρ' h' pg->VR w' S' ρ' x v->next (a.put o.dst v) w'):o.wpIn (a3i ro) 0 P a w next Q:=by
 obtain⟨v,w',x,h',pg,S',ρ',hrun,hk,hc,hv⟩:=hy;refine⟨fun f _=>a5w ro f,?_⟩;rw[a5a,Oper.semAt_eq ro a.eval o hd];rcases hrun with hrun|⟨hrun,rfl⟩
 ·rw[hrun];exact hn x h' pg v w' S' ρ' hk hc hv
 ·rw[hrun];exact hn x h' pg CX w' S' ρ' hk hc hv
theorem b4h {f:Ci}{vs:Array AN}{R:Ending->A6->Prop}(hc:Calls P f vs w R):CallsIn (a3i ro) 0 P f vs w R:=by
 cases ro with
 |none=>exact C6.2 hc
 |some l=>exact CallsIn.inRound l (C6.2 hc)
theorem a8v {F:AZ}{args:Array AZ}{tys:Array AX}(hop:o.op= .call {callee:= .value F,args,argTypes:=tys}){f:Ci}{us cs:Array AN}(hF:a.eval F= .func (.func f) us cs)(he:c1p P f)
 {R:AN->A6->Prop} (hc:Calls P f (us++args.map a.eval++cs) w fun e w'=> ∃v,e= .returned v/\R v w') (hn: ∀v w',R v w'->next (a.put o.dst v) w'):o.wpIn (a3i ro) 0 P a w next Q:=by
 obtain⟨fn,h1,h2,h3⟩:=he;refine⟨fun f _=>a5w ro f,?_⟩;rw[a5a,Oper.semAt_eq ro a.eval o (fun c h=>by rw[hop] at h;cases h)];have hrun:(AU a.eval o).run P w= .ok (.enter f (us++args.map a.eval++cs)) w:=by simp[AU,hop,Bj,hF,Bn,Bv,callFunc,h1,h2,h3]
 rw[hrun,Oper.uponIn_enter];refine⟨(fun h=>by rw[b1e] at h;cases h),?_⟩;refine (b4h (ro:=ro) hc).mono fun e w' he=> ?_;obtain⟨v,rfl,hR⟩:=he;exact hn v w' hR
theorem VRs.app {xs ys:List AV}{us vs:Array AN}(h1:Cb w S ρ xs us)(h2:Cb w S ρ ys vs):Cb w S ρ (xs++ys) (us++vs):=by
 refine⟨by simp[h1.1,h2.1],fun i x v hx hv=> ?_⟩;by_cases hi:i<xs.length
 ·rw[AE hi] at hx;rw[BW (by rw[<-h1.1];exact hi)] at hv;exact h1.2 i x v hx hv
 ·rw[AD (by omega)] at hx;rw[Bz (by rw[<-h1.1];omega)] at hv;rw[<-h1.1] at hv;exact h2.2 _ x v hx hv
theorem VRs.norm {xs:List AV}{vs:Array AN}(h:Cb w S ρ xs vs):Cb w S ρ (BP xs) vs:=by
 refine⟨by simpa [C5] using h.1,fun i x v hx hv=> ?_⟩;rw[C5,Ad] at hx;cases hc:xs[i]? with
 |none=>simp[hc] at hx
 |some y=>simp[hc] at hx;subst hx;exact (h.2 i y v hc hv).norm
theorem d5x {x:AV}{v:AN}(hf:x.free=An)(hv:VR w S ρ x v):VR w S a2j x v:=by
 cases hv with
 |d h=>exact .d h
 |dfs sz n e a h=>exact .dfs sz n e a h
 |dptr row off b base f hb hv hr=>exact .dptr row off b base f hb hv hr
 |fn f first cap us vs hl1 h1 hl h=>
  cases first with
  |nil=>
   cases cap with
   |nil=>exact .fn f [] [] us vs hl1 (by simp) hl (by simp)
   |cons x l=>simp[Cx] at hf
  |cons x l=>simp[Cx] at hf
 |_=>simp[Cx] at hf
theorem d2e {cs:List AV}(h:a3z.frees1 cs=An): ∀x,x∈cs->x.free=An:=by
 induction cs with
 |nil=>simp
 |cons c cs ih=>
  simp only[a3z.frees1] at h;split at h
  ·rename_i h1;intro x hx;rcases Ch.1 hx with rfl|hx
   ·exact h1
   ·exact ih h x hx
  ·cases h
theorem b4t {xs:List AV}(hf:a3z xs=An): ∀{vs:List AN},(∀(i:Nat) (x:AV) (v:AN),xs[i]? =AF x->vs[i]? =AF v->VR w S ρ x v)->
 ∀(i:Nat) (x:AV) (v:AN),xs[i]? =AF x->vs[i]? =AF v->VR w S a2j x v:=by
 induction xs with
 |nil=>intro vs _ i x v hx;simp at hx
 |cons c xs ih=>
  intro vs hv i x v hx hu;have hc:(∀v,VR w S ρ c v->VR w S a2j c v)/\a3z xs=An:=by
   unfold a3z at hf;split at hf
   ·rename_i heq;cases heq
   ·rename_i heq;cases heq;split at hf
    ·rename_i h1;refine⟨fun v hv=> ?_,hf⟩;cases hv with
     |agg cs us hl h=>exact .agg _ us hl fun i x v hx hv=>d5x (d2e h1 x (As hx)) (h i x v hx hv)
    ·cases hf
   ·rename_i heq;cases heq;split at hf
    ·rename_i h1;exact⟨fun v hv=>d5x h1 hv,hf⟩
    ·cases hf
  cases i with
  |zero=>simp at hx;subst hx;exact hc.1 v (hv 0 _ v (by simp) hu)
  |succ i=>
   cases vs with
   |nil=>simp at hu
   |cons u vs=>exact ih hc.2 (vs:=vs) (fun j y z hy hz=>hv (j+1) y z (by simpa using hy) (by simpa using hz)) i x v (by simpa using hx) (by simpa using hu)
theorem Chg.trans0 {w1 w2:A6}{S1 S2:Nat->Prop}{ρ1 ρ2:Co}{h1 h2:List a0f}(c1:C4 w S ρ h w1 S1 ρ1 h1 [])(c2:C4 w1 S1 ρ1 h1 w2 S2 ρ2 h2 []):C4 w S ρ h w2 S2 ρ2 h2 []:=
 ⟨c2.sim,CM c1.len c2.len,c1.ext.trans c2.ext,fun m p hm hp=>c2.keep m p hm (c1.keep m p hm hp),fun m hm hp=>(c2.low m (Ba hm c1.len) hp).trans (c1.low m hm hp)⟩
theorem b5v {w':A6}{S1:Nat->Prop}(hs:Cm w S ρ h)(h4: ∀b,S1 b->S b\/(w.heap.size<=b/\b<w'.heap.size))(h5:d6d w w'):C4 w S ρ h w' (fun b=>S b\/S1 b) ρ h []:=by
 have hS1: ∀b,S b->w'.heap[b]? =w.heap[b]? :=fun b hb=>h5.frame b (hs.sblk b hb);refine⟨⟨fun b hb=> ?_,fun l ob C hl=> ?_,hs.inj,fun l b C ao hl hao hf=> ?_⟩,AK _,
  ⟨h5.os,h5.tape,h5.output,h5.size,fun _ h=> .inl h,hS1,fun b hb=> ?_,fun b hb _=>h5.frame b hb,fun l b C hl=> .inr ⟨l,C,hl⟩⟩,fun _ _ _ h=>h,fun _ _ _=>rfl⟩
 ·rcases hb with hb|hb
  ·exact Ba (hs.sblk b hb) h5.size
  ·rcases h4 b hb with hb|hb
   ·exact Ba (hs.sblk b hb) h5.size
   ·exact hb.2
 ·obtain⟨oo,h6,h7⟩:=hs.obj l ob C hl;refine⟨oo,h6,?_⟩;cases ob with
  |none=>exact h7
  |some b=>exact a0z.mono (fun _ h=> .inl h) hS1 (fun _ _ h=>h) (h5.frame b (hs.blk hl)) h7
 ·intro hb;have:S b:=by
   rcases hb with hb|hb
   ·exact hb
   ·rcases h4 b hb with hb|hb
    ·exact hb
    ·have:=hs.blk hl;omega
  exact hs.own l b C ao hl hao hf this
 ·rcases hb with hb|hb
  ·exact .inl hb
  ·rcases h4 b hb with hb|hb
   ·exact .inl hb
   ·exact .inr (.inl hb.1)
theorem AV.shiftL_eq (k:Nat)(l:List AV):Cg k l=l.map (AV.shift k):=by
 induction l with
 |nil=>rfl
 |cons x l ih=>simp[Cg,ih]
theorem b7n (k:Nat)(l:List a0f):a9s k l=l.map (a0f.shift k):=by
 induction l with
 |nil=>rfl
 |cons x l ih=>simp[a9s,ih]
theorem VR.shift {ρ':Co}(k:Nat)(hρ: ∀m p,ρ m=AF p->ρ' (k+m)=AF p){x:AV}{v:AN}(hv:VR w S ρ x v):VR w S ρ' (x.shift k) v:=by
 have key: ∀{cs:List AV} {vs:Array AN},(∀(i:Nat) (x:AV) (v:AN),cs[i]? =AF x->vs[i]? =AF v->VR w S ρ' (x.shift k) v)->
  ∀(i:Nat) (x:AV) (v:AN),(Cg k cs)[i]? =AF x->vs[i]? =AF v->VR w S ρ' x v:=by
  intro cs vs ih i x v hx hv;rw[AV.shiftL_eq,Ad] at hx;cases hc:cs[i]? with
  |none=>simp[hc] at hx
  |some y=>simp[hc] at hx;subst hx;exact ih i y v hc hv
 induction hv with
 |d h=>exact .d h
 |any v=>exact .any v
 |und=>exact .und
 |agg cs vs hl _ ih=>exact .agg _ vs (by simpa [AV.shiftL_eq] using hl) (key ih)
 |tuple cs vs hl _ ih=>exact .tuple _ vs (by simpa [AV.shiftL_eq] using hl) (key ih)
 |ptr m off b C h=>exact .ptr _ off b C (hρ _ _ h)
 |aptr m sz i off b C h=>exact .aptr _ sz i off b C (hρ _ _ h)
 |dptr row off b base f hb hv hr=>exact .dptr row off b base f hb hv hr
 |dfs sz n e a h=>exact .dfs sz n e a h
 |msl m sz start len full ob C cap a h hc hcap ha=>exact .msl _ sz start len full ob C cap a (hρ _ _ h) hc hcap ha
 |vsl m off n b C cap h hc=>exact .vsl _ off n b C cap (hρ _ _ h) hc
 |map m b C h=>exact .map _ b C (hρ _ _ h)
 |ge m n h=>exact .ge m n h
 |yl m b C h=>exact .yl _ b C (hρ _ _ h)
 |fn f first cap us vs hl1 _ hl _ ih1 ih=>exact .fn f _ _ us vs (by simpa [AV.shiftL_eq] using hl1) (key ih1) (by simpa [AV.shiftL_eq] using hl) (key ih)
theorem a0z.shift {ρ':Co}(k:Nat)(hρ: ∀m p,ρ m=AF p->ρ' (k+m)=AF p){b C:Nat}{oo:a0f}(hv:a0z w S ρ b C oo):a0z w S ρ' b C (oo.shift k):=by
 cases oo with
 |var cs=>
  obtain⟨vs,ty,h1,h2,h3⟩:=hv;refine⟨vs,ty,h1,by simpa [AV.shiftL_eq] using h2,fun i x v hx hv=> ?_⟩;rw[AV.shiftL_eq,Ad] at hx;cases hc:cs[i]? with
  |none=>simp[hc] at hx
  |some y=>simp[hc] at hx;subst hx;exact (h3 i y v hc hv).shift k hρ
 |arr sz n e=>exact hv
 |frz sz n e=>exact hv
 |map wide ks n f=>exact hv
 |arrv vals=>
  obtain⟨vs,ty,h1,h2,h3,h4⟩:=hv;refine⟨vs,ty,h1,h2,by simpa [AV.shiftL_eq] using h3,fun i x v hx hv=> ?_⟩;rw[AV.shiftL_eq,Ad] at hx;cases hc:vals[i]? with
  |none=>simp[hc] at hx
  |some y=>simp[hc] at hx;subst hx;exact (h4 i y v hc hv).shift k hρ
 |mapv wide ks keys vals=>
  obtain⟨es,clock,h1,h2,h3,h4⟩:=hv;refine⟨es,clock,h1,h2,by simpa [AV.shiftL_eq] using h3,fun i x v hx hv=> ?_⟩;rw[AV.shiftL_eq,Ad] at hx;cases hc:vals[i]? with
  |none=>simp[hc] at hx
  |some y=>simp[hc] at hx;subst hx;exact (h4 i y v hc hv).shift k hρ
 |loop s ts ps code=>
  obtain⟨r,h1,h2,h3,h4,h5,h6,h7⟩:=hv;refine⟨r,h1,h2,h3,h4,h5,by simpa [AV.shiftL_eq] using h6,fun i x v hx hv=> ?_⟩;rw[AV.shiftL_eq,Ad] at hx;cases hc:ts[i]? with
  |none=>simp[hc] at hx
  |some y=>simp[hc] at hx;subst hx;exact (h7 i y v hc hv).shift k hρ
 |gone=>exact hv
theorem b7a (k:Nat)(oo:a0f):(oo.shift k).frozen=oo.frozen:=by cases oo<;>rfl
theorem d6g {w':A6}{S1:Nat->Prop}{ρ1:Co}{os:List a0f}(hs:Cm w S ρ h)(h1:Cm w' S1 ρ1 os)(hm: ∀b,S b->S1 b)(h4: ∀b,S1 b->S b\/w.heap.size<=b)
 (h3: ∀l b C,ρ1 l=AF (AF b,C)->w.heap.size<=b) (h5:d6d w w'):
 ∃ρ',C4 w S ρ h w' S1 ρ' (h++a9s h.length os) []/\ ∀m p,ρ1 m=AF p->ρ' (h.length+m)=AF p:=by
 have hS1: ∀b,S b->w'.heap[b]? =w.heap[b]? :=fun b hb=>h5.frame b (hs.sblk b hb);have e1: ∀m,m<h.length->(fun m=>if m<h.length then ρ m else ρ1 (m-h.length)) m=ρ m:=fun m hm=>if_pos hm;have e2: ∀m,(fun m=>if m<h.length then ρ m else ρ1 (m-h.length)) (h.length+m)=ρ1 m:=fun m=>by show (if h.length+m<h.length then _ else _)=_;rw[if_neg (by omega),show h.length+m-h.length=m by omega]
 have lt: ∀{m p},ρ m=AF p->m<h.length:=fun {m p} hp=>Bw fun hle=>by rw[hs.fresh hle] at hp;cases hp
 generalize (fun m=>if m<h.length then ρ m else ρ1 (m-h.length))=ρ' at e1 e2;have spl: ∀m p,ρ' m=AF p->(m<h.length/\ρ m=AF p)\/(h.length<=m/\ρ1 (m-h.length)=AF p):=by
  intro m p hp;by_cases hlt:m<h.length
  ·exact .inl ⟨hlt,by rw[<-e1 m hlt];exact hp⟩
  ·refine .inr ⟨by omega,?_⟩;rw[<-e2 (m-h.length),show h.length+(m-h.length)=m by omega];exact hp
 refine⟨ρ',⟨⟨h1.sblk,fun m ob C hm'=> ?_,fun m m' b C C' hp hp'=> ?_,fun m b C ao hm' hao hf=> ?_⟩,by simp,⟨h5.os,h5.tape,h5.output,h5.size,hm,hS1,fun b hb=> ?_,fun b hb _=>h5.frame b hb,fun l b C hl=> ?_⟩,fun m p _ hp=> ?_,fun m hm' _=>e1 m hm'⟩,fun m p hp=>by rw[e2];exact hp⟩
 ·rcases spl m _ hm' with⟨hlt,hp⟩|⟨hle,hp⟩
  ·obtain⟨oo,h6,h7⟩:=hs.obj m ob C hp;refine⟨oo,by show (h++_)[m]? =_;rw[AE hlt];exact h6,?_⟩;cases ob with
   |none=>exact h7
   |some b=>exact a0z.mono hm hS1 (fun m' p hp'=>by rw[e1 m' (lt hp')];exact hp') (h5.frame b (hs.blk hp)) h7
  ·obtain⟨oo,h6,h7⟩:=h1.obj _ ob C hp;refine⟨oo.shift h.length,by show (h++_)[m]? =_;rw[AD hle,b7n,Ad,h6];rfl,?_⟩;cases ob with
   |none=>
    obtain⟨h8,sz,e,h9⟩:=h7;refine⟨h8,sz,e,?_⟩;rcases h9 with rfl|rfl
    ·exact .inl rfl
    ·exact .inr rfl
   |some b=>exact a0z.shift h.length (fun m' p hp'=>by rw[e2];exact hp') h7
 ·rcases spl m _ hp with⟨h6,h7⟩|⟨h6,h7⟩<;>rcases spl m' _ hp' with⟨h8,h9⟩|⟨h8,h9⟩
  ·exact hs.inj _ _ _ _ _ h7 h9
  ·have:=hs.blk h7;have:=h3 _ _ _ h9;omega
  ·have:=hs.blk h9;have:=h3 _ _ _ h7;omega
  ·have:=h1.inj _ _ _ _ _ h7 h9;omega
 ·replace hao:(h++a9s h.length os)[m]? =AF ao:=hao
  rcases spl m _ hm' with⟨hlt,hp⟩|⟨hle,hp⟩
  ·rw[AE hlt] at hao;intro hb;rcases h4 b hb with hb|hb
   ·exact hs.own m b C ao hp hao hf hb
   ·have:=hs.blk hp;omega
  ·rw[AD hle,b7n,Ad] at hao;cases hc:os[m-h.length]? with
   |none=>simp[hc] at hao
   |some oo=>simp[hc] at hao;subst hao;exact h1.own _ b C oo hp hc (by rw[<-b7a h.length oo];exact hf)
 ·rcases h4 b hb with hb|hb
  ·exact .inl hb
  ·exact .inr (.inl hb)
 ·rcases spl l _ hl with⟨h6,h7⟩|⟨h6,h7⟩
  ·exact .inr ⟨l,C,h7⟩
  ·exact .inl (h3 _ _ _ h7)
 ·rw[e1 m (lt hp)];exact hp
theorem e3c {x:AV}{v:AN}(h:VR w S ρ x v):VR w S ρ (d9s x) v:=by
 unfold d9s;split
 ·rename_i f us vs;split
  ·rename_i hc;have e:=h.raw;subst e;simp only[BD,Nat.beq_eq] at hc;exact .fn f [] [] us vs (by simp[hc.1]) (by simp) (by simp[hc.2]) (by simp)
  ·exact .any _
 ·exact h
theorem d5f {F:AZ}{args:Array AZ}{tys:Array AX}(hop:o.op= .call {callee:= .value F,args,argTypes:=tys}){f:a0h}{as:List a0h}{m:Mode}(hf:a0g F=AF f)(has:b3d args=AF as)
 (hk:a0a (Az P A ro E) (.call f as m) st K) (hr:Bx E st a w S ρ)
 (hn: ∀x h' pg v w' S' ρ',K x h' pg->C4 w S ρ st.h w' S' ρ' h' pg->VR w' S' ρ' x v->next (a.put o.dst v) w'):o.wpIn (a3i ro) 0 P a w next Q:=by
 have h0:=e3c (a0t hr.ts hf);have h1:=c9w hr.ts has;simp only[a0a] at hk;split at hk
 ·rename_i g first cap e1
  rw[e1] at h0;generalize hv:a.eval F=v at h0;cases h0 with
  |fn _ _ _ us cs hl1 hv1 hl2 hv2=>
   have hargs:Cb w S ρ (a2u first (a2u (b2j st.ts as) cap)) (us++args.map a.eval++cs):=by rw[a0r,a0r,<-AY];exact VRs.app (VRs.app ⟨hl1,hv1⟩ h1) ⟨hl2,hv2⟩
   revert hargs hk;generalize a2u first (a2u (b2j st.ts as) cap)=xs
   intro hk hargs;have toL: ∀(i:Nat) (x:AV) (v:AN),xs[i]? =AF x->(us++args.map a.eval++cs).toList[i]? =AF v->VR w S ρ x v:=
    fun i x v hx hv=>hargs.2 i x v hx (by rw[<-Ae];exact hv)
   have back: ∀{S1:Nat->Prop} {xs':List AV},xs'.length=(us++args.map a.eval++cs).toList.length->a3z xs'=An->
    (∀(i:Nat) (x:AV) (v:AN),xs'[i]? =AF x->(us++args.map a.eval++cs).toList[i]? =AF v->VR w S1 ρ x v)->Cb w S1 a2j (BP xs') (us++args.map a.eval++cs):=
    fun hl hfr hv'=>VRs.norm ⟨by simpa using hl,fun i x v hx hv=>b4t hfr hv' i x v hx (by rw[Ae];exact hv)⟩
   have pure: ∀{own:Bool} {S0 S1:Nat->Prop} {h':List a0f} {xs':List AV} {r:AV},a0j P own g (BP xs') r->C4 w S ρ st.h w S1 ρ h' []->(∀b,S0 b->b<w.heap.size)->(own=Aj-> ∀b,S0 b->S1 b)->
    Cb w S0 a2j (BP xs') (us++args.map a.eval++cs)->K r h' []->o.wpIn (a3i ro) 0 P a w next Q:=by
    intro own S0 S1 h' xs' r hp c1 hS0 hown hvs hk;obtain⟨hent,hpure⟩:=hp;refine a8v hop hv hent (hpure w S0 _ hS0 hvs|>.mono fun e w' he=> ?_) (R:=fun v w'=> ∃S',VR w' S' a2j r v/\(∀b,S' b->(own=Aj/\S0 b)\/(w.heap.size<=b/\b<w'.heap.size))/\d6d w w') fun v w' hR=> ?_
    ·obtain⟨v,S',h2,h3,h4,h5⟩:=he;exact⟨v,h2,S',h3,h4,h5⟩
    ·obtain⟨S2,h3,h4,h5⟩:=hR;have c2:=b5v (S1:=S2) c1.sim (fun b hb=>(h4 b hb).imp (fun hb=>hown hb.1 b hb.2) id) h5;exact hn r h' [] v w' _ ρ hk (c1.trans0 c2) (h3.mono (fun _ h=> .inr h) (fun _ _=>rfl) (fun l p hp=>by cases hp))
   cases m with
   |borrow=>
    simp only at hk;obtain⟨xs',hk,hl',hv'⟩:=d9k hr.sim (vs:=(us++args.map a.eval++cs).toList) (by simpa using hargs.1) toL hk;split at hk
    ·rename_i hfr;obtain⟨r,hp,hk⟩: ∃r,a0j P An g (BP xs') r/\K r st.h []:=hk;exact pure hp (.refl hr.sim) (fun _ h=>h) (fun h=>by cases h) (back hl' hfr hv') hk
    ·exact hk.elim
   |data=>
    simp only at hk;split at hk
    ·rename_i hfr;obtain⟨r,hp,hk⟩: ∃r,a0j P Aj g (BP xs) r/\K r st.h []:=hk;exact pure hp (.refl hr.sim) hr.sim.sblk (fun _ _ h=>h) (back (by simpa using hargs.1) hfr toL) hk
    ·exact hk.elim
   |share=>
    simp only at hk;obtain⟨xs',h',S1,hk,k1,hl',hv'⟩:=b1x hr.sim (vs:=(us++args.map a.eval++cs).toList) (by simpa using hargs.1) toL hk;split at hk
    ·rename_i hfr;obtain⟨r,hp,hk⟩: ∃r,a0j P Aj g (BP xs') r/\K r h' []:=hk;exact pure hp k1.chg k1.sim.sblk (fun _ _ h=>h) (back hl' hfr hv') hk
    ·exact hk.elim
   |fresh=>
    simp only at hk;obtain⟨xs',h',S1,hk,k1,hl',hv'⟩:=b1x hr.sim (vs:=(us++args.map a.eval++cs).toList) (by simpa using hargs.1) toL hk;split at hk
    ·rename_i hfr;obtain⟨hent,hcall⟩:e0c P g (BP xs') fun x os=>K (x.shift (a3q h')) (a2u h' (a9s (a3q h') os)) []:=hk;refine a8v hop hv hent (hcall w S1 _ k1.sim.sblk (back hl' hfr hv')|>.mono fun e w' he=> ?_) (R:=fun v w'=> ∃x os S' ρ',K (x.shift (a3q h')) (a2u h' (a9s (a3q h') os)) []/\VR w' S' ρ' x v/\Cm w' S' ρ' os/\(∀b,S1 b->S' b)/\(∀b,S' b->S1 b\/w.heap.size<=b)/\
      (∀l b C,ρ' l=AF (AF b,C)->w.heap.size<=b)/\d6d w w') fun v w' hR=> ?_
     ·obtain⟨v,x,os,S',ρ',h2,h3⟩:=he;exact⟨v,h2,x,os,S',ρ',h3⟩
     ·obtain⟨x,os,S',ρ',h3,h4,h5,h6,h7,h8,h9⟩:=hR;obtain⟨ρ2,c2,hρ2⟩:=d6g k1.sim h5 h6 h7 h8 h9;rw[a0u,a0r] at h3;exact hn _ _ [] v w' S' ρ2 h3 (k1.chg.trans0 c2) (h4.shift h'.length hρ2)
    ·exact hk.elim
   |raw=>
    simp only at hk;obtain⟨hent,hcall⟩:a1h P g (BP xs) st.h fun pg v h''=>K v h'' pg:=hk;refine a8v hop hv hent (hcall w S ρ _ hr.sim hargs.norm|>.mono fun e w' he=> ?_) (R:=fun v w'=> ∃x pg h'' S' ρ',K x h'' pg/\VR w' S' ρ' x v/\Cm w' S' ρ' h''/\Ext w S ρ w' S' ρ'/\st.h.length<=h''.length/\ ∀l,l<st.h.length->l∉pg->ρ' l=ρ l) fun v w' hR=> ?_
    ·obtain⟨v,x,pg,h'',S',ρ',h2,h3⟩:=he;exact⟨v,h2,x,pg,h'',S',ρ',h3⟩
    ·obtain⟨x,pg,h'',S',ρ',h3,h4,h5,h6,h7,h8⟩:=hR;refine hn x h'' pg v w' S' ρ' h3 ⟨h5,h7,h6,fun m p hm hp=> ?_,fun m hm hpg=>h8 m hm hpg⟩ h4;have hlt:m<st.h.length:=by refine Bw fun hle=> ?_;rw[hr.sim.fresh hle] at hp;cases hp
     rw[h8 m hlt hm];exact hp
 ·rename_i l e1;rw[e1] at h0;split at hk
  ·generalize hv:a.eval F=v at h0;cases h0 with
   |yl _ b C hρ=>
    have hargs:Cb w S ρ (BP (b2j st.ts as)) (args.map a.eval):=h1.norm;have hk:b5d P l (BP (b2j st.ts as)) st.h fun pg v h''=>K v h'' pg:=hk;obtain⟨fn,tmps,assign,body,hy,hR⟩:=hk w S ρ _ b C hr.sim hargs hρ;refine⟨fun f _=>a5w ro f,?_⟩;rw[a5a,Oper.semAt_eq ro a.eval o (fun c h=>by rw[hop] at h;cases h)];have hrun:(AU a.eval o).run P w= .ok (.round b fn tmps assign body) w:=by simp[AU,hop,Bj,hv,Bn,Bv,hy]
    rw[hrun,Oper.uponIn_round];refine⟨(fun h=>by rw[b1e] at h;cases h),?_⟩;have hR': ∀R,RoundIn Fence.wide 0 P b fn tmps assign body w R->RoundIn (a3i ro) 0 P b fn tmps assign body w R:=by
     cases ro with
     |none=>exact fun _ h=>h
     |some l=>exact fun _ h=>h
    refine (hR' _ hR).mono fun e w' he=> ?_;obtain⟨v,x,pg,h'',S',ρ',rfl,h3,h4,h5,h6,h7,h8⟩:=he;refine hn x h'' pg v w' S' ρ' h3 ⟨h5,h7,h6,fun m p hm hp=> ?_,fun m hm hpg=>h8 m hm hpg⟩ h4;have hlt:m<st.h.length:=by refine Bw fun hle=> ?_;rw[hr.sim.fresh hle] at hp;cases hp
    rw[h8 m hlt hm];exact hp
  ·exact hk.elim
 ·exact hk.elim
end
theorem d6o (off:Nat): ∀(l:List AN) (k:Nat) (cells:Array AN),off+k+l.length<=cells.size->
 (l.zipIdx k).foldl (fun (cs:Array AN) (p:AN×Nat)=>cs.setIfInBounds (off+p.2) p.1) cells=(cells.toList.take (off+k)++l++cells.toList.drop (off+k+l.length)).toArray:=by
 intro l
 induction l with
 |nil=>intro k cells _;simp
 |cons v l ih=>
  intro k cells h;simp only[List.zipIdx_cons,List.foldl_cons];simp at h;rw[ih (k+1) _ (by simp;omega)];apply BI;simp only[B5];apply A9;intro i;simp only[AY,CV];by_cases h1:i<off+k
  ·rw[AE (by simp;omega),AE (by simp;omega),Ab (by omega),Ab (by omega),AR (by omega)]
  ·by_cases h2:i=off+k
   ·subst h2;rw[AE (by simp;omega),Ab (by omega),AT (by simp;omega),AD (by simp;omega)];simp only[AO];rw[show off+k-min (off+k) cells.toList.length=0 by simp;omega];rfl
   ·by_cases h3:i<off+k+(l.length+1)
    ·rw[AD (by simp;omega),AE (by simp;omega),AD (by simp;omega)];simp only[AO,CZ];rw[show min (off+k) cells.toList.length=off+k by simp;omega,show min (off+(k+1)) cells.toList.length=off+k+1 by simp;omega];rw[show i-(off+k)=(i-(off+k+1))+1 by omega];simp only[CW,BK];rw[AE (by omega)]
    ·rw[AD (by simp;omega),AD (by simp;omega),AD (by simp;omega),AD (by simp;omega)];simp only[AO,CZ,Ax,CV];rw[AR (by omega)];congr 1;simp;omega
section
variable {P:CG} {A:Ann} {ro:Option Nat} {E:Ent} {c:Nat} {o:Oper} {io:IOp} {st:St} {K:AV->List a0f->List Nat->Prop}
 {a:Cw} {w:A6} {S:Nat->Prop} {ρ:Co} {h:List a0f}
theorem e2m {cs new r:List AV}{vs nv:Array AN}{off:Nat}(h1:Cb w S ρ cs vs)(h2:Cb w S ρ new nv)(hp:b7y cs off new=AF r):
 off+nv.size<=vs.size/\Cb w S ρ r (vs.toList.take off++nv.toList++vs.toList.drop (off+nv.toList.length)).toArray:=by
 obtain⟨hle,rfl⟩:=b5h _ _ _ _ hp;have e1:=h1.1;have e2:=h2.1;have e3:nv.toList.length=nv.size:=by simp
 have e4:vs.toList.length=vs.size:=by simp
 refine⟨by omega,by simp;omega,fun i z u hz hu=> ?_⟩;simp only[Af] at hu;by_cases hi1:i<off
 ·rw[AY,AE (by simp;omega),Ab hi1] at hz hu;exact h1.2 i z u hz (by simpa using hu)
 ·by_cases hi2:i<off+new.length
  ·rw[AY,AD (by simp;omega),AE (by simp;omega)] at hz hu;simp only[AO] at hz hu;rw[show min off cs.length=off by omega] at hz;rw[show min off vs.toList.length=off by omega] at hu;exact h2.2 _ z u hz (by simpa using hu)
  ·rw[AD (by simp;omega),Ax] at hz hu;simp only[AQ,AO] at hz hu;rw[show off+new.length+(i-(min off cs.length+new.length))=i by omega] at hz;rw[show off+nv.toList.length+(i-(min off vs.toList.length+nv.toList.length))=i by omega] at hu;exact h1.2 i z u hz (by simpa using hu)
theorem a9n (vs:Array AN)(off:Nat)(cells:Array AN)(h:off+vs.size<=cells.size):
 vs.zipIdx.foldl (fun cs (x:AN×Nat)=>cs.setIfInBounds (off+x.2) x.1) cells=(cells.toList.take off++vs.toList++cells.toList.drop (off+vs.toList.length)).toArray:=by
 have:=d6o off vs.toList 0 cells (by simpa using h);simp only[BV] at this;rw[<-this,<-Array.foldl_toList];congr 1;simp
theorem d8j {b2u:Nat->Option (Nat×Nat)}{ts:List AV}(hts:Cb w S ρ ts a.tmps): ∀{ps:List (Nat×AZ)} {l:List (Nat×Nat×a0h)} {cs r:List AV} {vs:Array AN},
 (ps.mapM fun ix=>do let os<-b2u ix.1;pure (os.1,os.2,<-a0g ix.2))=AF l->Cb w S ρ cs vs->b2r ts cs l=AF r->
 ∃vs',BH b2u vs (ps.map fun ix=>(ix.1,a.eval ix.2))=AF vs'/\Cb w S ρ r vs':=by
 intro ps
 induction ps with
 |nil=>intro l cs r vs hl hv hf;simp at hl;subst hl;simp[b2r] at hf;subst hf;exact⟨vs,by simp[BH],hv⟩
 |cons p ps ih=>
  intro l cs r vs hl hv hf;simp[BY,AA] at hl;obtain⟨_,_,_,⟨off,sz,hpl,x,hx,rfl,rfl,rfl⟩,l',hl',rfl⟩:=hl;have hxv:=a0t hts hx;simp only[b2r,a0u] at hf;split at hf
  ·rename_i hch;simp only[BD] at hch;have hsz:=AJ hch.1;obtain⟨g1,g2⟩:=a7d hxv hch.2;split at hf
   ·rename_i cs' hput;obtain⟨hle,hv'⟩:=e2m hv ⟨g1,g2⟩ hput;obtain⟨vs',h3,h4⟩:=ih (by simpa using hl') hv' hf;refine⟨vs',?_,h4⟩;have e1:(a.eval p.2).cells.size=sz:=by omega
    simp only[B9,BH,hpl];rw[if_neg (by simp[e1];omega)];rw[<-h3];congr 1;exact a9n _ off vs hle
   ·cases hf
  ·cases hf
theorem d9d {t:AX}{ps:Array (Nat×AZ)}(hop:o.op= .build t ps){zs:List DV}{b2u:Nat->Option (Nat×Nat)}{l:List (Nat×Nat×a0h)}(hz:a5d P t=AF zs)(hp:b9j P t=AF b2u)
 (hl:(ps.toList.mapM fun ix=>do let os<-b2u ix.1;pure (os.1,os.2,<-a0g ix.2))=AF l) (hk:a0a (Az P A ro E) (.build zs l) st K) (hr:Bx E st a w S ρ):Bl P o a w S ρ st.h K:=by
 obtain⟨i,z,hi,hz0,hd⟩:=a5f hz;obtain⟨g1,g2⟩:=a4y hd;simp only[a0a,a5m] at hk;split at hk
 ·rename_i cs hf;have hzv:Cb w S ρ (zs.map AV.d) z.cells:=by refine⟨by simpa using g1,fun i x v hx hv=> ?_⟩;simp at hx;obtain⟨y,hy,rfl⟩:=hx;exact .d (g2 w S i y v hy hv)
  obtain⟨vs',h3,h4⟩:=d8j hr.ts hl hzv hf;refine .same hr.sim (v:= .agg vs') ?_ hk (.agg cs vs' h4.1 h4.2);have hb:P.built t (ps.map fun ix=>(ix.1,a.eval ix.2)).toList=AF vs':=by
   unfold b9j at hp;unfold Program.built;split at hp
   ·rename_i fs hu;split at hp
    ·rename_i pl hpl;cases hp;simp only[hi,hu,hz0,hpl];simpa using h3
    ·cases hp
   ·rename_i n e hu;split at hp
    ·rename_i ie hie;cases hp;simp only[hi,hu,hz0,hie];simpa using h3
    ·cases hp
   ·cases hp
  have:=run_build w t (ps.map fun ix=>(ix.1,a.eval ix.2)) vs' hb;simp[AU,hop,this]
 ·exact hk.elim
end
section
variable {P:CG} {A:Ann} {ro:Option Nat} {E:Ent} {c:Nat} {o:Oper} {io:IOp} {st:St} {K:AV->List a0f->List Nat->Prop}
 {a:Cw} {w:A6} {S:Nat->Prop} {ρ:Co} {h:List a0f}
theorem c2r {sz n C:Nat}{es:Nat->List DV}{vs:Array AN}{e:AX}(hs:Cm w S ρ h){w2:A6}(hh:w2.heap=w.heap.push (.cells vs e))(hos:w2.os=w.os)(htp:w2.tape=w.tape/\w.drawn<=w2.drawn)(hout:w2.output=w.output)
 (hr1:vs.size=C*sz) (hle:n<=C) (hr2: ∀i,i<n->(es i).length=sz/\ ∀(j:Nat) (x:DV) (u:AN),(es i)[j]? =AF x->vs[i*sz+j]? =AF u->C7 w S x u):
 C4 w S ρ h w2 (fun b=>S b\/b=w.heap.size) ρ h []/\VR w2 (fun b=>S b\/b=w.heap.size) ρ (.d (.sl sz n es)) (.slice (AF ⟨w.heap.size,0,Ag⟩) n C):=by
 have hold': ∀b,b<w.heap.size->w2.heap[b]? =w.heap[b]? :=fun b hb=>by rw[hh,Aq,if_neg (by omega)]
 have hS': ∀b,S b->w2.heap[b]? =w.heap[b]? :=fun b hb=>hold' b (hs.sblk b hb);have hlast:w2.heap[w.heap.size]? =AF (.cells vs e (0,0)):=by rw[hh];simp
 refine⟨⟨⟨fun b hb=> ?_,fun l ob C hl=> ?_,hs.inj,fun l b C ao hl hao hf=> ?_⟩,AK _,⟨hos,htp,hout,by rw[hh];simp,fun _ h=> .inl h,hS',fun b hb=> ?_,fun b hb _=>hold' b hb,fun l b C hl=> .inr ⟨l,C,hl⟩⟩,fun _ _ _ h=>h,fun _ _ _=>rfl⟩,.d ?_⟩
 ·rw[hh];simp;rcases hb with hb|hb
  ·have:=hs.sblk b hb;omega
  ·omega
 ·obtain⟨o',h1,h2⟩:=hs.obj l ob C hl;refine⟨o',h1,?_⟩;cases ob with
  |none=>exact h2
  |some b=>exact a0z.mono (fun _ h=> .inl h) hS' (fun _ _ h=>h) (hold' b (hs.blk hl)) h2
 ·intro hb;rcases hb with hb|hb
  ·exact hs.own l b C ao hl hao hf hb
  ·have:=hs.blk hl;omega
 ·rcases hb with hb|hb
  ·exact .inl hb
  ·exact .inr (.inl (by omega))
 ·have hlt: ∀i j,i<n->j<sz->i*sz+j<vs.size:=by intro i j hi hj;rw[hr1];have:(i+1)*sz<=C*sz:=AP _ (by omega);rw[Ac] at this;omega
  refine .sl sz n _ w.heap.size 0 C (fun i j=>vs.getD (i*sz+j) CX) (fun _=> .inr rfl) hle (fun i hi=>(hr2 i hi).1) (fun i hi j hj=> ?_) (fun i hi j x hx=> ?_)
  ·rw[Cz hlast,A3];exact getD_some _ _ (hlt i j hi hj)
  ·have hj:j<sz:=by have:=(AB.1 hx).1;rw[(hr2 i hi).1] at this;exact this
   exact ((hr2 i hi).2 j x _ hx (getD_some _ _ (hlt i j hi hj))).mono (fun _ h=> .inl h) hS'
theorem c9m {sz n C:Nat}{es:Nat->List DV}{vs:Array AN}{e:AX}(hs:Cm w S ρ h){w2:A6}(hh:w2.heap=w.heap.push (.cells vs e))(hos:w2.os=w.os)(htp:w2.tape=w.tape/\w.drawn<=w2.drawn)(hout:w2.output=w.output)
 (hr1:vs.size=C*sz) (hle:n<=C) (hr2: ∀i,i<n->(es i).length=sz/\ ∀(j:Nat) (x:DV) (u:AN),(es i)[j]? =AF x->vs[i*sz+j]? =AF u->C7 w S x u):
 ∃ρ',C4 w S ρ h w2 S ρ' (h++[.arr sz n es]) []/\VR w2 S ρ' (.msl h.length sz Ag n Aj) (.slice (AF ⟨w.heap.size,0,Ag⟩) n C):=by
 have hfresh:ρ h.length=Ag:=hs.fresh (AK _);have k:=Chg.new hs hfresh (.cells vs e) (.arr sz n es) C (fun w' hw'=>⟨vs,e,by rw[hw'];simp,hr1,hle,fun i hi=>⟨(hr2 i hi).1,fun j x u hx hu=>((hr2 i hi).2 j x u hx hu).mono (fun _ h=>h) fun b hb=>by
  rw[hw',Aq,if_neg];have:=hs.sblk b hb;omega⟩⟩)
 exact⟨_,k.world (w2:=w2) hh hos htp hout,.msl _ _ Ag _ Aj (AF w.heap.size) C _ _ (by simp) (by simpa using hle) (by simp) (by simp)⟩
def d2z (w:A6)(S:Nat->Prop)(ρ:Co)(sz n:Nat)(rs:List (List AV))(vs:Array AN):Prop:=
 rs.length=n/\vs.size=n*sz/\ ∀(i:Nat) (r:List AV),rs[i]? =AF r->r.length=sz/\ ∀(j:Nat) (x:AV) (v:AN),r[j]? =AF x->vs[i*sz+j]? =AF v->VR w S ρ x v
theorem d6f {sz n:Nat}{ts:List AV}(hts:Cb w S ρ ts a.tmps): ∀{ps:List (Nat×AZ)} {l:List (Nat×a0h)} {rs r:List (List AV)} {vs:Array AN},
 (ps.mapM fun ix=>do pure (ix.1,<-a0g ix.2))=AF l->d2z w S ρ sz n rs vs->a8q ts sz rs l=AF r->
 ∃vs',BH (fun i=>AF (i*sz,sz)) vs (ps.map fun ix=>(ix.1,a.eval ix.2))=AF vs'/\d2z w S ρ sz n r vs':=by
 intro ps
 induction ps with
 |nil=>intro l rs r vs hl hv hf;simp at hl;subst hl;simp[a8q] at hf;subst hf;exact⟨vs,by simp[BH],hv⟩
 |cons p ps ih=>
  intro l rs r vs hl hv hf;simp[BY,AA] at hl;obtain⟨_,x,⟨hx,rfl⟩,l',hl',rfl⟩:=hl;have hxv:=a0t hts hx;simp only[a8q,a0u,a0i,a0l] at hf;split at hf
  ·rename_i hch;simp only[BD] at hch;have hsz:=AJ hch.1;obtain⟨g1,g2⟩:=a7d hxv hch.2;split at hf
   ·rename_i r0 hr0;obtain⟨e1,e2,e3⟩:=hv;have hi:p.1<n:=by rw[<-e1];exact (AB.1 hr0).1
    have hb:p.1*sz+sz<=n*sz:=by have:(p.1+1)*sz<=n*sz:=AP _ (by omega);rw[Ac] at this;omega
    have e4:(a.eval p.2).cells.size=sz:=by omega
    have e5:(a.eval p.2).cells.toList.length=sz:=by simpa using e4
    have hv':d2z w S ρ sz n (rs.set p.1 (Cy ts x).cells) (vs.toList.take (p.1*sz)++(a.eval p.2).cells.toList++vs.toList.drop (p.1*sz+(a.eval p.2).cells.toList.length)).toArray:=by
     refine⟨by simpa using e1,by simp only[BM,AQ,AO,A4,AW];omega,fun i rr hrr=> ?_⟩;have hin:i<n:=by have:=(AB.1 hrr).1;simp at this;omega
     by_cases hip:i=p.1
     ·subst hip;rw[AT (by omega)] at hrr;cases hrr;refine⟨hsz,fun j y v hy hv=>g2 j y v hy ?_⟩;have hj:j<sz:=by rw[<-hsz];exact (AB.1 hy).1
      simp only[Af] at hv;rw[AY,AD (by simp;omega),AE (by simp only[AO,AW] at*;omega)] at hv;rw[show p.1*sz+j-(CF (p.1*sz) vs.toList).length=j by simp only[AO,AW];omega] at hv;simpa using hv
     ·rw[AR (Av hip)] at hrr;obtain⟨h5,h6⟩:=e3 i rr hrr;refine⟨h5,fun j y v hy hv=>h6 j y v hy ?_⟩;have hj:j<sz:=by rw[<-h5];exact (AB.1 hy).1
      simp only[Af] at hv;rcases Nat.lt_or_gt_of_ne hip with h7|h7
      ·have:(i+1)*sz<=p.1*sz:=AP _ (by omega);rw[Ac] at this;rw[AY,AE (by simp only[AO,AW];omega),Ab (by omega)] at hv;simpa using hv
      ·have:(p.1+1)*sz<=i*sz:=AP _ (by omega);rw[Ac] at this;rw[AD (by simp only[AQ,AO,AW] at*;omega),Ax] at hv;rw[show p.1*sz+(a.eval p.2).cells.toList.length+(i*sz+j-(CF (p.1*sz) vs.toList++(a.eval p.2).cells.toList).length)=i*sz+j by simp only[AQ,AO,AW] at*;omega] at hv;simpa using hv
    obtain⟨vs',h3,h4⟩:=ih (by simpa using hl') hv' hf;refine⟨vs',?_,h4⟩;simp only[B9,BH];rw[if_neg (by simp[e4];omega)];rw[<-h3];congr 1;exact a9n _ _ vs (by omega)
   ·cases hf
  ·cases hf
theorem c9e {sz:Nat}{rs:List (List AV)}: ∀{h:List a0f} {S:Nat->Prop} {rows:Nat->List AN} {K:List (List DV)->List a0f->Prop},Cm w S ρ h->
 (∀i r,rs[i]? =AF r->r.length=sz/\(rows i).length=sz/\ ∀(j:Nat) (x:AV) (v:AN),r[j]? =AF x->(rows i)[j]? =AF v->VR w S ρ x v)->a4s (Az P A ro E) h rs K->
 ∃rs' h' S',K rs' h'/\Frz w S ρ h S' h'/\rs'.length=rs.length/\ ∀i r,rs'[i]? =AF r->r.length=sz/\ ∀(j:Nat) (x:DV) (v:AN),r[j]? =AF x->(rows i)[j]? =AF v->C7 w S' x v:=by
 induction rs with
 |nil=>intro h S rows K hs _ hk;exact⟨[],h,S,hk,.refl hs,rfl,by simp⟩
 |cons r rs ih=>
  intro h S rows K hs hv hk;obtain⟨h1,h1',h2⟩:=hv 0 r (by simp);simp only[a4s] at hk;obtain⟨cs,h3,S3,hk,k3,hl3,hv3⟩:=a5l hs (vs:=rows 0) (by omega) h2 hk;split at hk
  ·rename_i l hl;obtain⟨g1,g2⟩:=d1o hl;obtain⟨rs',h4,S4,hk,k4,hl4,hv4⟩:=ih (rows:=fun i=>rows (i+1)) k3.sim (fun i r hr=>by
    obtain⟨h5,h6,h7⟩:=hv (i+1) r (by simpa using hr);exact⟨h5,h6,fun j x v hx hv=>k3.vr (h7 j x v hx hv)⟩) hk
   refine⟨_,h4,S4,hk,k3.trans k4,by simp[hl4],fun i r' hr'=> ?_⟩;cases i with
   |zero=>simp at hr';subst hr';refine⟨by omega,fun j x v hx hv=> ?_⟩;obtain⟨y,hy,hyr⟩:=g2 j x hx;exact hyr (k4.vr (hv3 j _ v hy hv))
   |succ i=>simp at hr';exact hv4 i r' hr'
  ·exact hk.elim
theorem b9u {Sg:Sig}{cs:List AV}{h:List a0f}: ∀{l:List DV} {K:List AV->List a0f->Prop},dvs cs=AF l->K cs h->a3t Sg h cs K:=by
 induction cs with
 |nil=>intro l K _ hk;exact hk
 |cons c cs ih=>
  intro l K hd hk;have hc: ∀{K:AV->List a0f->Prop},K c h->a2m Sg h c K:=by
   intro K hk;unfold dvs at hd;split at hd
   ·rename_i heq;cases heq
   ·rename_i heq;cases heq;exact hk
   ·rename_i heq;cases heq;exact hk
   ·cases hd
  have hd': ∃l',dvs cs=AF l':=by
   unfold dvs at hd;split at hd
   ·rename_i heq;cases heq
   ·rename_i heq;cases heq;split at hd
    ·rename_i l' hl';exact⟨l',hl'⟩
    ·cases hd
   ·rename_i heq;cases heq;split at hd
    ·rename_i l' hl';exact⟨l',hl'⟩
    ·cases hd
   ·cases hd
  obtain⟨l',hl'⟩:=hd';exact hc (ih hl' hk)
theorem c0y {Sg:Sig}{rs:List (List AV)}{h:List a0f}: ∀{rows:List (List DV)} {K:List (List DV)->List a0f->Prop},d9t rs=AF rows->K rows h->a4s Sg h rs K:=by
 induction rs with
 |nil=>intro rows K hd hk;cases hd;exact hk
 |cons r rs ih=>
  intro rows K hd hk;unfold d9t at hd;split at hd
  ·rename_i l ls h1 h2;cases hd;refine b9u h1 ?_;rw[h1];exact ih h2 hk
  ·cases hd
theorem c9n {Sg:Sig}{sz n:Nat}{zs:List DV}{l:List (Nat×a0h)}{st:St}{K:AV->List a0f->List Nat->Prop}(hk:a0a Sg (.bsliceP sz n zs l) st K):a0a Sg (.bslice sz n zs l Aj) st K:=by
 simp only[a0a] at hk⊢;split at hk
 ·split at hk
  ·rename_i h1;refine c0y h1 ?_;exact hk
  ·exact hk.elim
 ·exact hk.elim
theorem c3b {t e:AX}{n:Nat}{ps:Array (Nat×AZ)}(hop:o.op= .buildSlice t n ps)(ht:P.underlying t=AF (.slice e)){sz:Nat}{zs:List DV}(hsz:a1x P e=AF sz)(hz:a5d P e=AF zs)
 (hzl:zs.length=sz) (hsm:n*sz<=1000000) {l:List (Nat×a0h)} (hl:(ps.toList.mapM fun ix=>do pure (ix.1,<-a0g ix.2))=AF l) {mu:Bool}
 (hk:a0a (Az P A ro E) (.bslice sz n zs l mu) st K) (hr:Bx E st a w S ρ):Bl P o a w S ρ st.h K:=by
 obtain⟨hn0,hszr⟩:=a1s hsz;obtain⟨i,z,hi,hz0,hd⟩:=a5f hz;obtain⟨d1,d2⟩:=a4y hd;simp only[a0a,a5m,a7i] at hk;split at hk
 ·rename_i rs hf;have h0:d2z w S ρ sz n (BN n (zs.map AV.d)) ((BA (n*sz)).map (z.cells[· % z.cells.size]!)):=by
   refine⟨by simp,by simp,fun i' r hr'=> ?_⟩;have hi':i'<n:=by have:=(AB.1 hr').1;simpa using this
   rw[List.getElem?_replicate] at hr';simp[hi'] at hr';subst hr';refine⟨by simpa using hzl,fun j x v hx hv=> ?_⟩;simp at hx;obtain⟨y,hy,rfl⟩:=hx;exact .d (a2r hd hzl n S w i' hi' j y v hy hv)
  obtain⟨vs,hfill,e1,e2,e3⟩:=d6f hr.ts hl h0 hf;have hfill':BH (fun i=>AF (i*sz,sz)) ((BA (n*sz)).map (z.cells[· % z.cells.size]!)) (ps.map fun ix=>(ix.1,a.eval ix.2)).toList=AF vs:=by simpa using hfill
  have hrun:(AU a.eval o).run P w= .ok (.value (.slice (AF ⟨w.heap.size,0,Ag⟩) n n)) (w.alloc (.cells vs e)):=by
   have hb: ¬n*sz>16777216:=by omega
   have r0: ∀f:Nat->AN,(BA 0).map f= #[]:=fun f=>by apply BI;simp
   by_cases hm:n*sz=0
   ·have hf0:BH (fun i=>AF (i*sz,sz)) (#[]:Array AN) (ps.map fun ix=>(ix.1,a.eval ix.2)).toList=AF vs:=by rw[hm,r0] at hfill';exact hfill'
    simp at hf0;simp[AU,hop,Bt,AI ht,hszr,hm,r0,hf0,DB]
   ·simp at hfill';simp[AU,hop,Bt,AI ht,hszr,hb,hm,a3m hi hz0,hfill',DB]
  have hrow: ∀i',i'<n-> ∃r,rs[i']? =AF r:=fun i' hi'=>⟨rs[i']'(by omega),AS (by omega)⟩;have hlt: ∀i' j,i'<n->j<sz->i'*sz+j<vs.size:=by intro i' j hi' hj;rw[e2];have:(i'+1)*sz<=n*sz:=AP _ (by omega);rw[Ac] at this;omega
  obtain⟨rs',h',S',hk,k,hl',hv'⟩:=c9e hr.sim (sz:=sz) (rows:=fun i'=>(Cv sz).map fun j=>vs.getD (i'*sz+j) CX) (fun i' r hr'=>by
   have hi':i'<n:=by rw[<-e1];exact (AB.1 hr').1
   obtain⟨h5,h6⟩:=e3 i' r hr';refine⟨h5,by simp,fun j x v hx hv=>h6 j x v hx ?_⟩;have hj:j<sz:=by rw[<-h5];exact (AB.1 hx).1
   simp only[Ad,Bm hj,A7,AC] at hv;subst hv;exact getD_some _ _ (hlt i' j hi' hj)) hk
  have hes: ∀i',i'<n->(rowAt rs' i').length=sz/\ ∀(j:Nat) (x:DV) (u:AN),(rowAt rs' i')[j]? =AF x->vs[i'*sz+j]? =AF u->C7 w S' x u:=by
   intro i' hi';have hx':rs'[i']? =AF (rs'[i']'(by omega)):=AS (by omega);rw[a1k,hx'];obtain⟨h5,h6⟩:=hv' i' _ hx';refine⟨h5,fun j x u hx hu=>h6 j x u hx ?_⟩;have hj:j<sz:=by have:=(AB.1 hx).1;simp only[Option.getD_some] at this;rw[h5] at this;exact this
   simp only[Ad,Bm hj,A7];rw[getD_some _ _ (hlt i' j hi' hj)] at hu;exact hu
  have c1:=k.chg;cases mu with
  |true=>simp only[if_true,a0u,a0r] at hk;obtain⟨ρ',c2,hv2⟩:=c9m k.sim (w2:=w.alloc (.cells vs e)) rfl rfl ⟨rfl,AK _⟩ rfl e2 (AK n) hes;exact⟨_,_,_,_,[],S',ρ',.inl hrun,hk,⟨c2.sim,CM c1.len c2.len,c1.ext.trans c2.ext,fun m p _ hp=>c2.keep m p (by simp) hp,fun m hm _=>c2.low m (Ba hm c1.len) (by simp)⟩,hv2⟩
  |false=>simp only[Ay,if_false] at hk;obtain⟨c2,hv2⟩:=c2r k.sim (w2:=w.alloc (.cells vs e)) rfl rfl ⟨rfl,AK _⟩ rfl e2 (AK n) hes;exact⟨_,_,_,_,[],_,ρ,.inl hrun,hk,⟨c2.sim,CM c1.len c2.len,c1.ext.trans c2.ext,fun _ _ _ hp=>hp,fun _ _ _=>rfl⟩,hv2⟩
 ·exact hk.elim
end
theorem c7h {α β:Type}{f:α->Option β}: ∀{l:List α},(∀x,x∈l-> ∃y,f x=AF y)-> ∃ys,l.mapM f=AF ys:=by
 intro l
 induction l with
 |nil=>intro _;exact⟨[],rfl⟩
 |cons x l ih=>intro h;obtain⟨y,hy⟩:=h x (by simp);obtain⟨ys,hys⟩:=ih fun z hz=>h z (by simp[hz]);exact⟨y::ys,by simp[BY,hy,hys]⟩
def c1q (ks:List Ak)(cs:List AN)(off:Nat):Prop:= ∀(i:Nat) (k:Ak),ks[i]? =AF k-> ∃n,cs[off+i]? =AF (.int k n)/\(Lit.int k n).wf=An
theorem c6x {α:Type}(l:List α): ∀(n i j:Nat),i<n->j<l.length->((BN n l).flatten)[i*l.length+j]? =l[j]? :=by
 intro n
 induction n with
 |zero=>intro i j hi;omega
 |succ n ih=>
  intro i j hi hj;simp only[List.replicate_succ,List.flatten_cons];cases i with
  |zero=>rw[AE (by omega)];simp
  |succ i=>rw[AD (by rw[Bd];omega),<-ih i j (by omega) hj];congr 1;rw[Bd];omega
theorem b9o {cs:List AN}{off sz i:Nat}(hi:i<sz):((cs.drop off).take sz)[i]? =cs[off+i]? :=by rw[Ab hi,Ax]
section
variable {P:CG}
theorem c6i (m:Nat): ∀(n:Nat) (t:AX) (ks:List Ak),b9c P n t=AF ks-> ∀(cs:List AN),cs.length=ks.length->c1q ks cs 0-> ∃L,P.keyLits (n+m) t cs=AF L:=by
 intro n
 induction n with
 |zero=>intro t ks h;simp[b9c] at h
 |succ n ih=>
  intro t ks h cs hl hc;rw[show n+1+m=(n+m)+1 by omega];have sub: ∀{e:AX} {ks':List Ak} {off:Nat},b9c P n e=AF ks'->ks'.length=P.cellsOf e->off+ks'.length<=cs.length->c1q ks' cs off-> ∃L,P.keyLits (n+m) e ((cs.drop off).take (P.cellsOf e))=AF L:=by intro e ks' off he hlen hle hi;refine ih e ks' he _ (by rw[<-hlen,AO,A4];omega) fun i k hk=> ?_;obtain⟨x,hx,hw⟩:=hi i k hk;refine⟨x,?_,hw⟩;rw[A3,b9o (by rw[<-hlen];exact (AB.1 hk).1)];exact hx
  simp only[b9c] at h;unfold Program.keyLits;split at h
  ·rename_i k hu;split at h
   ·simp at h;subst h;obtain⟨x,hx,hw⟩:=hc 0 k rfl
    match cs,hl with
    |[c],_=>simp at hx;subst hx;simp only[hu];exact⟨_,by rw[if_pos (by simp[hw])]⟩
   ·cases h
  ·rename_i fs hu;simp only[AG,AA] at h;obtain⟨ks',hf,h⟩:=h;split at h
   ·rename_i hcond;simp at h;subst h;have key: ∀(l:List DA) (off:Nat) (ks0:List Ak),a9y P (b9c P n) l off=AF ks0->off+ks0.length<=cs.length->c1q ks0 cs off-> ∃Ls,(l.mapM fun f=>P.keyLits (n+m) f.type ((cs.drop f.offset).take (P.cellsOf f.type)))=AF Ls:=by
     intro l
     induction l with
     |nil=>intro off ks0 _ _ _;exact⟨[],rfl⟩
     |cons f l ihl=>
      intro off ks0 h hle hi;simp only[a9y,AG,AA] at h;obtain⟨k1,h1,h⟩:=h;split at h
      ·rename_i hc1;simp only[AA,AH,AC] at h;obtain⟨k2,h2,rfl⟩:=h;simp only[AQ] at hle;obtain⟨L,hL⟩:=sub h1 hc1.2 (off:=off) (by omega) (fun i k hk=>hi i k (by rw[AE (AB.1 hk).1];exact hk));obtain⟨Ls,hLs⟩:=ihl (off+k1.length) k2 h2 (by omega) (fun i k hk=>by
        rw[Nat.add_assoc];exact hi (k1.length+i) k (by rw[AD (by omega),Bc];exact hk))
       exact⟨L::Ls,by simp[BY,hc1.1,hL,hLs]⟩
      ·cases h
    obtain⟨Ls,hLs⟩:=key fs.toList 0 ks' hf (by omega) hc;simp only[hu];rw[if_pos ⟨by rw[hl];exact hcond.1,hcond.2⟩,hLs];exact⟨_,rfl⟩
   ·cases h
  ·rename_i nn e hu;simp only[AG,AA] at h;obtain⟨ks',hf,h⟩:=h;split at h
   ·rename_i hcond;simp at h;subst h;have hlen:(BN nn ks').flatten.length=nn*ks'.length:=by simp
    have: ∃Ls,((Cv nn).mapM fun i=>P.keyLits (n+m) e ((cs.drop (i*P.cellsOf e)).take (P.cellsOf e)))=AF Ls:=by
     refine c7h fun i hi=> ?_;have hi:i<nn:=by simpa using hi
     refine sub hf hcond.1 ?_ fun j k hk=> ?_
     ·rw[hl,hlen,<-hcond.1];have:(i+1)*ks'.length<=nn*ks'.length:=AP _ hi;rw[Bd] at this;exact this
     ·have hj:=(AB.1 hk).1;obtain⟨x,hx,hw⟩:=hc (i*ks'.length+j) k (by rw[c6x ks' nn i j hi hj];exact hk);rw[<-hcond.1];exact⟨x,by rw[A3] at hx;exact hx,hw⟩
    obtain⟨Ls,hLs⟩:=this;simp only[hu];rw[if_pos (by rw[hl,hlen,hcond.1];exact hcond.2),hLs];exact⟨_,rfl⟩
   ·cases h
  ·cases h
theorem d2x {n:Nat}{t:AX}{ks:List Ak}(h:b9c P n t=AF ks):ks.length=P.cellsOf t:=by
 cases n with
 |zero=>simp[b9c] at h
 |succ n=>
  simp only[b9c] at h;split at h
  ·split at h
   ·rename_i hc;simp at h;subst h;exact hc.symm
   ·cases h
  ·simp only[AG,AA] at h;obtain⟨ks',hf,h⟩:=h;split at h
   ·rename_i hc;simp at h;subst h;exact hc.1
   ·cases h
  ·simp only[AG,AA] at h;obtain⟨ks',hf,h⟩:=h;split at h
   ·rename_i hc;simp at h;subst h;simp[hc.1,hc.2]
   ·cases h
  ·cases h
theorem c4q {ks:List Ak}{ns:List Int}{cs:List AN}(hl:ns.length=ks.length)(hc:cs=Bq Br ks ns)(hw: ∀(i:Nat) (k:Ak) (n:Int),ks[i]? =AF k->ns[i]? =AF n->k.wrap n=n):
 cs.length=ks.length/\c1q ks cs 0:=by
 subst hc;refine⟨by simp[hl],fun i k hk=> ?_⟩;have hi:=(AB.1 hk).1;have hn:ns[i]? =AF ns[i]:=AS (by omega);refine⟨ns[i],?_,?_⟩
 ·rw[A3,List.getElem?_zipWith,hk,hn]
 ·have:=WideShapes.wf_wrap k ns[i];rw[hw i k ns[i] hk hn] at this;exact this
theorem a7q (hl:Bo P=An){t:AX}{wide:Bool}{ks:List Ak}(h:c5c P t=AF (wide,ks)):
 Maps.Keyed P t/\(∀v,a1m wide ks v-> ∃l,C9 P t v=AF l)/\
  (wide=An->P.keyTypeAt 20 t=An/\(match P.underlying t with|some (.array _ _)|some (.struct _)=>An|_=>Aj)=An):=by
 simp only[c5c,AG,AA] at h;obtain⟨ks',hf,h⟩:=h;have wideCase:P.keyTypeAt 20 t=An/\P.keyType t=An/\t<P.types.size->(match P.underlying t with|some (.array _ _)|some (.struct _)=>An|_=>Aj)=An->wide=An->ks'=ks->
  Maps.Keyed P t/\(∀v,a1m wide ks v-> ∃l,C9 P t v=AF l)/\(wide=An->P.keyTypeAt 20 t=An/\(match P.underlying t with|some (.array _ _)|some (.struct _)=>An|_=>Aj)=An):=by
  rintro⟨h1,h2,h3⟩ hw rfl rfl;refine⟨Maps.Keyed.of_law (deep_law_laid hl (m:=20) (by omega) h3 h1 hw),fun v hv=> ?_,fun _=>⟨h1,hw⟩⟩;obtain⟨hs,ns,hn,hc,hr⟩:=hv;simp only[if_true] at hs;obtain⟨cs,rfl⟩:=hs;obtain⟨h5,h6⟩:=c4q hn hc hr;obtain⟨L,hL⟩:=c6i (P:=P) 0 (P.types.size+1) t ks' hf _ h5 h6;have hfm:(Cr cs).formed P t=An:=by
   simp only[Aw];have hsz:cs.size=P.cellsOf t:=by
    have h7:cs.size=ks'.length:=by rw[<-h5];rfl
    rw[h7];exact d2x hf
   split at hw
   ·rename_i hu;rw[hu];simp[hsz]
   ·rename_i hu;rw[hu];simp[hsz]
   ·cases hw
  refine⟨.string (keyBytes L),?_⟩;unfold C9;split at hw
  ·rename_i hu;rw[hu];simp only[h2,hfm,Cj,if_true,hL,A7]
  ·rename_i hu;rw[hu];simp only[h2,hfm,Cj,if_true,hL,A7]
  ·cases hw
 split at h
 ·rename_i k hu;simp only[AH,AC,Prod.mk.injEq] at h;obtain⟨rfl,rfl⟩:=h;refine⟨Maps.int_keyed hu,fun v hv=> ?_,fun h=>by cases h⟩;obtain⟨hs,ns,hn,hc,hr⟩:=hv;simp only[b9c,hu] at hf;split at hf
  ·simp at hf;subst hf;obtain⟨k',n,rfl⟩:=by simpa using hs
   match ns,hn with
   |[n'],_=>simp[BQ] at hc;obtain⟨rfl,rfl⟩:=hc;refine⟨_,Maps.keyOf_int_mk hu ?_⟩;have:=WideShapes.wf_wrap k' n;rw[hr 0 k' n rfl rfl] at this;exact this
  ·cases hf
 ·rename_i fs hu;split at h
  ·rename_i hc;simp only[AH,AC,Prod.mk.injEq] at h;exact wideCase (by simpa using hc) (by rw[hu]) h.1.symm h.2
  ·cases h
 ·rename_i n e hu;split at h
  ·rename_i hc;simp only[AH,AC,Prod.mk.injEq] at h;exact wideCase (by simpa using hc) (by rw[hu]) h.1.symm h.2
  ·cases h
 ·cases h
theorem b3j {ks:List Ak}{ns:List Int}(hl:ns.length=ks.length):(Bq Br ks ns).mapM KC.ofValue=AF (ns.map KC.i):=by
 induction ks generalizing ns with
 |nil=>cases ns with
  |nil=>rfl
  |cons n ns=>simp at hl
 |cons k ks ih=>cases ns with
  |nil=>simp at hl
  |cons n ns=>simp[BY,KC.ofValue,ih (by simpa using hl)]
theorem a1m.key {wide:Bool}{ks:List Ak}{v:AN}(h:a1m wide ks v): ∃ns:List Int,ns.length=ks.length/\v.cells.toList=Bq Br ks ns/\Ar v=AF (ns.map KC.i):=by obtain⟨_,ns,h1,h2,_⟩:=h;exact⟨ns,h1,h2,by rw[Ar,h2];exact b3j h1⟩
theorem a1m.inj {wide:Bool}{ks:List Ak}{v v':AN}(h:a1m wide ks v)(h':a1m wide ks v')(he:Ar v=Ar v'):v=v':=by
 obtain⟨ns,h1,h2,h3⟩:=h.key;obtain⟨ns',h1',h2',h3'⟩:=h'.key;rw[h3,h3'] at he;have hi:ns=ns':=by
  have:ns.map KC.i=ns'.map KC.i:=by simpa using he
  exact (List.map_inj_right (fun a b hab=>by cases hab;rfl)).1 this
 subst hi;have hc:v.cells=v'.cells:=by apply BI;rw[h2,h2']
 have hs:=h.1;have hs':=h'.1;cases wide with
 |true=>
  obtain⟨cs,rfl⟩:=by simpa using hs
  obtain⟨cs',rfl⟩:=by simpa using hs'
  simp[BQ] at hc;rw[hc]
 |false=>
  obtain⟨k,n,rfl⟩:=by simpa using hs
  obtain⟨k',n',rfl⟩:=by simpa using hs'
  simpa [BQ] using hc
theorem b2y {wide:Bool}{ks:List Ak}{x:AN}{kc:List KC}(hx:a1m wide ks x)(hk:Ar x=AF kc): ∀{es:List Al},(∀e,e∈es->a1m wide ks e.key)->es.Pairwise (fun a b=>a.key≠b.key)-> ∀{e:Al} {n:Int},e∈es->e.key=x->e.val= .int .i64 n->
 a7b kc es=AF n:=by
 intro es
 induction es with
 |nil=>intro _ _ e n he;cases he
 |cons e0 es ih=>
  intro hs hnd e n he hkx hv;have hnd:=BX.1 hnd;unfold a7b;rcases Ch.1 he with rfl|he
  ·rw[hkx,hk,if_pos rfl,hv]
  ·rw[if_neg (fun h=> ?_)]
   ·exact ih (fun e he=>hs e (by simp[he])) hnd.2 he hkx hv
   ·have:=(hs e0 (by simp)).inj hx (by rw[h,hk]);exact hnd.1 e he (by rw[this,hkx])
theorem b3b {wide:Bool}{ks:List Ak}{x:AN}{kc:List KC}(hx:a1m wide ks x)(hk:Ar x=AF kc): ∀{es:List Al},(∀e,e∈es->a1m wide ks e.key)->(∀e,e∈es->e.key≠x)->a7b kc es=Ag:=by
 intro es
 induction es with
 |nil=>intro _ _;rfl
 |cons e0 es ih=>
  intro hs hne;unfold a7b;rw[if_neg (fun h=> ?_)]
  ·exact ih (fun e he=>hs e (by simp[he])) fun e he=>hne e (by simp[he])
  ·exact hne e0 (by simp) ((hs e0 (by simp)).inj hx (by rw[h,hk]))
theorem c5w {x:AN}{kc:List KC}(hk:Ar x=AF kc){v:Int}{born:Nat}: ∀{es:List Al},(∀e,e∈es-> ∃m,e.val= .int .i64 m)->a7b kc es=Ag-> ∀k,a7b k (es++[⟨x,.int .i64 v,born⟩])=if k=kc then AF v else a7b k es:=by
 intro es
 induction es with
 |nil=>
  intro _ _ k;simp only[List.nil_append,a7b,hk,AC];by_cases h:kc=k
  ·rw[if_pos h,if_pos h.symm]
  ·rw[if_neg h,if_neg (Av h)]
 |cons e es ih=>
  intro hv hn k;obtain⟨m,hm⟩:=hv e (by simp);simp only[CW,a7b] at hn⊢;by_cases h:Ar e.key=AF k
  ·rw[if_pos h,if_pos h];by_cases hc:k=kc
   ·subst hc;rw[if_pos h,hm] at hn;cases hn
   ·rw[if_neg hc]
  ·rw[if_neg h,if_neg h];refine ih (fun e he=>hv e (by simp[he])) ?_ k;by_cases hc:Ar e.key=AF kc
   ·rw[if_pos hc,hm] at hn;cases hn
   ·rw[if_neg hc] at hn;exact hn
theorem c7y {x:AN}{kc:List KC}{wide:Bool}{ks:List Ak}(hx:a1m wide ks x)(hk:Ar x=AF kc){v:Int}{e':Al}(he':e'.key=x)(hv':e'.val= .int .i64 v):
 ∀{es:List Al} {j:Nat} {e:Al},(∀e,e∈es->a1m wide ks e.key)->es.Pairwise (fun a b=>a.key≠b.key)->es[j]? =AF e->e.key=x-> ∀k,a7b k (es.set j e')=if k=kc then AF v else a7b k es:=by
 intro es
 induction es with
 |nil=>intro j e _ _ h;simp at h
 |cons e0 es ih=>
  intro j e hs hnd hj hkx k;have hnd:=BX.1 hnd;cases j with
  |zero=>
   simp only[BJ,AC] at hj;subst hj;simp only[List.set_cons_zero,a7b,he',hk,hkx,hv',AC];by_cases h:kc=k
   ·rw[if_pos h,if_pos h.symm]
   ·rw[if_neg h,if_neg h,if_neg (Av h)]
  |succ j=>
   simp only[BK] at hj;have hmem:=As hj;simp only[List.set_cons_succ,a7b];by_cases h:Ar e0.key=AF k
   ·rw[if_pos h,if_pos h,if_neg];intro hc;subst hc;have:=(hs e0 (by simp)).inj hx (by rw[h,hk]);exact hnd.1 e hmem (by rw[this,hkx])
   ·rw[if_neg h,if_neg h];exact ih (fun e he=>hs e (by simp[he])) hnd.2 hj hkx k
def a6s (es:List Al)(keys:List (List KC)):Prop:=keys.length=es.length/\ ∀(i:Nat) (e:Al) (k:List KC),es[i]? =AF e->keys[i]? =AF k->Ar e.key=AF k
theorem a6s.tail {e:Al}{es:List Al}{k:List KC}{keys:List (List KC)}(h:a6s (e::es) (k::keys)):Ar e.key=AF k/\a6s es keys:=
 ⟨h.2 0 e k rfl rfl,by simpa using h.1,fun i e' k' he hk=>h.2 (i+1) e' k' (by simpa using he) (by simpa using hk)⟩
theorem d5n {wide:Bool}{ks:List Ak}{x:AN}{kc:List KC}(hx:a1m wide ks x)(hk:Ar x=AF kc)(y:AV): ∀{es:List Al} {keys:List (List KC)} {vals:List AV},a6s es keys->(∀e,e∈es->a1m wide ks e.key)->(∀e,e∈es->e.key≠x)->
 b1j kc keys vals=Ag/\c7m kc y keys vals=Ag:=by
 intro es
 induction es with
 |nil=>intro keys vals ha _ _;have:keys=[]:=Au.1 ha.1;subst this;cases vals<;>exact⟨rfl,rfl⟩
 |cons e es ih=>
  intro keys vals ha hs hne;cases keys with
  |nil=>have:=ha.1;simp at this
  |cons k keys=>
   obtain⟨h1,h2⟩:=ha.tail;cases vals with
   |nil=>exact⟨rfl,rfl⟩
   |cons v vals=>have hkk: ¬k=kc:=fun h=>hne e (by simp) ((hs e (by simp)).inj hx (by rw[h1,hk,h]));obtain⟨i1,i2⟩:=ih (vals:=vals) h2 (fun e he=>hs e (by simp[he])) fun e he=>hne e (by simp[he]);rw[b1j,c7m,if_neg hkk,if_neg hkk,i1,i2];exact⟨rfl,rfl⟩
theorem d5g {wide:Bool}{ks:List Ak}{x:AN}{kc:List KC}(hx:a1m wide ks x)(hk:Ar x=AF kc)(y:AV): ∀{es:List Al} {keys:List (List KC)} {vals:List AV} {j:Nat} {e:Al},a6s es keys->vals.length=es.length->(∀e,e∈es->a1m wide ks e.key)->
 es.Pairwise (fun a b=>a.key≠b.key)->es[j]? =AF e->e.key=x->(∃v,vals[j]? =AF v/\b1j kc keys vals=AF v)/\c7m kc y keys vals=AF (vals.set j y):=by
 intro es
 induction es with
 |nil=>intro keys vals j e _ _ _ _ h;simp at h
 |cons e0 es ih=>
  intro keys vals j e ha hl hs hnd hj hkx;have hnd:=BX.1 hnd;cases keys with
  |nil=>have:=ha.1;simp at this
  |cons k keys=>
   obtain⟨h1,h2⟩:=ha.tail;cases vals with
   |nil=>simp at hl
   |cons v vals=>
    cases j with
    |zero=>
     simp only[BJ,AC] at hj;subst hj;have hkk:k=kc:=by rw[hkx,hk] at h1;exact (CI h1).symm
     refine⟨⟨v,rfl,by rw[b1j,if_pos hkk]⟩,by rw[c7m,if_pos hkk];rfl⟩
    |succ j=>simp only[BK] at hj;have hmem:=As hj;have hkk: ¬k=kc:=fun h=>hnd.1 e hmem ((hs e0 (by simp)).inj (hs e (by simp[hmem])) (by rw[h1,hkx,hk,h]));obtain⟨⟨v',i1,i2⟩,i3⟩:=ih (vals:=vals) h2 (by simpa using hl) (fun e he=>hs e (by simp[he])) hnd.2 hj hkx;refine⟨⟨v',by simpa using i1,by rw[b1j,if_neg hkk];exact i2⟩,?_⟩;rw[c7m,if_neg hkk,i3];rfl
theorem c8e {wide:Bool}{ks:List Ak}{x:AN}{kc:List KC}(hx:a1m wide ks x)(hk:Ar x=AF kc): ∀{es:List Al} {keys:List (List KC)} (n:Nat),a6s es keys->(∀e,e∈es->a1m wide ks e.key)->(∀e,e∈es->e.key≠x)->
 c9t kc keys n=Ag:=by
 intro es
 induction es with
 |nil=>intro keys n ha _ _;have:keys=[]:=Au.1 ha.1;subst this;rfl
 |cons e es ih=>
  intro keys n ha hs hne;cases keys with
  |nil=>have:=ha.1;simp at this
  |cons k keys=>obtain⟨h1,h2⟩:=ha.tail;have hkk: ¬k=kc:=fun h=>hne e (by simp) ((hs e (by simp)).inj hx (by rw[h1,hk,h]));rw[c9t,if_neg hkk];exact ih (n+1) h2 (fun e he=>hs e (by simp[he])) fun e he=>hne e (by simp[he])
theorem c7o {wide:Bool}{ks:List Ak}{x:AN}{kc:List KC}(hx:a1m wide ks x)(hk:Ar x=AF kc): ∀{es:List Al} {keys:List (List KC)} {j:Nat} {e:Al} (n:Nat),a6s es keys->(∀e,e∈es->a1m wide ks e.key)->
 es.Pairwise (fun a b=>a.key≠b.key)->es[j]? =AF e->e.key=x->c9t kc keys n=AF (n+j):=by
 intro es
 induction es with
 |nil=>intro keys j e n _ _ _ h;simp at h
 |cons e0 es ih=>
  intro keys j e n ha hs hnd hj hkx;have hnd:=BX.1 hnd;cases keys with
  |nil=>have:=ha.1;simp at this
  |cons k keys=>
   obtain⟨h1,h2⟩:=ha.tail;cases j with
   |zero=>
    simp only[BJ,AC] at hj;subst hj;have hkk:k=kc:=by rw[hkx,hk] at h1;exact (CI h1).symm
    rw[c9t,if_pos hkk];rfl
   |succ j=>simp only[BK] at hj;have hmem:=As hj;have hkk: ¬k=kc:=fun h=>hnd.1 e hmem ((hs e0 (by simp)).inj (hs e (by simp[hmem])) (by rw[h1,hkx,hk,h]));rw[c9t,if_neg hkk,ih (n+1) h2 (fun e he=>hs e (by simp[he])) hnd.2 hj hkx];congr 1;omega
section
variable {A:Ann} {ro:Option Nat} {E:Ent} {w:A6} {S:Nat->Prop} {ρ:Co}
theorem c3a: ∀{ks:List Ak} {cs:List AV} {vs:List AN} {K:List KC->Prop},cs.length=vs.length->(∀(i:Nat) (x:AV) (v:AN),cs[i]? =AF x->vs[i]? =AF v->VR w S ρ x v)->a4f (Az P A ro E) ks cs K->
 ∃ns:List Int,ns.length=ks.length/\vs=Bq Br ks ns/\(∀(i:Nat) (k:Ak) (n:Int),ks[i]? =AF k->ns[i]? =AF n->k.wrap n=n)/\K (ns.map KC.i):=by
 intro ks
 induction ks with
 |nil=>
  intro cs vs K hl hv hk;cases cs with
  |nil=>cases vs with
   |nil=>exact⟨[],rfl,rfl,by simp,hk⟩
   |cons v vs=>simp at hl
  |cons c cs=>exact hk.elim
 |cons k ks ih=>
  intro cs vs K hl hv hk;cases cs with
  |nil=>exact hk.elim
  |cons c cs=>
   cases vs with
   |nil=>simp at hl
   |cons v vs=>
    cases c with
    |d x=>
     cases x with
     |int k' x=>
      simp only[a4f] at hk;split at hk
      ·rename_i hc;subst hc;obtain⟨ns,h1,h2,h3,h4⟩:=ih (by simpa using hl) (fun i x v hx hv'=>hv (i+1) x v (by simpa using hx) (by simpa using hv')) hk.2;have h0:=(hv 0 (.d (.int k x)) v (by simp) (by simp)).int;refine⟨x.val::ns,by simp[h1],by simp[h0,h2],fun i k' n hk' hn=> ?_,h4⟩;cases i with
       |zero=>simp at hk' hn;subst hk';subst hn;exact hk.1
       |succ i=>exact h3 i k' n (by simpa using hk') (by simpa using hn)
      ·exact hk.elim
     |_=>exact hk.elim
    |_=>exact hk.elim
theorem a7u {wide:Bool}{ks:List Ak}{x:AV}{v:AN}{K:List KC->Prop}(hv:VR w S ρ x v)(hk:a2z (Az P A ro E) wide ks x K): ∃kc,a1m wide ks v/\Ar v=AF kc/\K kc:=by
 have one: ∀{x:AV} {v:AN},VR w S ρ x v->a4f (Az P A ro E) ks [x] K->wide=Aj-> ∃kc,a1m wide ks v/\Ar v=AF kc/\K kc:=by
  intro x1 v1 hv1 hk1 hw;subst hw;obtain⟨ns,h1,h2,h3,h4⟩:=c3a (cs:=[x1]) (vs:=[v1]) rfl (fun i x' v' hx hv'=>by
   cases i with
   |zero=>simp at hx hv';subst hx;subst hv';exact hv1
   |succ i=>simp at hx) hk1
  match ks,ns,h1 with
  |[],[],_=>simp at h2
  |[k],[n],_=>simp at h2;subst h2;exact⟨_,⟨⟨k,n,rfl⟩,[n],rfl,rfl,h3⟩,rfl,h4⟩
  |k::k'::ks,n::n'::ns,_=>simp at h2
 cases x with
 |agg cs=>
  simp only[a2z] at hk;split at hk
  ·rename_i hw;subst hw;cases hv with
   |agg _ vs hl hvs=>obtain⟨ns,h1,h2,h3,h4⟩:=c3a (vs:=vs.toList) (by simpa using hl) (fun i x v hx hv=>hvs i x v hx (by rw[<-Ae];exact hv)) hk;have hsh:a1m An ks (.agg vs):=⟨⟨vs,rfl⟩,ns,h1,h2,h3⟩;exact⟨_,hsh,by rw[Ar];show vs.toList.mapM _=_;rw[h2];exact b3j h1,h4⟩
  ·exact hk.elim
 |_=>
  simp only[a2z] at hk;split at hk
  ·exact hk.elim
  ·rename_i hw;exact one hv hk (by simpa using hw)
end
end
section
variable {P:CG} {A:Ann} {ro:Option Nat} {E:Ent} {c:Nat} {o:Oper} {io:IOp} {st:St} {K:AV->List a0f->List Nat->Prop}
 {a:Cw} {w:A6} {S:Nat->Prop} {ρ:Co}
theorem d2s (hl:Bo P=An){t kt et:AX}{M X Y:AZ}(hop:o.op= .mapUpdate t M X Y)(ht:P.underlying t=AF (.map kt et)){wide:Bool}{ks:List Ak}(hk0:c5c P kt=AF (wide,ks))
 {m x y:a0h} (hm:a0g M=AF m) (hx:a0g X=AF x) (hy:a0g Y=AF y) (hk:a0a (Az P A ro E) (.mapupd wide ks m x y) st K) (hr:Bx E st a w S ρ):Bl P o a w S ρ st.h K:=by
 have h0:=a0t hr.ts hm;have h1:=a0t hr.ts hx;have h2:=a0t hr.ts hy;simp only[a0a] at hk;split at hk
 ·rename_i l e1;rw[e1] at h0;split at hk
  ·rename_i wide' ks' n f hlg;split at hk
   ·rename_i hc;obtain⟨rfl,rfl⟩:=hc;generalize hv:a.eval M=v at h0;cases h0 with
    |map _ b C hρ=>
     obtain⟨kc,hsh,hkey,hk⟩:=a7u h1 hk;obtain⟨q,hq,hk⟩:=a6l h2 hk;obtain⟨oo,ho,hh⟩:=hr.sim.obj l _ C hρ;have hlg':=hlg;rw[a0i] at hlg';rw[hlg'] at ho;cases ho;obtain⟨es,clock,hb,mr⟩:=hh;obtain⟨KK,hks,_⟩:=a7q hl hk0;obtain⟨lx,hlx⟩:=hks _ hsh;have fin: ∀{es':Array Al} {clock':Nat},(BG t (.map (AF b)) (a.eval X) (a.eval Y)).run P w= .ok () {w with heap:=w.heap.setIfInBounds b (.map es' clock')}->
      g2l wide ks es'.toList ((Az P A ro E).mcnt f kc n) ((Az P A ro E).mset f kc q.val)->Bl P o a w S ρ st.h K:=by
      intro es' clock' hrun hmr;have hbl:b<w.heap.size:=(BB.1 hb).1;refine⟨CX,{w with heap:=w.heap.setIfInBounds b (.map es' clock')},.und,_,[],S,ρ,.inr ⟨?_,rfl⟩,hk,?_,.und⟩
      ·simp[AU,hop,hv,hrun,Am]
      ·rw[a0l];refine Chg.set hr.sim hρ hlg' rfl rfl ⟨rfl,AK _⟩ rfl (by simp) (fun k hne=>by simp[Ah (Av hne)]) ⟨es',clock',by simp[hbl],hmr⟩
     rcases KK.find w hlx es.toList (fun e he=>hks _ (mr.keys e he)) with⟨h3,h4⟩|⟨j,e,h3,h4,h5⟩
     ·have hnone:=b3b hsh hkey mr.keys h4;refine fin (es':=es.push ⟨a.eval X,a.eval Y,clock⟩) (clock':=clock+1) ?_ ⟨?_,fun e he=> ?_,fun e he=> ?_,fun k=> ?_,?_⟩
      ·simp[BG,AI ht,Aa hb,KK.check w Aj hlx,h3,Ap _ hb,Am]
      ·have:f kc=Ag:=by rw[<-mr.find];exact hnone
       simp[Az,this,<-mr.len]
      ·simp at he;rcases he with he|rfl
       ·exact mr.keys e (by simpa using he)
       ·exact hsh
      ·simp at he;rcases he with he|rfl
       ·exact mr.vals e (by simpa using he)
       ·exact⟨_,hq⟩
      ·rw[At,hq,c5w hkey mr.vals hnone,mr.find];rfl
      ·rw[At];refine Bi.2 ⟨mr.nd,by simp,fun e he e' he'=> ?_⟩;simp at he';subst he';exact h4 e he
     ·have hj:es[j]? =AF e:=by simpa using h4
      have hmem:=As h4;have hlist:(es.modify j (fun e'=>{e' with key:=a.eval X,val:=a.eval Y})).toList=es.toList.set j {e with key:=a.eval X,val:=a.eval Y}:=by rw[BR,BC _ _ _ _ h4]
      refine fin (es':=es.modify j (fun e'=>{e' with key:=a.eval X,val:=a.eval Y})) (clock':=clock) ?_ ⟨?_,fun e' he=> ?_,fun e' he=> ?_,fun k=> ?_,?_⟩
      ·simp[BG,AI ht,Aa hb,KK.check w Aj hlx,h3,hj,h5,KK.stays w hlx,Ap _ hb,Am]
      ·obtain⟨q0,hq0⟩:=mr.vals e hmem;have:f kc=AF q0:=by rw[<-mr.find];exact b2y hsh hkey mr.keys mr.nd hmem h5 hq0
       rw[hlist];simp[Az,this,<-mr.len]
      ·rw[hlist] at he;rcases BE he with he|rfl
       ·exact mr.keys e' he
       ·exact hsh
      ·rw[hlist] at he;rcases BE he with he|rfl
       ·exact mr.vals e' he
       ·exact⟨_,hq⟩
      ·rw[hlist,c7y hsh hkey rfl hq mr.keys mr.nd h4 h5,mr.find];rfl
      ·rw[hlist];have e3:(es.toList.set j {e with key:=a.eval X,val:=a.eval Y}).map (·.key)=es.toList.map (·.key):=by
        rw[CJ];refine A9 fun i=> ?_;by_cases hi:i=j
        ·subst hi;have hlt:=(AB.1 h4).1;rw[AT (by simpa using hlt),Ad,h4];simp[h5]
        ·rw[AR (Av hi)]
       refine (A8 (f:=fun e:Al=>e.key) (R:=fun x y=>x≠y)).1 ?_;rw[e3];exact (A8 (f:=fun e:Al=>e.key) (R:=fun x y=>x≠y)).2 mr.nd
   ·exact hk.elim
  ·exact hk.elim
 ·exact hk.elim
theorem b8o (hl:Bo P=An){t kt et:AX}{M X Y:AZ}(hop:o.op= .mapUpdate t M X Y)(ht:P.underlying t=AF (.map kt et)){wide:Bool}{ks:List Ak}(hk0:c5c P kt=AF (wide,ks))
 {m x y:a0h} (hm:a0g M=AF m) (hx:a0g X=AF x) (hy:a0g Y=AF y) (hk:a0a (Az P A ro E) (.mapupdv wide ks m x y) st K) (hr:Bx E st a w S ρ):Bl P o a w S ρ st.h K:=by
 have h0:=a0t hr.ts hm;have h1:=a0t hr.ts hx;have h2:=a0t hr.ts hy;simp only[a0a] at hk;split at hk
 ·rename_i l e1;rw[e1] at h0;split at hk
  ·rename_i wide' ks' keys vals hlg;split at hk
   ·rename_i hc;obtain⟨rfl,rfl⟩:=hc;generalize hv:a.eval M=v at h0;cases h0 with
    |map _ b C hρ=>
     obtain⟨kc,hsh,hkey,hk⟩:=a7u h1 hk;obtain⟨oo,ho,hh⟩:=hr.sim.obj l _ C hρ;have hlg':=hlg;rw[a0i] at hlg';rw[hlg'] at ho;cases ho;obtain⟨es,clock,hb,mr,⟨hsz,hck⟩,hvs⟩:=hh;obtain⟨KK,hks,_⟩:=a7q hl hk0;obtain⟨lx,hlx⟩:=hks _ hsh;have hat:a6s es.toList keys:=⟨mr.len,mr.at'⟩;have hvl:vals.length=es.toList.length:=by rw[<-hsz];simp
     have fin: ∀{es':Array Al} {clock':Nat} {keys':List (List KC)} {vals':List AV},(BG t (.map (AF b)) (a.eval X) (a.eval Y)).run P w= .ok () {w with heap:=w.heap.setIfInBounds b (.map es' clock')}->
      g2b wide ks es'.toList keys'->es'.size=vals'.length->clock'=es'.size->(∀(i:Nat) (x:AV) (e:Al),vals'[i]? =AF x->es'[i]? =AF e->VR w S ρ x e.val)->K .und (a2x st.h l (.mapv wide ks keys' vals')) []->Bl P o a w S ρ st.h K:=by
      intro es' clock' keys' vals' hrun hmr hsz' hck' hvs' hk;have hbl:b<w.heap.size:=(BB.1 hb).1;have hnS: ¬S b:=hr.sim.own l b C _ hρ hlg' rfl;refine⟨CX,{w with heap:=w.heap.setIfInBounds b (.map es' clock')},.und,_,[],S,ρ,.inr ⟨?_,rfl⟩,hk,?_,.und⟩
      ·simp[AU,hop,hv,hrun,Am]
      ·rw[a0l];refine Chg.set hr.sim hρ hlg' rfl rfl ⟨rfl,AK _⟩ rfl (by simp) (fun k hne=>by simp[Ah (Av hne)]) ⟨es',clock',by simp[hbl],hmr,⟨hsz',hck'⟩,fun i x e hx he=>(hvs' i x e hx he).mono (fun _ h=>h) (fun k hkS=> ?_) fun _ _ h=>h⟩;have hne:k≠b:=fun e=>hnS (e▸hkS);simp[Ah (Av hne)]
     rcases KK.find w hlx es.toList (fun e he=>hks _ (mr.shape e he)) with⟨h3,h4⟩|⟨j,e,h3,h4,h5⟩
     ·obtain⟨_,hnone⟩:=d5n hsh hkey (Cy st.ts y) (vals:=vals) hat mr.shape h4;rw[hnone] at hk;simp only[a0r] at hk;refine fin (es':=es.push ⟨a.eval X,a.eval Y,clock⟩) (clock':=clock+1) ?_ ⟨?_,fun e he=> ?_,fun i e k he hk'=> ?_,?_,fun i e he=> ?_⟩ ?_ (by simp[hck]) (fun i x e hx he=> ?_) hk
      ·simp[BG,AI ht,Aa hb,KK.check w Aj hlx,h3,Ap _ hb,Am]
      ·have:=mr.len;simp;simpa using this
      ·simp at he;rcases he with he|rfl
       ·exact mr.shape e (by simpa using he)
       ·exact hsh
      ·rw[At] at he;have hlen:=mr.len;by_cases hi:i<es.toList.length
       ·rw[AE hi] at he;rw[AE (by omega)] at hk';exact mr.at' i e k he hk'
       ·rw[AD (by omega)] at he;rw[AD (by omega),hlen] at hk';cases hd:i-es.toList.length with
        |zero=>rw[hd] at he hk';simp at he hk';subst he;subst hk';exact hkey
        |succ d=>rw[hd] at he;simp at he
      ·rw[At];refine Bi.2 ⟨mr.nd,by simp,fun e he e' he'=> ?_⟩;simp at he';subst he';exact h4 e he
      ·rw[At] at he;by_cases hi:i<es.toList.length
       ·rw[AE hi] at he;exact mr.born i e he
       ·rw[AD (by omega)] at he;cases hd:i-es.toList.length with
        |zero=>
         rw[hd] at he;simp at he;subst he;have:es.toList.length=es.size:=by simp
         show clock=i;omega
        |succ d=>rw[hd] at he;simp at he
      ·simp[hsz]
      ·by_cases hi:i<vals.length
       ·rw[AE hi] at hx;rw[Aq,if_neg (by omega)] at he;exact hvs i x e hx he
       ·rw[AD (by omega)] at hx;cases hd:i-vals.length with
        |zero=>rw[hd] at hx;rw[Aq,if_pos (by omega)] at he;simp at hx he;subst hx;subst he;exact h2
        |succ d=>rw[hd] at hx;simp at hx
     ·obtain⟨_,hsome⟩:=d5g hsh hkey (Cy st.ts y) (vals:=vals) hat hvl mr.shape mr.nd h4 h5;rw[hsome] at hk;have hj:es[j]? =AF e:=by simpa using h4
      have hlist:(es.modify j (fun e'=>{e' with key:=a.eval X,val:=a.eval Y})).toList=es.toList.set j {e with key:=a.eval X,val:=a.eval Y}:=by rw[BR,BC _ _ _ _ h4]
      refine fin (es':=es.modify j (fun e'=>{e' with key:=a.eval X,val:=a.eval Y})) (clock':=clock) ?_ ⟨?_,fun e' he=> ?_,fun i e' k he hk'=> ?_,?_,fun i e' he=> ?_⟩ ?_ (by simpa using hck) (fun i x e' hx he=> ?_) hk
      ·simp[BG,AI ht,Aa hb,KK.check w Aj hlx,h3,hj,h5,KK.stays w hlx,Ap _ hb,Am]
      ·rw[hlist];simpa using mr.len
      ·rw[hlist] at he;rcases BE he with he|rfl
       ·exact mr.shape e' he
       ·exact hsh
      ·rw[hlist] at he;by_cases hi:i=j
       ·subst hi;rw[AT (by simpa using (AB.1 h4).1)] at he;cases he;have:=mr.at' i e k h4 hk';rw[h5] at this;exact this
       ·rw[AR (Av hi)] at he;exact mr.at' i e' k he hk'
      ·rw[hlist];have e3:(es.toList.set j {e with key:=a.eval X,val:=a.eval Y}).map (·.key)=es.toList.map (·.key):=by
        rw[CJ];refine A9 fun i=> ?_;by_cases hi:i=j
        ·subst hi;have hlt:=(AB.1 h4).1;rw[AT (by simpa using hlt),Ad,h4];simp[h5]
        ·rw[AR (Av hi)]
       refine (A8 (f:=fun e:Al=>e.key) (R:=fun x y=>x≠y)).1 ?_;rw[e3];exact (A8 (f:=fun e:Al=>e.key) (R:=fun x y=>x≠y)).2 mr.nd
      ·rw[hlist] at he;by_cases hi:i=j
       ·subst hi;rw[AT (by simpa using (AB.1 h4).1)] at he;cases he;exact mr.born i e h4
       ·rw[AR (Av hi)] at he;exact mr.born i e' he
      ·simp[hsz]
      ·have he:(es.toList.set j {e with key:=a.eval X,val:=a.eval Y})[i]? =AF e':=by rw[<-hlist,Ae];simpa only[Ae] using he
       by_cases hi:i=j
       ·subst hi;rw[AT (by simpa using (AB.1 h4).1)] at he;have hjv:i<vals.length:=by have:=(AB.1 h4).1;omega
        rw[AT hjv] at hx;cases he;cases hx;exact h2
       ·rw[AR (Av hi)] at he hx;exact hvs i x e' hx (by simpa using he)
   ·exact hk.elim
  ·exact hk.elim
 ·exact hk.elim
end
inductive IsK:CK->AN->Prop where
 |i (k:Ak) (n:Int):IsK (.i k) (.int k n)
 |o (b:Bool):IsK .o (.bool b)
def a3h (ks:List CK)(cs:List AN):Prop:=cs.length=ks.length/\ ∀(i:Nat) (k:CK),ks[i]? =AF k-> ∃v,cs[i]? =AF v/\IsK k v
theorem b8d {P:CG}{n:Nat}{t:AX}{ks:List CK}(h:a4l P n t=AF ks):ks.length=P.cellsOf t:=by
 cases n with
 |zero=>simp[a4l] at h
 |succ n=>
  simp only[a4l] at h;split at h
  ·split at h
   ·rename_i hc;simp at h;subst h;exact hc.symm
   ·cases h
  ·split at h
   ·rename_i hc;simp at h;subst h;exact hc.symm
   ·cases h
  ·simp only[AG,AA] at h;obtain⟨ks',hf,h⟩:=h;split at h
   ·rename_i hc;simp at h;subst h;exact hc.1
   ·cases h
  ·simp only[AG,AA] at h;obtain⟨ks',hf,h⟩:=h;split at h
   ·rename_i hc;simp at h;subst h;simp[hc.1,hc.2]
   ·cases h
  ·cases h
theorem d7f {P:CG}{g:AX->Option (List Ak)}{g':AX->Option (List CK)}(hg: ∀t ks,g t=AF ks->g' t=AF (ks.map .i)): ∀{fs:List DA} {off:Nat} {ks:List Ak},a9y P g fs off=AF ks->a9y P g' fs off=AF (ks.map .i):=by
 intro fs
 induction fs with
 |nil=>intro off ks h;simp[a9y] at h;subst h;rfl
 |cons f fs ih=>
  intro off ks h;simp only[a9y,AG,AA] at h⊢;obtain⟨k1,h1,h⟩:=h;split at h
  ·rename_i hc;simp only[AA,AH,AC] at h;obtain⟨k2,h2,rfl⟩:=h;refine⟨_,hg _ _ h1,?_⟩;simp only[By];rw[if_pos hc];simp only[AA,AH,AC];exact⟨_,ih h2,by simp⟩
  ·cases h
theorem e3x {P:CG}: ∀{n:Nat} {t:AX} {ks:List Ak},b9c P n t=AF ks->a4l P n t=AF (ks.map .i):=by
 intro n
 induction n with
 |zero=>intro t ks h;simp[b9c] at h
 |succ n ih=>
  intro t ks h;simp only[b9c] at h;simp only[a4l];split at h
  ·rename_i k hu;split at h
   ·rename_i hc;simp at h;subst h;simp[hu,hc]
   ·cases h
  ·rename_i fs hu;simp only[AG,AA] at h;obtain⟨ks',hf,h⟩:=h;split at h
   ·rename_i hc;simp at h;subst h;rw[hu];simp only[AG,AA];exact⟨_,d7f (fun t ks h=>ih h) hf,by rw[By,if_pos hc];rfl⟩
   ·cases h
  ·rename_i m e hu;simp only[AG,AA] at h;obtain⟨ks',hf,h⟩:=h;split at h
   ·rename_i hc;simp at h;subst h;rw[hu];simp only[AG,AA];exact⟨_,ih hf,by rw[By,if_pos hc];simp⟩
   ·cases h
  ·cases h
theorem a3h.cut {ks ks':List CK}{cs:List AN}{off:Nat}(h:a3h ks cs)(hle:off+ks'.length<=cs.length)(hi: ∀i k,ks'[i]? =AF k->ks[off+i]? =AF k):a3h ks' ((cs.drop off).take ks'.length):=by refine⟨by rw[AO,A4];omega,fun i k hk=> ?_⟩;obtain⟨n,hn⟩:=h.2 (off+i) k (hi i k hk);exact⟨n,by rw[b9o (AB.1 hk).1];exact hn⟩
section
variable {P:CG} {w:A6}
theorem d5d {n:Nat}{e:AX}{ks:List CK}(hf:a4l P n e=AF ks){xs:Array AN}{off:Nat}(hi:a3h ks ((xs.toList.drop off).take ks.length)):
 ∃a,(part e xs off).run P w= .ok a w/\a.formed P e=An/\a.cells.toList=(xs.toList.drop off).take ks.length:=by
 have hlen:=b8d hf;cases n with
 |zero=>simp[a4l] at hf
 |succ n=>
  simp only[a4l] at hf;have agg: ∀kd,P.underlying e=AF kd->((∃n e',kd= .array n e')\/(∃fs,kd= .struct fs))-> ∃a,(part e xs off).run P w= .ok a w/\a.formed P e=An/\a.cells.toList=(xs.toList.drop off).take ks.length:=by
   intro kd hu hk;obtain⟨i,hi'⟩:=BO hu;have hl:(xs.extract off (off+P.cellsOf e)).toList=(xs.toList.drop off).take ks.length:=by rw[Array.toList_extract,hlen];simp[List.extract]
   refine⟨.agg (xs.extract off (off+P.cellsOf e)),?_,?_,hl⟩
   ·rcases hk with⟨n,e',rfl⟩|⟨fs,rfl⟩<;>simp[part,isAgg,AI hu,run_sizeOf w hi']
   ·have hs:(xs.extract off (off+P.cellsOf e)).size=P.cellsOf e:=by rw[<-AW,hl,hi.1,hlen]
    rcases hk with⟨n,e',rfl⟩|⟨fs,rfl⟩<;>simp[Aw,hu,hs]
  have leaf: ∀{k:CK} {v:AN},a3h [k] ((xs.toList.drop off).take [k].length)->((xs.toList.drop off).take [k].length)[0]? =AF v->P.plainKey e=An->v.formed P e=An->v.cells= #[v]->
   ∃a,(part e xs off).run P w= .ok a w/\a.formed P e=An/\a.cells.toList=(xs.toList.drop off).take [k].length:=by
   intro k v hi hx hp hfm hcs;have hx2:=hx;rw[b9o (by simp),BV] at hx;have hx':xs[off]? =AF v:=by rw[<-Ae];exact hx
   refine⟨v,run_part_plain w hp hx',hfm,?_⟩;obtain⟨h1,h2⟩:=hi
   match hq:(xs.toList.drop off).take [k].length,h1 with
   |[c],_=>rw[hq] at hx2;simp at hx2;subst hx2;rw[hcs]
  split at hf
  ·rename_i k hu;split at hf
   ·simp at hf;subst hf;obtain⟨v,hx,hk⟩:=hi.2 0 _ rfl;cases hk with
    |i _ x=>exact leaf hi hx (by simp[Program.plainKey,hu]) (by simp[Aw,hu]) rfl
   ·cases hf
  ·rename_i hu;split at hf
   ·simp at hf;subst hf;obtain⟨v,hx,hk⟩:=hi.2 0 _ rfl;cases hk with
    |o x=>exact leaf hi hx (by simp[Program.plainKey,hu]) (by simp[Aw,hu]) rfl
   ·cases hf
  ·rename_i fs hu;exact agg _ hu (.inr ⟨fs,rfl⟩)
  ·rename_i m e' hu;exact agg _ hu (.inl ⟨m,e',rfl⟩)
  ·cases hf
def EqI (P:CG)(w:A6)(dd:Nat)(e:AX)(ks:List CK):Prop:= ∀x y:AN,x.formed P e=An->y.formed P e=An->a3h ks x.cells.toList->a3h ks y.cells.toList->
 ∃r:Bool,(Bf dd e x y).run P w= .ok r w/\(r=An↔x.cells.toList=y.cells.toList)
theorem a7w {α:Type}(l:List α)(off a b:Nat):(l.drop off).take (a+b)=(l.drop off).take a++(l.drop (off+a)).take b:=by rw[List.take_add,List.drop_drop]
theorem b0l {α:Type}{a b c d:List α}(h:a.length=b.length):a++c=b++d↔a=b/\c=d:=
 ⟨fun e=>List.append_inj e h,fun⟨e1,e2⟩=>by rw[e1,e2]⟩
theorem b6z {n dd off:Nat}{e:AX}{ks:List CK}(hf:a4l P n e=AF ks)(ih:EqI P w dd e ks){xs ys:Array AN}(hx:a3h ks ((xs.toList.drop off).take ks.length))(hy:a3h ks ((ys.toList.drop off).take ks.length)):
 ∃a b r,(part e xs off).run P w= .ok a w/\(part e ys off).run P w= .ok b w/\(Bf dd e a b).run P w= .ok r w/\(r=An↔(xs.toList.drop off).take ks.length=(ys.toList.drop off).take ks.length):=by
 obtain⟨a,h1,h2,h3⟩:=d5d hf hx;obtain⟨b,h4,h5,h6⟩:=d5d hf hy;obtain⟨r,h7,h8⟩:=ih a b h2 h5 (by rw[h3];exact hx) (by rw[h6];exact hy);exact⟨a,b,r,h1,h4,h7,by rw[h8,h3,h6]⟩
theorem c5i {n dd:Nat}(xs ys:Array AN): ∀(fs:List DA) (off:Nat) (ks:List CK),a9y P (a4l P n) fs off=AF ks->(∀f,f∈fs->f.name≠ "_" /\ ∀ks',a4l P n f.type=AF ks'->EqI P w dd f.type ks')->
 a3h ks ((xs.toList.drop off).take ks.length)->a3h ks ((ys.toList.drop off).take ks.length)->
 ∃r:Bool,(CP dd xs ys fs).run P w= .ok r w/\(r=An↔(xs.toList.drop off).take ks.length=(ys.toList.drop off).take ks.length):=by
 intro fs
 induction fs with
 |nil=>intro off ks h _ _ _;simp[a9y] at h;subst h;exact⟨An,by simp[CP],by simp⟩
 |cons f fs ih=>
  intro off ks h hall hx hy;simp only[a9y,AG,AA] at h;obtain⟨k1,h1,h⟩:=h;split at h
  ·rename_i hc;simp only[AA,AH,AC] at h;obtain⟨k2,h2,rfl⟩:=h;obtain⟨hn,hp⟩:=hall f (by simp);rw[AQ,a7w] at hx hy;have cutL: ∀{zs:List AN},a3h (k1++k2) ((zs.drop off).take k1.length++(zs.drop (off+k1.length)).take k2.length)->a3h k1 ((zs.drop off).take k1.length)/\a3h k2 ((zs.drop (off+k1.length)).take k2.length):=by
    intro zs hz;have hl:=hz.1;have l1:((zs.drop off).take k1.length).length<=k1.length:=by rw[AO];omega
    have l2:((zs.drop (off+k1.length)).take k2.length).length<=k2.length:=by rw[AO];omega
    simp only[AQ] at hl;refine⟨⟨by omega,fun i k hk=> ?_⟩,⟨by omega,fun i k hk=> ?_⟩⟩
    ·have hi:=(AB.1 hk).1;obtain⟨x,hx⟩:=hz.2 i k (by rw[AE hi];exact hk);rw[AE (by omega)] at hx;exact⟨x,hx⟩
    ·obtain⟨x,hx⟩:=hz.2 (k1.length+i) k (by rw[AD (by omega),Bc];exact hk);have e1:((zs.drop off).take k1.length).length=k1.length:=by omega
     rw[AD (by omega),e1,Bc] at hx;exact⟨x,hx⟩
   obtain⟨hx1,hx2⟩:=cutL hx;obtain⟨hy1,hy2⟩:=cutL hy;obtain⟨a,b,r,p1,p2,p3,hiff⟩:=b6z h1 (hp k1 h1) hx1 hy1;obtain⟨r',hr',hiff'⟩:=ih (off+k1.length) k2 h2 (fun g hg=>hall g (by simp[hg])) hx2 hy2;rw[AQ,a7w,a7w,b0l (by rw[hx1.1,hy1.1])];simp only[CP,hn,ne_eq,not_false_eq_true,if_true,Bs,hc.1,p1,p2,p3,BZ];cases r with
   |false=>exact⟨Aj,by simp,by simp;intro e;exact absurd (hiff.2 e) (by simp)⟩
   |true=>refine⟨r',by simpa using hr',?_⟩;rw[hiff'];simp[hiff.1 rfl]
  ·cases h
theorem d0r {n dd:Nat}{e:AX}{ks:List CK}(hf:a4l P n e=AF ks)(ih:EqI P w dd e ks)(xs ys:Array AN): ∀(m off:Nat),
 (∀i,i<m->a3h ks ((xs.toList.drop ((off+i)*ks.length)).take ks.length))->(∀i,i<m->a3h ks ((ys.toList.drop ((off+i)*ks.length)).take ks.length))->
 ∃r:Bool,(CT dd e ks.length xs ys (List.range' off m)).run P w= .ok r w/\(r=An↔(xs.toList.drop (off*ks.length)).take (m*ks.length)=(ys.toList.drop (off*ks.length)).take (m*ks.length)):=by
 intro m
 induction m with
 |zero=>intro off _ _;exact⟨An,by simp[CT],by simp⟩
 |succ m ihm=>
  intro off hx hy;have h0x:=hx 0 (by omega);have h0y:=hy 0 (by omega);rw[BV] at h0x h0y;obtain⟨a,b,r,p1,p2,p3,hiff⟩:=b6z hf ih h0x h0y;obtain⟨r',hr',hiff'⟩:=ihm (off+1) (fun i hi=>by have:=hx (i+1) (by omega);rwa [show off+(i+1)=off+1+i by omega] at this) (fun i hi=>by have:=hy (i+1) (by omega);rwa [show off+(i+1)=off+1+i by omega] at this);have e1:(m+1)*ks.length=ks.length+m*ks.length:=by rw[Bd];omega
  have e2:(off+1)*ks.length=off*ks.length+ks.length:=by rw[Bd]
  rw[e1,a7w,a7w,b0l (by rw[h0x.1,h0y.1]),<-e2];simp only[List.range'_succ,CT,Bs,p1,p2,p3,BZ];cases r with
  |false=>exact⟨Aj,by simp,by simp;intro e;exact absurd (hiff.2 e) (by simp)⟩
  |true=>refine⟨r',by simpa using hr',?_⟩;rw[hiff'];simp[hiff.1 rfl]
end
section
variable {P:CG} {A:Ann} {ro:Option Nat} {E:Ent} {c:Nat} {o:Oper} {io:IOp} {st:St} {K:AV->List a0f->List Nat->Prop}
 {a:Cw} {w:A6} {S:Nat->Prop} {ρ:Co} {h:List a0f}
theorem b4m (s:Nat)(e e2:Nat->List DV):(Az P A ro E).put s 0 e e2=e:=by funext j;show (if s<=j/\j<s+0 then e2 (j-s) else e j)=e j;rw[if_neg (by omega)]
theorem c0f {l b C sz n' s k:Nat}{e e2:Nat->List DV}{vs:Array AN}{ty:AX}{new:List AN}(hs:Cm w S ρ h)(hρ:ρ l=AF (AF b,C))(hl:h[l]? =AF (.arr sz n' e))
 (hb:w.heap[b]? =AF (.cells vs ty (0,0))) (hv:vs.size=C*sz) (hC:n'<=C)
 (hold: ∀i,i<n'->(e i).length=sz/\ ∀(j:Nat) (x:DV) (u:AN),(e i)[j]? =AF x->vs[i*sz+j]? =AF u->C7 w S x u) (hsk:s+k<=n') (hn:new.length=k*sz)
 (hrows: ∀i,i<k->(e2 i).length=sz/\ ∀(j:Nat) (x:DV) (u:AN),(e2 i)[j]? =AF x->new[i*sz+j]? =AF u->C7 w S x u):
 C4 w S ρ h (w.setRow b (vs.toList.take (s*sz)++new++vs.toList.drop (s*sz+new.length)).toArray) S ρ (h.set l (.arr sz n' ((Az P A ro E).put s k e e2))) []:=by
 obtain⟨s1,s2,s3,s4,s5,s6⟩:=a7p (cs:=(vs.toList.take (s*sz)++new++vs.toList.drop (s*sz+new.length)).toArray) hb;have hS: ∀m,S m->(w.setRow b (vs.toList.take (s*sz)++new++vs.toList.drop (s*sz+new.length)).toArray).heap[m]? =w.heap[m]? :=
  fun m hm=>s6 m (fun e=>hs.own l b C _ hρ hl rfl (e▸hm))
 have h1:(s+k)*sz<=C*sz:=AP _ (by omega);rw[Ac] at h1;have hsize:((vs.toList.take (s*sz)++new++vs.toList.drop (s*sz+new.length)).toArray).size=C*sz:=by simp only[BM,AQ,AO,A4,AW];omega
 refine Chg.set hs hρ hl rfl s1 s2 s3 s4 s6 ⟨_,ty,s5,hsize,hC,fun i hi=> ?_⟩;show (if s<=i/\i<s+k then e2 (i-s) else e i).length=sz/\ ∀(j:Nat) (x:DV) (u:AN),(if s<=i/\i<s+k then e2 (i-s) else e i)[j]? =AF x->_;have htl:(vs.toList.take (s*sz)).length=s*sz:=by rw[AO,AW];omega
 by_cases hin:s<=i/\i<s+k
 ·rw[if_pos hin];have hi2:i-s<k:=by omega
  refine⟨(hrows _ hi2).1,fun j x u hx hu=> ?_⟩;have hj:j<sz:=by have:=(AB.1 hx).1;rw[(hrows _ hi2).1] at this;exact this
  have h7:(i-s+1)*sz<=k*sz:=AP _ (by omega);rw[Ac] at h7;have h8:i*sz=s*sz+(i-s)*sz:=by rw[<-Ac];congr 1;omega
  simp only[Af] at hu;rw[AY,AD (by omega),AE (by omega),htl,show i*sz+j-s*sz=(i-s)*sz+j by omega] at hu;exact Bu (w:=w) (fun _ h=>h) hS ((hrows _ hi2).2 j x u hx hu)
 ·rw[if_neg hin];refine⟨(hold i hi).1,fun j x u hx hu=> ?_⟩;have hj:j<sz:=by have:=(AB.1 hx).1;rw[(hold i hi).1] at this;exact this
  have hg:vs[i*sz+j]? =AF u:=by
   simp only[Af] at hu;by_cases hlt:i<s
   ·have h7:(i+1)*sz<=s*sz:=AP _ (by omega);rw[Ac] at h7;rw[AY,AE (by omega),Ab (by omega)] at hu;simpa using hu
   ·have h7:(s+k)*sz<=i*sz:=AP _ (by omega);rw[Ac] at h7;rw[AD (by rw[AQ];omega),Ax,AQ,htl,hn,show s*sz+k*sz+(i*sz+j-(s*sz+k*sz))=i*sz+j by omega] at hu;simpa using hu
  exact Bu (w:=w) (fun _ h=>h) hS ((hold i hi).2 j x u hx hg)
theorem Els.front {sz n k:Nat}{e:Nat->List DV}{aa:Option B8}{cap:Nat}(h:Els w S sz n e aa cap)(hk:k<=n):Els w S sz k e aa cap:=by
 by_cases h0:k=0
 ·exact .inl h0
 ·rcases h with h|⟨b,off,h1,h2,h3⟩
  ·omega
  ·exact .inr ⟨b,off,h1,by omega,fun i hi=>h3 i (by omega)⟩
theorem c0k {sz n k:Nat}{e:Nat->List DV}{aa:Option B8}{cap:Nat}(he:Els w S sz n e aa cap)(hk:k<=n):
 ∃new:Array AN,(A5 sz k (.slice aa n cap)).run P w= .ok new w/\new.size=k*sz/\(∀v,v∈new.toList->0<sz->v.oneCell'=An)/\
  ∀i,i<k->(e i).length=sz/\ ∀(j:Nat) (x:DV) (u:AN),(e i)[j]? =AF x->new.toList[i*sz+j]? =AF u->C7 w S x u:=by
 obtain⟨new,h1,h2,h3,h4⟩:=a1y (P:=P) (he.front hk) (fun _ _ _=>trivial);refine⟨new,?_,h2,fun v hv hn0=> ?_,fun i hi=>⟨h3 i hi,fun j x u hx hu=>h4 i hi j x u hx (by simpa using hu)⟩⟩
 ·cases aa<;>exact h1
 ·obtain⟨q,hq,rfl⟩:=BU hv;have hq2:q<k*sz:=by simpa [h2] using hq
  have hi:q/sz<k:=(Bh hn0).2 hq2;have hj:q % sz<sz:=CR _ hn0;have hx:(e (q/sz))[q % sz]? =AF ((e (q/sz))[q % sz]'(by rw[h3 _ hi];exact hj)):=AS _;refine Cq (h4 (q/sz) hi (q % sz) _ new.toList[q] hx ?_);rw[show q/sz*sz+q % sz=q by rw[CL];exact B3 q sz];simp at hq;simp[hq]
theorem b6m {sz:Nat}{x:AV}{v:AN}{K:Nat->Nat->(Nat->List DV)->Prop}(hs:Cm w S ρ h)(h1:VR w S ρ x v)(hk:a8b (Az P A ro E) sz h x K):
 ∃sz n e a cap,K sz n e/\v= .slice a n cap/\Els w S sz n e a cap:=by
 unfold a8b at hk;split at hk
 ·exact⟨sz,0,_,Ag,0,hk,h1.nil,.inl rfl⟩
 ·cases h1 with
  |d hd=>
   cases hd with
   |raw _ _=>exact⟨sz,0,_,_,_,hk,rfl,.inl rfl⟩
 ·exact b4z hs h1 hk
theorem d7q {l sz n n' s0:Nat}{s:Option Nat}{f:Bool}{e:Nat->List DV}{v:AN}(hs:Cm w S ρ h)(h0:VR w S ρ (.msl l sz s n f) v)(hl:h[l]? =AF (.arr sz n' e))(hs0:s0=s.getD 0)(hle:s0+n<=n'):
 ∃aa cap,v= .slice aa n cap/\n<=cap/\(f=Aj->n'<=s0+cap)/\((n'=0\/cap=0)\/ ∃b C vs ty,ρ l=AF (AF b,C)/\aa=AF ⟨b,s0*sz,Ag⟩/\w.heap[b]? =AF (.cells vs ty (0,0))/\vs.size=C*sz/\n'<=C/\
  ∀i,i<n'->(e i).length=sz/\ ∀(j:Nat) (x:DV) (u:AN),(e i)[j]? =AF x->vs[i*sz+j]? =AF u->C7 w S x u):=by
 subst hs0;cases h0 with
 |msl _ _ _ _ _ ob C cap aa hρ hc hcap ha=>
  obtain⟨oo,h1,h2⟩:=hs.obj l ob C hρ;rw[hl] at h1;cases h1;have hn:n<=cap:=by rw[hcap];split<;>omega
  have hC:n'<=C:=by
   cases ob with
   |none=>obtain⟨_,sz2,e2,h3|h3⟩:=h2<;>cases h3;omega
   |some b=>obtain⟨vs,ty,h3,h4,h5,h6⟩:=h2;exact h5
  refine⟨aa,cap,rfl,hn,fun hf=>by subst hf;simp at hcap;omega,?_⟩;by_cases h0:cap=0
  ·exact .inl (.inr h0)
  ·cases ob with
   |none=>obtain⟨_,sz2,e2,h3|h3⟩:=h2<;>cases h3;exact .inl (.inl rfl)
   |some b=>obtain⟨vs,ty,h3,h4,h5,h6⟩:=h2;exact .inr ⟨b,C,vs,ty,hρ,by simpa using ha (by omega),h3,h4,h5,h6⟩
theorem b5s {l:Nat}{oo:a0f}(hl:h[l]? =AF oo):h.set l oo=h:=by obtain⟨h1,h2⟩:=AB.1 hl;rw[<-h2];exact List.set_getElem_self h1
theorem b3f (s:Option Nat):c2c s=s.getD 0:=by cases s<;>rfl
theorem c5b {t u e e':AX}{X Y:AZ}(hop:o.op= .call {callee:= .builtin .append,args:= #[X,Y],argTypes:= #[t,u]})
 (ht:P.underlying t=AF (.slice e)) (hu:P.underlying u=AF (.slice e')) {sz:Nat} (hsz:a1x P e=AF sz)
 {x y:a0h} (hx:a0g X=AF x) (hy:a0g Y=AF y) (hk:a0a (Az P A ro E) (.appendIn sz x y) st K) (hr:Bx E st a w S ρ):Bl P o a w S ρ st.h K:=by
 have h0:=a0t hr.ts hx;have h1:=a0t hr.ts hy;simp only[a0a] at hk;have run: ∀r w',(AM #[t,u] o.type #[a.eval X,a.eval Y]).run P w= .ok r w'->(AU a.eval o).run P w= .ok (.value r) w':=by intro r w' h;simp[AU,hop,Bj,Bv,builtin,h]
 have run: ∀r w',(AM #[t,u] t #[a.eval X,a.eval Y]).run P w= .ok r w'->(AU a.eval o).run P w= .ok (.value r) w':=run;revert h0 h1 hk run;generalize Cy st.ts x=p;generalize Cy st.ts y=q;generalize a.eval X=v;generalize a.eval Y=v2;intro hk h0 h1 run;unfold a4o at hk;obtain⟨sz2,m,e2,a2,cap2,hk2,hv2,he2⟩:=b6m hr.sim h1 hk;clear hk;subst hv2;obtain⟨hn0,hszr⟩:=a1s hsz;split at hk2
 ·rename_i hs2;have hs2:=AJ hs2;subst hs2;split at hk2
  ·rename_i l sz' s n;split at hk2
   ·rename_i hs1;have hs1:=AJ hs1;subst hs1;simp only[a0i,a0l,a3n] at hk2;split at hk2
    ·rename_i sz'' n' e1 hl;split at hk2
     ·rename_i hs3;have hs3:=AJ hs3;subst hs3;obtain⟨hle,hk⟩:(s.getD 0+n+m<=n')/\K (.msl l sz s (n+m) Aj) (st.h.set l (.arr sz n' ((Az P A ro E).put (s.getD 0+n) m e1 e2))) []:=hk2;obtain⟨aa,cap,hv,hnc,hcap,hblk⟩:=d7q hr.sim h0 hl rfl (by omega);have hcap:=hcap rfl;subst hv;obtain⟨new,hnew,hn1,hn2,hn3⟩:=c0k (P:=P) he2 (AK m);have vr:VR w S ρ (.msl l sz s (n+m) Aj) (.slice aa (n+m) cap):=by
       cases h0 with
       |msl _ _ _ _ _ ob C _ _ hρ hc hcap2 ha=>exact .msl l sz s (n+m) Aj ob C cap aa hρ (by simp at hcap2;omega) (by simpa using hcap2) ha
      by_cases hm:m=0
      ·subst hm;rw[b4m,b5s hl] at hk;refine .same hr.sim (run _ _ ?_) hk vr;have hnil:new.toList=[]:=by
        have:new.size=0:=by omega
        simpa using this
       cases aa with
       |none=>simp[AM,AI ht,AI hu,hszr,Ao,hnew,hnc]
       |some pa=>simp[AM,AI ht,AI hu,hszr,Ao,hnew,hnil,BS,hnc]
      ·rcases hblk with (h2|h2)|⟨b,C,vs,ty,hρ,rfl,hb,hvs,hC,hold⟩
       ·omega
       ·omega
       ·have hCs:(s.getD 0+n+m)*sz<=C*sz:=AP _ (by omega);rw[Ac,Ac] at hCs;have hrun:=a5o (P:=P) (b:=b) (off:=s.getD 0*sz) (n:=n) (cap:=cap) ht hu hsz (by omega) hnew hb (by rw[hvs,hn1];omega) (fun v hv=>hn2 v hv hn0);have k:=c0f (P:=P) (A:=A) (ro:=ro) (E:=E) (s:=s.getD 0+n) (k:=m) (new:=new.toList) hr.sim hρ hl hb hvs hC hold (by omega) (by simpa using hn1) hn3;rw[Ac] at k;exact⟨_,_,_,_,[],S,ρ,.inl (run _ _ hrun),hk,k,vr.mono k.ext.mono k.ext.cell (fun m p hm=>hm)⟩
     ·exact hk2.elim
    ·exact hk2.elim
   ·exact hk2.elim
  ·exact hk2.elim
 ·exact hk2.elim
theorem d7b {e:Nat->List DV}: ∀{k:Nat} {l:List AV},b2m e k=AF l->l.length=k/\ ∀i,i<k-> ∃x,e i=[x]/\l[i]? =AF (.d x):=by
 intro k
 induction k with
 |zero=>intro l h;simp[b2m] at h;subst h;simp
 |succ k ih=>
  intro l h;simp only[b2m] at h;split at h
  ·rename_i l' hl';split at h
   ·rename_i x hx;simp only[AC] at h;obtain⟨h1,h2⟩:=ih hl';subst h;rw[a0r];refine⟨by simp[h1],fun i hi=> ?_⟩;by_cases hik:i<k
    ·obtain⟨y,hy,hl⟩:=h2 i hik;exact⟨y,hy,by rw[AE (by omega)];exact hl⟩
    ·have:i=k:=by omega
     subst this;exact⟨x,hx,by rw[AD (by omega),h1];simp⟩
   ·cases h
  ·cases h
theorem e4m {t u e:AX}{X Y:AZ}(hop:o.op= .call {callee:= .builtin .copy,args:= #[X,Y],argTypes:= #[t,u]})
 (ht:P.underlying t=AF (.slice e)) {sz:Nat} (hsz:a1x P e=AF sz)
 {x y:a0h} (hx:a0g X=AF x) (hy:a0g Y=AF y) (hk:a0a (Az P A ro E) (.copy sz x y) st K) (hr:Bx E st a w S ρ):Bl P o a w S ρ st.h K:=by
 have h0:=a0t hr.ts hx;have h1:=a0t hr.ts hy;obtain⟨cs,hex⟩:=a2d (a:=a) hop;simp only[a0a] at hk;have run: ∀r w',(B4 #[t,u] o.type #[a.eval X,a.eval Y]).run P w= .ok r w'->(AU a.eval o).run P w= .ok (.value r) w':=by intro r w' h;rw[hex];simp[builtin,h]
 revert h0 h1 hk run;generalize Cy st.ts x=p;generalize Cy st.ts y=q;generalize a.eval X=v;generalize a.eval Y=v2;intro hk h0 h1 run;unfold a5z at hk;obtain⟨sz2,m,e2,a2,cap2,hk2,hv2,he2⟩:=b6m hr.sim h1 hk;clear hk;subst hv2;obtain⟨hn0,hszr⟩:=a1s hsz;have main: ∀(aa:Option B8) (n cap:Nat) (new:Array AN) (w':A6),v= .slice aa n cap->(A5 sz (min n m) (.slice a2 m cap2)).run P w= .ok new w->
  (match aa with|some pa=>(BS pa new.toList).run P w= .ok () w'|none=>w'=w)->(AU a.eval o).run P w= .ok (.value (.int .i64 (min n m:Nat))) w':=by
  intro aa n cap new w' hv hnew hst;subst hv;refine run _ _ ?_;have hmin:Nat.min m n=min n m:=Nat.min_comm m n;cases aa with
  |none=>simp only at hst;subst hst;simp[B4,AI ht,hszr,Ao,hmin,hnew,CO]
  |some pa=>simp only at hst;simp[B4,AI ht,hszr,Ao,hmin,hnew,hst,CO]
 split at hk2
 ·rename_i hs2;have hs2:=AJ hs2;subst hs2;split at hk2
  ·rename_i l sz' s n f;split at hk2
   ·rename_i hs1;have hs1:=AJ hs1;subst hs1;simp only[a0i,a0l,a3n,b3f] at hk2;split at hk2
    ·rename_i sz'' n' e1 hl;split at hk2
     ·rename_i hs3;have hs3:=AJ hs3;subst hs3;obtain⟨hle,hk⟩:(s.getD 0+n<=n')/\K (.d (.int .i64 (.v (min n m:Nat)))) (st.h.set l (.arr sz n' ((Az P A ro E).put (s.getD 0) (min n m) e1 e2))) []:=hk2;obtain⟨aa,cap,hv,hnc,_,hblk⟩:=d7q hr.sim h0 hl rfl hle;obtain⟨new,hnew,hn1,hn2,hn3⟩:=c0k (P:=P) (k:=min n m) he2 (CY _ _);by_cases hm:min n m=0
      ·rw[hm,b4m,b5s hl] at hk;have hnil:new.toList=[]:=by
        have:new.size=0:=by rw[hn1,hm];simp
        simpa using this
       have hrun:=main aa n cap new w hv hnew (by cases aa<;>simp[hnil,BS]);rw[hm] at hrun;exact .same hr.sim hrun hk (.d (.int .i64 (.v ((0:Nat):Int))))
      ·rcases hblk with (h2|h2)|⟨b,C,vs,ty,hρ,rfl,hb,hvs,hC,hold⟩
       ·omega
       ·omega
       ·have hCs:(s.getD 0+min n m)*sz<=C*sz:=AP _ (by omega);rw[Ac] at hCs;have hst:=B0 (P:=P) b (s.getD 0*sz) ty new.toList 0 vs w hb (by simp[hvs,hn1];omega) (fun v hv=>hn2 v hv hn0);simp only[BV] at hst;have hrun:=main _ n cap new _ hv hnew hst;have k:=c0f (P:=P) (A:=A) (ro:=ro) (E:=E) (s:=s.getD 0) (k:=min n m) (new:=new.toList) hr.sim hρ hl hb hvs hC hold (by omega) (by simpa using hn1) hn3;exact⟨_,_,_,_,[],S,ρ,.inl hrun,hk,k,.d (.int .i64 (.v _))⟩
     ·exact hk2.elim
    ·exact hk2.elim
   ·exact hk2.elim
  ·rename_i l off n;split at hk2
   ·rename_i hs1;have hs1:=AJ hs1;subst hs1;simp only[a0i,a0l] at hk2;split at hk2
    ·rename_i cs0 hl;split at hk2
     ·rename_i newA hnewA;split at hk2
      ·rename_i cs' hcs';have hk:K (.d (.int .i64 (.v (min n m:Nat)))) (st.h.set l (.var cs')) []:=hk2;have hnewA:b2m e2 (min n m)=AF newA:=hnewA;obtain⟨r1,r2⟩:=d7b hnewA;obtain⟨p1,p2⟩:=b5h _ _ _ _ hcs';obtain⟨new,hnew,hn1,hn2,hn3⟩:=c0k (P:=P) (k:=min n m) he2 (CY _ _);cases h0 with
       |vsl _ _ _ b C cap hρ hcap=>
        obtain⟨oo,h2,h3⟩:=hr.sim.obj l _ C hρ;rw[hl] at h2;cases h2;obtain⟨vs,ty,hb,hvs,hold⟩:=h3;rw[Bk] at hn1;have hst:=B0 (P:=P) b off ty new.toList 0 vs w hb (by simp[hvs,hn1];omega) (fun v hv=>hn2 v hv hn0);simp only[BV] at hst;have hrun:=main _ n cap new _ rfl hnew hst;obtain⟨s1,s2,s3,s4,s5,s6⟩:=a7p (cs:=(vs.toList.take off++new.toList++vs.toList.drop (off+new.toList.length)).toArray) hb;have hS: ∀m,S m->(w.setRow b (vs.toList.take off++new.toList++vs.toList.drop (off+new.toList.length)).toArray).heap[m]? =w.heap[m]? :=
         fun m hm=>s6 m (fun e=>hr.sim.own l b C _ hρ hl rfl (e▸hm))
        have hnl:new.toList.length=min n m:=by simpa using hn1
        have k:=Chg.set hr.sim hρ hl rfl s1 s2 s3 s4 s6 (o':= .var cs') ⟨_,ty,s5,?_,fun i x u hx hu=> ?_⟩
        ·exact⟨_,_,_,_,[],S,ρ,.inl hrun,hk,k,.d (.int .i64 (.v _))⟩
        ·rw[p2];simp only[BM,AQ,AO,A4,AW];omega
        ·rw[p2] at hx;simp only[Af] at hu;have htl:(vs.toList.take off).length=off:=by rw[AO,AW];omega
         have htc:(cs0.take off).length=off:=by rw[AO];omega
         by_cases h1:i<off
         ·rw[AY,AE (by omega),Ab h1] at hx hu;exact (hold i x u hx (by simpa using hu)).mono (fun _ h=>h) hS (fun _ _ h=>h)
         ·by_cases h2:i<off+min n m
          ·rw[AY,AD (by omega),AE (by omega),htc] at hx;rw[AY,AD (by omega),AE (by omega),htl] at hu;obtain⟨y,hy1,hy2⟩:=r2 (i-off) (by omega);rw[hy2] at hx;cases hx;exact .d (((hn3 (i-off) (by omega)).2 0 y u (by rw[hy1];rfl) (by simpa using hu)).mono (fun _ h=>h) hS)
          ·rw[AD (by rw[AQ];omega),Ax,AQ,htc,r1,show off+min n m+(i-(off+min n m))=i by omega] at hx;rw[AD (by rw[AQ];omega),Ax,AQ,htl,hnl,show off+min n m+(i-(off+min n m))=i by omega] at hu;exact (hold i x u hx (by simpa using hu)).mono (fun _ h=>h) hS (fun _ _ h=>h)
      ·exact hk2.elim
     ·exact hk2.elim
    ·exact hk2.elim
   ·exact hk2.elim
  ·exact hk2.elim
 ·exact hk2.elim
end
theorem c5h:(b1b== "runtime.NumGoroutine")=Aj:=by decide
structure OkP (P:CG):Prop where
 laid:Bo P=An
 ovl: ∀(f:Ci) (fn:Func),P.funcs[f]? =AF fn->fn.body.isNone=An->fn.name=b1b->
  Extern.findNext fn=Ag/\ ∃tS tR e,Extern.find fn=AF (Extern.SlicesOverlaps.overlaps #[tS,tS] #[tR])/\P.underlying tS=AF (.slice e)/\ ∀w,(sizeOf e).run P w= .ok 1 w
section
variable {P:CG} {A:Ann} {ro:Option Nat} {E:Ent} {c:Nat} {o:Oper} {io:IOp} {st:St} {K:AV->List a0f->List Nat->Prop}
 {a:Cw} {w:A6} {S:Nat->Prop} {ρ:Co} {h:List a0f}
theorem d7d {t e:AX}{X:AZ}(hop:o.op= .call {callee:= .builtin .clear,args:= #[X],argTypes:= #[t]})(ht:P.underlying t=AF (.slice e)){sz:Nat}{zs:List DV}(hsz:a1x P e=AF sz)
 (hz:a5d P e=AF zs) (hzl:zs.length=sz) {x:a0h} (hx:a0g X=AF x) (hk:a0a (Az P A ro E) (.clear sz zs x) st K) (hr:Bx E st a w S ρ):Bl P o a w S ρ st.h K:=by
 have h0:=a0t hr.ts hx;obtain⟨cs,hex⟩:=a2d (a:=a) hop;obtain⟨hn0,hszr⟩:=a1s hsz;obtain⟨i,z,hi,hz0,hd⟩:=a5f hz;obtain⟨d1,d2⟩:=a4y hd;simp only[a0a] at hk;split at hk
 ·rename_i l sz' s n f e1;rw[e1] at h0;split at hk
  ·rename_i hs1;have hs1:=AJ hs1;subst hs1;simp only[a0i,a0l,a3n,b3f] at hk;split at hk
   ·rename_i sz'' n' e2 hl;split at hk
    ·rename_i hs3;have hs3:=AJ hs3;subst hs3;obtain⟨hle,hk⟩:(s.getD 0+n<=n')/\K .any (st.h.set l (.arr sz n' ((Az P A ro E).put (s.getD 0) n e2 ((Az P A ro E).rep n zs)))) []:=hk;obtain⟨aa,cap,hv,hnc,_,hblk⟩:=d7q hr.sim h0 hl rfl hle;have run: ∀w',(Be #[t] o.type #[a.eval X]).run P w= .ok (.tuple #[]) w'->(AU a.eval o).run P w= .ok (.value (.tuple #[])) w':=by intro w' h;rw[hex];simp[builtin,h]
     rw[hv] at run;by_cases hn:n=0
     ·subst hn;rw[b4m,b5s hl] at hk;refine .same hr.sim (run _ ?_) hk (.any _);cases aa<;>simp[Be,AI ht]
     ·rcases hblk with (h2|h2)|⟨b,C,vs,ty,hρ,rfl,hb,hvs,hC,hold⟩
      ·omega
      ·omega
      ·have hCs:(s.getD 0+n)*sz<=C*sz:=AP _ (by omega);rw[Ac] at hCs;have hzc:z.cells.size=sz:=by rw[<-d1,hzl]
       have hnew:CN z.cells n=(BA (n*sz)).map (z.cells[· % z.cells.size]!):=by simp[CN,hzc]
       have hrows: ∀i',i'<n->((Az P A ro E).rep n zs i').length=sz/\ ∀(j:Nat) (x:DV) (u:AN),((Az P A ro E).rep n zs i')[j]? =AF x->((BA (n*sz)).map (z.cells[· % z.cells.size]!)).toList[i'*sz+j]? =AF u->C7 w S x u:=by intro i' hi';rw[show (Az P A ro E).rep n zs i'=zs from if_pos hi'];exact⟨hzl,fun j x u hx hu=>a2r hd hzl n S w i' hi' j x u hx (by rw[Ae] at hu;exact hu)⟩
       have hone: ∀v,v∈((BA (n*sz)).map (z.cells[· % z.cells.size]!)).toList->v.oneCell'=An:=by
        intro v hv;obtain⟨q,hq,rfl⟩:=BU hv;have hq2:q<n*sz:=by simpa using hq
        have hi2:q/sz<n:=(Bh hn0).2 hq2;have hj:q % sz<sz:=CR _ hn0;have hx:zs[q % sz]? =AF (zs[q % sz]'(by rw[hzl];exact hj)):=AS _;refine Cq (a2r hd hzl n S w (q/sz) hi2 (q % sz) _ _ hx ?_);rw[show q/sz*sz+q % sz=q by rw[CL];exact B3 q sz];rw[<-Ae];exact AS hq
       have hst:=B0 (P:=P) b (s.getD 0*sz) ty ((BA (n*sz)).map (z.cells[· % z.cells.size]!)).toList 0 vs w hb (by simp[hvs];omega) hone;simp only[BV] at hst;have hrun: ∀w2,(BS ⟨b,s.getD 0*sz,Ag⟩ ((BA (n*sz)).map (z.cells[· % z.cells.size]!)).toList).run P w= .ok () w2->(Be #[t] o.type #[.slice (AF ⟨b,s.getD 0*sz,Ag⟩) n cap]).run P w= .ok (.tuple #[]) w2:=by intro w2 h;obtain⟨n0,rfl⟩: ∃n0,n=n0+1:=⟨n-1,by omega⟩;simp only[Be];simp only[Af,BJ,Bs,AI ht,BZ,a3m hi hz0,hnew,h,Sem.run_pure]
       have k:=c0f (P:=P) (A:=A) (ro:=ro) (E:=E) (s:=s.getD 0) (k:=n) hr.sim hρ hl hb hvs hC hold (by omega) (by simp) hrows;exact⟨_,_,_,_,[],S,ρ,.inl (run _ (hrun _ hst)),hk,k,.any _⟩
    ·exact hk.elim
   ·exact hk.elim
  ·exact hk.elim
 ·exact hk.elim
theorem c7b {op:BinOp}{t t' e:AX}{X:AZ}{neg:Bool}(hop:o.op= .binOp op t X (.const (.slice Ag 0 0)) t')(hneg:op=if neg then .neq else .eql)(ht:P.underlying t=AF (.slice e))
 {x:a0h} (hx:a0g X=AF x) (hk:a0a (Az P A ro E) (.isnil neg x) st K) (hr:Bx E st a w S ρ):Bl P o a w S ρ st.h K:=by
 have h0:=a0t hr.ts hx;have eqr: ∀(aa:Option B8) (n cap:Nat),(C8 t (.slice aa n cap) (.slice Ag 0 0)).run P w= .ok aa.isNone w:=by
  intro aa n cap;have gen: ∀d,(Bf (d+1) t (.slice aa n cap) (.slice Ag 0 0)).run P w= .ok aa.isNone w:=fun d=>by cases aa<;>simp[Bf,AI ht]
  exact gen 9999
 have fin: ∀(aa:Option B8) (n cap:Nat) (b:Bool),a.eval X= .slice aa n cap->b=(if neg then !aa.isNone else aa.isNone)->K (.d (.bool b)) st.h []->Bl P o a w S ρ st.h K:=by
  intro aa n cap b hv hb hk;refine .same hr.sim (v:= .bool b) ?_ hk (.d (.bool b));subst hb hneg;have hc:a.eval (.const (.slice Ag 0 0))= .slice Ag 0 0:=rfl;cases neg with
  |true=>simp only[if_true] at hop⊢;simp[AU,hop,hv,hc,a1q (P:=P) (w:=w) (u:= .slice aa n cap) rfl,binOp,eqr]
  |false=>simp only[Ay,if_false] at hop⊢;simp[AU,hop,hv,hc,a1q (P:=P) (w:=w) (u:= .slice aa n cap) rfl,binOp,eqr]
 simp only[a0a] at hk;split at hk
 ·rename_i e1;rw[e1] at h0;refine fin Ag 0 0 _ h0.nil ?_ hk;cases neg<;>rfl
 ·rename_i sz n ee e1;rw[e1] at h0;obtain⟨hn,hk⟩:(0<n)/\_:=hk;generalize hv:a.eval X=v at h0;cases h0 with
  |d hd=>
   cases hd with
   |sl0 sz e aa cap=>omega
   |sl sz n e b off cap f hb hc hl hv' hr'=>refine fin _ _ _ _ hv ?_ hk;cases neg<;>rfl
 ·rename_i sz n ee e1;rw[e1] at h0;obtain⟨hn,hk⟩:(0<n)/\_:=hk;generalize hv:a.eval X=v at h0;cases h0 with
  |dfs _ _ _ aa hd=>
   cases hd with
   |sl0 sz e aa cap=>omega
   |sl sz n e b off cap f hb hc hl hv' hr'=>refine fin _ _ _ _ hv ?_ hk;cases neg<;>rfl
 ·rename_i l sz s n f e1;rw[e1] at h0;obtain⟨hn,hk⟩:(0<n)/\_:=hk;generalize hv:a.eval X=v at h0;cases h0 with
  |msl _ _ _ _ _ ob C cap aa hρ hc hcap ha=>
   have hcp:0<cap:=by rw[hcap];split<;>omega
   have haa:=ha hcp;cases ob with
   |none=>obtain⟨oo,h1,h2⟩:=hr.sim.obj l _ C hρ;have:=h2.1;omega
   |some b=>subst haa;refine fin _ _ _ _ hv ?_ hk;cases neg<;>rfl
 ·rename_i n c e1;rw[e1] at h0;generalize hv:a.eval X=v at h0;cases h0 with
  |d hd=>
   cases hd with
   |raw _ _=>refine fin Ag n c _ hv ?_ hk;cases neg<;>rfl
 ·rename_i aa n c e1;rw[e1] at h0;generalize hv:a.eval X=v at h0;cases h0 with
  |d hd=>
   cases hd with
   |raw _ _=>refine fin (AF aa) n c _ hv ?_ hk;cases neg<;>rfl
 ·exact hk.elim
theorem d2d {t e:AX}{X:AZ}{LO HI:Option AZ}(hop:o.op= .slice t X LO HI Ag)(ht:P.underlying t=AF (.slice e)){sz:Nat}(hsz:a1x P e=AF sz)
 {x:a0h} {lo hi:Option a0h} (hx:a0g X=AF x) (hlo:a1z LO=AF lo) (hhi:a1z HI=AF hi)
 (hk:a0a (Az P A ro E) (.slicex sz x lo hi) st K) (hr:Bx E st a w S ρ):Bl P o a w S ρ st.h K:=by
 have h0:=a0t hr.ts hx;simp only[a0a] at hk;split at hk
 ·rename_i l sz' s n e1;rw[e1] at h0;split at hk
  ·rename_i hs1;have hs1:=AJ hs1;subst hs1;simp only[a0i] at hk;split at hk
   ·rename_i sz'' n' e2 hl;split at hk
    ·rename_i hs3;obtain⟨L,hk1,hL⟩:=a4q hr.ts hlo hk;obtain⟨H,hk2,hH⟩:=a4q hr.ts hhi hk1;clear hk hk1;simp only[a0o,a3n] at hk2;obtain⟨g1,g2,g3,hk⟩:(0<=L.val)/\(L.val<=H.val)/\(s.getD 0+H.val.toNat<=n')/\K (.msl l sz (a6q (Az P A ro E) s L) (H.val.toNat-L.val.toNat) Aj) st.h []:=hk2;generalize hv:a.eval X=v at h0;cases h0 with
     |msl _ _ _ _ _ ob C cap aa hρ hc hcap ha=>
      obtain⟨oo,h1,h2⟩:=hr.sim.obj l ob C hρ;rw[hl] at h1;cases h1;have hC:n'<=C:=by
       cases ob with
       |none=>obtain⟨_,sz2,e2,h3|h3⟩:=h2<;>cases h3;omega
       |some b=>obtain⟨vs,ty,h3,h4,h5,h6⟩:=h2;exact h5
      simp at hcap;have hLn:((L.val.toNat:Nat):Int)=L.val:=Ai g1;have hHn:((H.val.toNat:Nat):Int)=H.val:=Ai (by omega);have hL':(LO.map a.eval=Ag/\L.val.toNat=0)\/LO.map a.eval=AF (.int .i64 (L.val.toNat:Nat)):=by
       rcases hL with⟨h1,h2⟩|h1
       ·left;simp[h1,h2,Bg]
       ·right;rw[h1,hLn]
      have hH':(HI.map a.eval=Ag/\H.val.toNat=n/\(Ag:Option AN)=Ag)\/HI.map a.eval=AF (.int .i64 (H.val.toNat:Nat)):=by
       rcases hH with⟨h1,h2⟩|h1
       ·left;exact⟨by simp[h1],by simp[h2,Bg,Az],rfl⟩
       ·right;rw[h1,hHn]
      have hrun:=a3b (w:=w) ht hsz (aa:=aa) (cap:=cap) hL' hH' (.inl ⟨rfl,rfl⟩) (by omega) (by omega) (AK cap);have run: ∀{r:AN},(BF t (.slice aa n cap) (LO.map a.eval) (HI.map a.eval) Ag).run P w= .ok r w->(AU a.eval o).run P w= .ok (.value r) w:=by intro r h;simp[AU,hop,hv,h]
      refine .same hr.sim (run hrun) hk (.msl l sz _ _ Aj ob C _ _ hρ (by rw[a2h];omega) (by rw[a2h];simp;omega) (fun h5=> ?_))
      ·rw[if_neg (by omega),ha (by omega),a2h];cases ob with
       |none=>rfl
       |some b=>simp[a1n,Ac]
    ·exact hk.elim
   ·exact hk.elim
  ·exact hk.elim
 ·exact hk.elim
theorem d8f {t e:AX}{X H0:AZ}{LO MX:Option AZ}(hop:o.op= .slice t X LO (AF H0) MX)(ht:P.underlying t=AF (.slice e)){sz:Nat}(hsz:a1x P e=AF sz)
 {x:a0h} {lo hi mx:Option a0h} (hx:a0g X=AF x) (hlo:a1z LO=AF lo) (hhi:a1z (AF H0)=AF hi) (hmx:a1z MX=AF mx)
 (hk:a0a (Az P A ro E) (.slchk sz x lo hi mx) st K) (hr:Bx E st a w S ρ):Bl P o a w S ρ st.h K:=by
 have h0:=a0t hr.ts hx;simp only[a0a] at hk;have main: ∀(aa:Option B8) (n cap sz':Nat),a.eval X= .slice aa n cap->n<=cap->a4h (Az P A ro E) st.ts sz sz' n lo hi mx (K .any st.h [])->Bl P o a w S ρ st.h K:=by
  intro aa n cap sz' hv hnc hk;have run: ∀{r:AN},(BF t (.slice aa n cap) (LO.map a.eval) ((AF H0).map a.eval) (MX.map a.eval)).run P w= .ok r w->(AU a.eval o).run P w= .ok (.value r) w:=by intro r h;simp at h;simp[AU,hop,hv,h]
  unfold a4h at hk;split at hk
  ·obtain⟨L,hk1,hL⟩:=a4q hr.ts hlo hk;obtain⟨H,hk2,hH⟩:=a4q hr.ts hhi hk1;obtain⟨M,hk3,hM⟩:=a4q hr.ts hmx hk2;clear hk hk1 hk2;obtain⟨g1,g2,g3,g4,hk⟩:(0<=L.val)/\(L.val<=H.val)/\(H.val<=M.val)/\(M.val<=(n:Int))/\K .any st.h []:=hk3;have hLn:((L.val.toNat:Nat):Int)=L.val:=Ai g1;have hHn:((H.val.toNat:Nat):Int)=H.val:=Ai (by omega);have hMn:((M.val.toNat:Nat):Int)=M.val:=Ai (by omega);have hL':(LO.map a.eval=Ag/\L.val.toNat=0)\/LO.map a.eval=AF (.int .i64 (L.val.toNat:Nat)):=by
    rcases hL with⟨h1,h2⟩|h1
    ·left;simp[h1,h2,Bg]
    ·right;rw[h1,hLn]
   have hH':(AF H0:Option AZ).map a.eval=AF (.int .i64 (H.val.toNat:Nat)):=by
    rcases hH with⟨h1,h2⟩|h1
    ·cases h1
    ·rw[h1,hHn]
   rcases hM with⟨h1,h2⟩|h1
   ·have hrun:=a3b (w:=w) ht hsz (aa:=aa) (len:=n) (cap:=cap) (mv:=MX.map a.eval) hL' (.inr hH') (.inl ⟨by simp[h1],rfl⟩) (by omega) (by omega) (AK cap);exact .same hr.sim (run hrun) hk (.any _)
   ·have hrun:=a3b (w:=w) ht hsz (aa:=aa) (len:=n) (cap:=cap) (M:=M.val.toNat) (mv:=MX.map a.eval) hL' (.inr hH') (.inr (by rw[h1,hMn])) (by omega) (by omega) (by omega);exact .same hr.sim (run hrun) hk (.any _)
  ·exact hk.elim
 split at hk
 ·rename_i l sz' s n f e1;rw[e1] at h0;generalize hv:a.eval X=v at h0;cases h0 with
  |msl _ _ _ _ _ ob C cap aa hρ hc hcap ha=>exact main _ _ _ _ hv (by rw[hcap];split<;>omega) hk
 ·rename_i sz' n ee e1;rw[e1] at h0;generalize hv:a.eval X=v at h0;cases h0 with
  |d hd=>
   cases hd with
   |sl0 sz e aa cap=>exact main _ _ _ _ hv (Ct _) hk
   |sl sz n e b off cap f hb hc hl hv' hr'=>exact main _ _ _ _ hv hc hk
 ·exact hk.elim
theorem e3j {t:AX}{s:ByteArray}{X:AZ}(hop:o.op= .index t (.const (.string s)) X)(ht:P.underlying t=AF .string){x:a0h}(hx:a0g X=AF x)
 (hk:a0a (Az P A ro E) (.idxs s.data.toList x) st K) (hr:Bx E st a w S ρ):Bl P o a w S ρ st.h K:=by
 have h0:=a0t hr.ts hx;simp only[a0a] at hk;split at hk
 ·rename_i k i e1;rw[e1] at h0;rw[a0u] at hk;obtain⟨⟨g1,g2⟩,hk⟩:(0<=i.val/\i.val<(s.data.toList.length:Int))/\K (.d (.int .u8 (.v ((s.data.toList.getD i.val.toNat 0).toNat:Int)))) st.h []:=hk;refine .same hr.sim (v:= .int .u8 ((s.data.toList.getD i.val.toNat 0).toNat:Int)) ?_ hk (.d (.int .u8 (.v _)));have hc:a.eval (.const (.string s))= .string s:=rfl;have hlt:i.val.toNat<s.data.size:=by rw[AW] at g2;omega
  have hg:s[i.val.toNat]? =AF (s.data[i.val.toNat]'hlt):=by have hlt':i.val.toNat<s.size:=hlt;rw[getElem?_pos s i.val.toNat hlt'];rfl
  have hd:s.data.toList.getD i.val.toNat 0=s.data[i.val.toNat]'hlt:=by rw[List.getD_eq_getElem?_getD,Ae,Array.getElem?_eq_getElem hlt];rfl
  rw[hd];simp[AU,hop,hc,h0.int,Instr.index,Cl,AI ht,g1,hg]
 ·exact hk.elim
theorem d0l {t e:AX}{ps:Array (Nat×AZ)}(hop:o.op= .buildSlice t 0 ps)(hps:ps.toList=[])(ht:P.underlying t=AF (.slice e)){sz:Nat}(hsz:a1x P e=AF sz):
 (AU a.eval o).run P w= .ok (.value (.slice (AF ⟨w.heap.size,0,Ag⟩) 0 0)) (w.alloc (.cells #[] e)):=by
 obtain⟨hn0,hszr⟩:=a1s hsz;have hps':ps= #[]:=by apply BI;simpa using hps
 have r0: ∀f:Nat->AN,(BA 0).map f= #[]:=fun f=>by apply BI;simp
 simp[AU,hop,hps',Bt,AI ht,hszr,r0,DB,BH]
theorem f0s (hok:OkP P){f:Ci}{fn:Func}(hf:P.funcs[f]? =AF fn)(hb:fn.body.isNone=An)(hname:fn.name=b1b){X Y:AZ}{tys:Array AX}
 (hop:o.op= .call {callee:= .value (.func f),args:= #[X,Y],argTypes:=tys}) {x y:a0h} (hx:a0g X=AF x) (hy:a0g Y=AF y)
 (hk:a0a (Az P A ro E) (.ovl x y) st K) (hr:Bx E st a w S ρ):Bl P o a w S ρ st.h K:=by
 have h0:=a0t hr.ts hx;have h1:=a0t hr.ts hy;obtain⟨hn,tS,tR,e,he,ht,hz⟩:=hok.ovl f fn hf hb hname;simp only[a0a] at hk;split at hk
 ·rename_i l sl1 sl2 sl3 sl4 l' sr1 sr2 sr3 sr4 e1 e2;rw[e1] at h0;rw[e2] at h1;split at hk
  ·exact hk.elim
  ·rename_i hne;obtain⟨hla,hlb,hk⟩:(0<sl3)/\(0<sr3)/\_:=hk;simp only[a0i] at hk;split at hk
   ·rename_i n1 ee1 n2 ee2 hl1 hl2;obtain⟨hpos,hk⟩:(0<n2)/\K (.d (.bool Aj)) st.h []:=hk;generalize hv1:a.eval X=v1 at h0;generalize hv2:a.eval Y=v2 at h1;cases h0 with
    |msl _ _ _ la _ ob1 C1 cap1 aa1 hρ1 hc1 hcap1 ha1=>
     cases h1 with
     |msl _ _ _ lb _ ob2 C2 cap2 aa2 hρ2 hc2 hcap2 ha2=>
      refine .same hr.sim (v:= .bool Aj) ?_ hk (.d (.bool Aj));have hcall:(callFunc f #[.slice aa1 sl3 cap1,.slice aa2 sr3 cap2]).run P w= .ok (.value (.bool Aj)) w:=by
       rw[run_callFunc_extern hf (by rw[hname];exact c5h) hb hn he];obtain⟨o1,q1,q2⟩:=hr.sim.obj l ob1 C1 hρ1;rw[hl1] at q1;cases q1;obtain⟨o2,q3,q4⟩:=hr.sim.obj l' ob2 C2 hρ2;rw[hl2] at q3;cases q3;have hcp1:0<cap1:=by rw[hcap1];split<;>omega
       have hcp2:0<cap2:=by rw[hcap2];split<;>omega
       cases ob1 with
       |none=>have:=q2.1;omega
       |some b1=>
        cases ob2 with
        |none=>have:=q4.1;omega
        |some b2=>
         obtain⟨vs1,ty1,p1,p2,p3,p4⟩:=q2;obtain⟨vs2,ty2,p5,p6,p7,p8⟩:=q4;have hbne:b1≠b2:=by intro hb12;subst hb12;have:=hr.sim.inj l l' b1 C1 C2 hρ1 hρ2;subst this;simp at hne
         have haa1:=ha1 hcp1;have haa2:=ha2 hcp2;simp only[A7] at haa1 haa2;subst haa1 haa2;rw[Lib.run_overlaps_apart w tS tR e ht 1 hz _ _ sl3 cap1 sr3 cap2 hbne ty1 ty2 vs1.size vs2.size (by simp[World.shape?,p1]) (by simp[World.shape?,p5]) (by rw[p6,Bk];omega)
          (by simp[World.frozen?,p1]) (by simp[World.frozen?,p1])]
         rfl
      have hF:a.eval (.func f)= .func (.func f) #[] #[]:=rfl;simp[AU,hop,Bj,hF,Bn,Bv,hv1,hv2,hcall]
   ·exact hk.elim
 ·exact hk.elim
end
section
variable {P:CG} {A:Ann} {ro:Option Nat} {E:Ent} {c:Nat} {o:Oper} {io:IOp} {st:St} {K:AV->List a0f->List Nat->Prop}
 {a:Cw} {w:A6} {S:Nat->Prop} {ρ:Co} {h:List a0f} {next:Cw->A6->Prop} {Q:Exit->Cw->A6->Prop}
theorem a7e {t k e:AX}(h:c4t P t=AF (k,e)):P.underlying t=AF (.map k e):=by
 simp[c4t,AA] at h;obtain⟨d,hd,h⟩:=h;split at h
 ·simp at h;obtain⟨rfl,rfl⟩:=h;exact hd
 ·cases h
theorem c0h (d:Nat): ∀(m:Nat) (t:AX),P.keyTypeAt m t=An-> ∀(n:Nat) (ks:List CK),a4l P n t=AF ks->EqI P w (d+m) t ks
 |0,_,h=>by simp[Program.keyTypeAt] at h
 |m+1,t,hk=>by
  intro n ks hf x y fx fy hx hy;cases n with
  |zero=>simp[a4l] at hf
  |succ n=>
   unfold Program.keyTypeAt at hk;simp only[a4l] at hf;split at hf
   ·rename_i q hu;split at hf
    ·simp at hf;subst hf;have one: ∀{z:AN},z.formed P t=An->z.cells= #[z]:=by
      intro z hz;cases z<;>first|rfl|(simp[Aw,hu] at hz)
     rw[one fx] at hx;rw[one fy] at hy;obtain⟨x',h1,k1⟩:=hx.2 0 _ rfl;obtain⟨y',h2,k2⟩:=hy.2 0 _ rfl;have h1:AF x=AF x':=h1;have h2:AF y=AF y':=h2;cases h1;cases h2;cases k1 with
     |i _ n1=>
      cases k2 with
      |i _ n2=>refine⟨n1==n2,?_,by simp[BQ]⟩;rw[show d+(m+1)=(d+m)+1 from rfl];simp[Bf,AI hu]
    ·cases hf
   ·rename_i hu;split at hf
    ·simp at hf;subst hf;have one: ∀{z:AN},z.formed P t=An->z.cells= #[z]:=by
      intro z hz;cases z<;>first|rfl|(simp[Aw,hu] at hz)
     rw[one fx] at hx;rw[one fy] at hy;obtain⟨x',h1,k1⟩:=hx.2 0 _ rfl;obtain⟨y',h2,k2⟩:=hy.2 0 _ rfl;have h1:AF x=AF x':=h1;have h2:AF y=AF y':=h2;cases h1;cases h2;cases k1 with
     |o n1=>
      cases k2 with
      |o n2=>refine⟨n1==n2,?_,by simp[BQ]⟩;rw[show d+(m+1)=(d+m)+1 from rfl];simp[Bf,AI hu]
    ·cases hf
   ·rename_i fs hu;simp only[AG,AA] at hf;obtain⟨ks',hff,hf⟩:=hf;split at hf
    ·rename_i hc;simp only[AH,AC] at hf;subst hf;simp only[hu,BD,Bool.not_eq_true'] at hk;cases x<;>simp only[Aw,hu,Ay] at fx;cases y<;>simp only[Aw,hu,Ay] at fy;rename_i xs ys;have hfs:P.fieldsOf t=fs:=by simp[Program.fieldsOf,hu]
     have cut: ∀{l:List AN},l.length=ks'.length->(l.drop 0).take ks'.length=l:=fun h=>by rw[Cd,<-h,CU]
     simp only[BQ] at hx hy⊢;obtain⟨r,hr,hiff⟩:=c5i (w:=w) (dd:=d+m) xs ys fs.toList 0 ks' hff (fun f hf=>by
      have:=Array.all_eq_true_iff_forall_mem.1 hk.1.1 f (Array.mem_toList_iff.1 hf);simp only[BD,bne_iff_ne,ne_eq] at this;exact⟨this.1,fun k2 hk2=>c0h d m f.type this.2 n k2 hk2⟩) (by rw[cut hx.1];exact hx) (by rw[cut hy.1];exact hy)
     rw[cut hx.1,cut hy.1] at hiff;exact⟨r,by rw[show d+(m+1)=(d+m)+1 from rfl,run_equalIn_struct w (d+m) t xs ys (by rw[hfs];exact hu) hk.2,hfs];exact hr,hiff⟩
    ·cases hf
   ·rename_i len e hu;simp only[AG,AA] at hf;obtain⟨ks',hfe,hf⟩:=hf;split at hf
    ·rename_i hc;simp only[AH,AC] at hf;subst hf;simp only[hu] at hk;cases x<;>simp only[Aw,hu,Ay] at fx;cases y<;>simp only[Aw,hu,Ay] at fy;rename_i xs ys;simp only[BQ] at hx hy⊢;have hL:((BN len ks').flatten).length=len*ks'.length:=by simp
     have hi: ∃i,P.info? e=AF i:=by
      cases n with
      |zero=>simp[a4l] at hfe
      |succ n=>
       simp only[a4l] at hfe;split at hfe
       ·rename_i hue;exact BO hue
       ·rename_i hue;exact BO hue
       ·rename_i hue;exact BO hue
       ·rename_i hue;exact BO hue
       ·cases hfe
     obtain⟨i,hi⟩:=hi;have sub: ∀{zs:Array AN},a3h (BN len ks').flatten zs.toList-> ∀i,i<len->a3h ks' ((zs.toList.drop ((0+i)*ks'.length)).take ks'.length):=by intro zs hz i hi;have h1:=hz.1;rw[hL] at h1;have h2:(i+1)*ks'.length<=len*ks'.length:=AP _ (by omega);rw[Ac] at h2;rw[A3];refine hz.cut (by omega) fun j k hj=> ?_;rw[c6x _ _ _ _ hi (AB.1 hj).1];exact hj
     have cut: ∀{zs:Array AN},a3h (BN len ks').flatten zs.toList->(zs.toList.drop (0*ks'.length)).take (len*ks'.length)=zs.toList:=fun hz=>by have h1:=hz.1;rw[hL] at h1;rw[Nat.zero_mul,Cd,<-h1,CU]
     obtain⟨r,hr,hiff⟩:=d0r hfe (c0h d m e hk n ks' hfe) xs ys len 0 (sub hx) (sub hy);rw[cut hx,cut hy] at hiff;refine⟨r,?_,hiff⟩;rw[show d+(m+1)=(d+m)+1 from rfl,run_equalIn_array w (d+m) xs ys hu hi,<-hc.1,List.range_eq_range'];exact hr
    ·cases hf
   ·cases hf
theorem e4q {ks:List CK}: ∀{xs ys:List AV} {us vs:List AN} {b:Bool},c6a (Az P A ro E) ks xs ys=AF b->xs.length=us.length->ys.length=vs.length->
 (∀(i:Nat) (x:AV) (v:AN),xs[i]? =AF x->us[i]? =AF v->VR w S ρ x v)->(∀(i:Nat) (x:AV) (v:AN),ys[i]? =AF x->vs[i]? =AF v->VR w S ρ x v)->
 a3h ks us/\a3h ks vs/\(b=An↔us=vs):=by
 have mk: ∀{k:CK} {ks:List CK} {z:AN} {ws:List AN},IsK k z->a3h ks ws->a3h (k::ks) (z::ws):=by
  intro k ks z ws hz hw;refine⟨by simp[hw.1],fun i q hq=> ?_⟩;cases i with
  |zero=>simp at hq;subst hq;exact⟨z,rfl,hz⟩
  |succ i=>simp at hq⊢;exact hw.2 i q hq
 induction ks with
 |nil=>
  intro xs ys us vs b h h1 h2 _ _
  match xs,ys,h with
  |[],[],h=>simp[c6a] at h;subst h;cases us<;>simp at h1;cases vs<;>simp at h2;exact⟨⟨rfl,by simp⟩,⟨rfl,by simp⟩,by simp⟩
 |cons k ks ih=>
  intro xs ys us vs b h h1 h2 hx hy;cases k with
  |i k=>
   match xs,ys,us,vs,h,h1,h2 with
   | .d (.int k1 x)::xs,.d (.int k2 y)::ys,u::us,v::vs,h,h1,h2=>
     simp only[c6a] at h;split at h
     ·rename_i hk1;split at h
      ·rename_i hk2;split at h
       ·rename_i b' hb';simp only[AC] at h;obtain⟨i1,i2,i3⟩:=ih hb' (by simpa using h1) (by simpa using h2) (fun i x v hx' hv'=>hx (i+1) x v (by simpa using hx') (by simpa using hv')) (fun i x v hx' hv'=>hy (i+1) x v (by simpa using hx') (by simpa using hv'));have e1:u= .int k x.val:=by rw[hk1];exact (hx 0 _ u rfl rfl).int
        have e2:v= .int k y.val:=by rw[hk2];exact (hy 0 _ v rfl rfl).int
        subst e1 e2;refine⟨mk (.i k _) i1,mk (.i k _) i2,?_⟩;rw[<-h];show ((x.val==y.val)&&b')=An↔_;simp[i3]
       ·cases h
      ·cases h
     ·cases h
  |o=>
   match xs,ys,us,vs,h,h1,h2 with
   | .d (.bool x)::xs,.d (.bool y)::ys,u::us,v::vs,h,h1,h2=>
     simp only[c6a] at h;split at h
     ·rename_i b' hb';simp only[AC] at h;obtain⟨i1,i2,i3⟩:=ih hb' (by simpa using h1) (by simpa using h2) (fun i x v hx' hv'=>hx (i+1) x v (by simpa using hx') (by simpa using hv')) (fun i x v hx' hv'=>hy (i+1) x v (by simpa using hx') (by simpa using hv'));have e1:u= .bool x:=(hx 0 _ u rfl rfl).bool;have e2:v= .bool y:=(hy 0 _ v rfl rfl).bool;subst e1 e2;refine⟨mk (.o _) i1,mk (.o _) i2,?_⟩;rw[<-h];show ((x==y)&&b')=An↔_;simp[i3]
     ·cases h
theorem e2t {S:Sig}{ks:List Ak}: ∀{xs ys:List AV} {b:Bool},d9q S ks xs ys=AF b->c6a S (ks.map .i) xs ys=AF b:=by
 induction ks with
 |nil=>
  intro xs ys b h
  match xs,ys,h with
  |[],[],h=>exact h
 |cons k ks ih=>
  intro xs ys b h
  match xs,ys,h with
  | .d (.int k1 x)::xs,.d (.int k2 y)::ys,h=>
    simp only[d9q] at h;simp only[B9,c6a];split at h
    ·rename_i hk1;split at h
     ·rename_i hk2;split at h
      ·rename_i b' hb';rw[if_pos hk1,if_pos hk2,ih hb'];exact h
      ·cases h
     ·cases h
    ·cases h
theorem c2v {op:BinOp}{t t':AX}{X Y:AZ}(hop:o.op= .binOp op t X Y t'){neg:Bool}(hneg:op=if neg then .neq else .eql){ks:List CK}(hk0:d7w P t=AF ks){kd:TypeDesc}(hu:P.underlying t=AF kd)(hkd:(∃n e,kd= .array n e)\/ ∃fs,kd= .struct fs)
 (hg:P.eqGuardType P.depth t=Aj)
 {x y:a0h} (hx:a0g X=AF x) (hy:a0g Y=AF y) (hk:a0a (Az P A ro E) (.aeqw neg ks x y) st K) (hr:Bx E st a w S ρ):Bl P o a w S ρ st.h K:=by
 have h0:=a0t hr.ts hx;have h1:=a0t hr.ts hy;simp only[a0a] at hk;split at hk
 ·rename_i xs ys e1 e2;rw[e1] at h0;rw[e2] at h1;generalize hv1:a.eval X=v1 at h0;generalize hv2:a.eval Y=v2 at h1;split at hk
  ·rename_i b hb;cases h0 with
   |agg _ us hl1 hc1=>
    cases h1 with
    |agg _ vs hl2 hc2=>
     obtain⟨i1,i2,i3⟩:=e4q (us:=us.toList) (vs:=vs.toList) hb (by simpa using hl1) (by simpa using hl2) (fun i x v hx hv=>hc1 i x v hx (by simpa using hv)) (fun i x v hx hv=>hc2 i x v hx (by simpa using hv));simp only[d7w,AG,AA] at hk0;obtain⟨ks',hf,hk0⟩:=hk0;split at hk0
     ·rename_i hkt;simp only[AH,AC] at hk0;subst hk0;have hlen:=b8d hf;have fm: ∀{zs:Array AN},a3h ks' zs.toList->(Cr zs).formed P t=An:=by
       intro zs hz;have:=hz.1;simp only[AW] at this;rcases hkd with⟨n,e,rfl⟩|⟨fs,rfl⟩<;>simp[Aw,hu,this,hlen]
      obtain⟨r,hrun,hiff⟩:=c0h (w:=w) (10000-20) 20 t hkt _ ks' hf (.agg us) (.agg vs) (fm i1) (fm i2) i1 i2;have hrb:r=b:=by
       have:r=An↔b=An:=by rw[hiff,i3];rfl
       cases r<;>cases b<;>simp_all
      subst hrb;have heq:(C8 t (.agg us) (.agg vs)).run P w= .ok r w:=hrun;have hgd: ∀op,(eqGuard op t X Y (.agg us) (.agg vs)).run P w= .ok () w:=by intro op;have hp:(program:Sem CG).run P w= .ok P w:=rfl;unfold eqGuard;cases op<;>simp[hp,hg]
      subst hneg;cases neg with
      |true=>simp only[if_true] at hop hk;refine .same hr.sim (v:= .bool (!r)) ?_ hk (.d (.bool _));simp[AU,hop,hv1,hv2,hgd,binOp,heq]
      |false=>simp only[Ay,if_false] at hop hk;refine .same hr.sim (v:= .bool r) ?_ hk (.d (.bool _));simp[AU,hop,hv1,hv2,hgd,binOp,heq]
     ·cases hk0
  ·exact hk.elim
 ·exact hk.elim
theorem e2u {op:BinOp}{t t':AX}{X Y:AZ}(hop:o.op= .binOp op t X Y t'){neg:Bool}(hneg:op=if neg then .neq else .eql){fs:Array DA}(hu:P.underlying t=AF (.struct fs))
 (hg:P.eqGuardType P.depth t=Aj) {x y:a0h} (hx:a0g X=AF x) (hy:a0g Y=AF y) (hc:b6q P neg t x y=AF io) (hk:a0a (Az P A ro E) io st K) (hr:Bx E st a w S ρ):Bl P o a w S ρ st.h K:=by
 unfold b6q at hc;split at hc
 ·rename_i k hk0;cases hc;have hk1:d7w P t=AF (k.2.map .i):=by
   simp only[c5c,AG,AA] at hk0;obtain⟨ks',hf,hk0⟩:=hk0;rw[hu] at hk0;simp only at hk0;split at hk0
   ·rename_i hkt;simp only[AH,AC] at hk0;subst hk0;simp only[d7w,AG,AA];exact⟨_,e3x hf,by rw[if_pos hkt.1];rfl⟩
   ·cases hk0
  refine c2v (A:=A) (ro:=ro) hop hneg hk1 hu (.inr ⟨fs,rfl⟩) hg hx hy ?_ hr;simp only[a0a] at hk⊢;split at hk
  ·rename_i e1 e2;split at hk
   ·rename_i b hb;simp only[e2t hb];exact hk
   ·exact hk.elim
  ·exact hk.elim
 ·simp only[AG,AA,AH,AC] at hc;obtain⟨ks,hk0,rfl⟩:=hc;exact c2v hop hneg hk0 hu (.inr ⟨fs,rfl⟩) hg hx hy hk hr
theorem d1x (hl:Bo P=An){t kt et:AX}{M X:AZ}{ok:Bool}(hop:o.op= .lookup t M X ok)(ht:P.underlying t=AF (.map kt et))(hz: ∀w,(Cp et).run P w= .ok (.int .i64 0) w){wide:Bool}{ks:List Ak}(hk0:c5c P kt=AF (wide,ks))
 {m x:a0h} (hm:a0g M=AF m) (hx:a0g X=AF x) (hk:a0a (Az P A ro E) (.lookup wide ks ok m x) st K) (hr:Bx E st a w S ρ):Bl P o a w S ρ st.h K:=by
 have h0:=a0t hr.ts hm;have h1:=a0t hr.ts hx;simp only[a0a] at hk;split at hk
 ·rename_i l e1;rw[e1] at h0;split at hk
  ·rename_i wide' ks' n f hlg;split at hk
   ·rename_i hc;obtain⟨rfl,rfl⟩:=hc;generalize hv:a.eval M=v at h0;cases h0 with
    |map _ b C hρ=>
     obtain⟨kc,hsh,hkey,hk⟩:=a7u h1 hk;obtain⟨oo,ho,hh⟩:=hr.sim.obj l _ C hρ;rw[<-a0i,hlg] at ho;cases ho;obtain⟨es,clock,hb,mr⟩:=hh;obtain⟨KK,hks,_⟩:=a7q hl hk0;obtain⟨lx,hlx⟩:=hks _ hsh;have hex: ∀{r:Option (Nat×AN)},(B6 kt (a.eval X) es.toList).run P w= .ok r w->
      (AU a.eval o).run P w= .ok (.value (if ok then .tuple #[(r.map (·.2)).getD (.int .i64 0),.bool r.isSome] else (r.map (·.2)).getD (.int .i64 0))) w:=by
      intro r hf;cases r with
      |none=>simp[AU,hop,hv,Bp,AI ht,Aa hb,KK.check w _ hlx,hf,hz,Am]
      |some r=>simp[AU,hop,hv,Bp,AI ht,Aa hb,KK.check w _ hlx,hf,Am]
     have fin: ∀{r:Option (Nat×AN)} {q:Option Int},(B6 kt (a.eval X) es.toList).run P w= .ok r w->r.map (·.2)=q.map (Br .i64)->f kc=q->Bl P o a w S ρ st.h K:=by
      intro r q hf hq hfq;have hrv:(r.map (·.2)).getD (.int .i64 0)= .int .i64 (q.getD 0):=by rw[hq];cases q<;>rfl
      have hri:r.isSome=q.isSome:=by have:=congrArg Option.isSome hq;simpa using this
      have hex:=hex hf;rw[hrv,hri] at hex;subst hfq;cases ok with
      |true=>
       refine .same hr.sim hex hk (.tuple _ _ rfl fun i x v hx hv=> ?_)
       match i with
       |0=>simp at hx hv;subst hx;subst hv;exact .d (.int .i64 (.v ((f kc).getD 0)))
       |1=>simp at hx hv;subst hx;subst hv;exact .d (.bool (f kc).isSome)
       |i+2=>simp at hx
      |false=>exact .same hr.sim hex hk (.d (.int .i64 (.v ((f kc).getD 0))))
     rcases KK.find w hlx es.toList (fun e he=>hks _ (mr.keys e he)) with⟨h2,h3⟩|⟨j,e,h2,h3,h4⟩
     ·exact fin h2 (q:=Ag) rfl (by rw[<-mr.find];exact b3b hsh hkey mr.keys h3)
     ·have he:=As h3;obtain⟨q,hq⟩:=mr.vals e he;exact fin h2 (q:=AF q) (by simp[hq]) (by rw[<-mr.find];exact b2y hsh hkey mr.keys mr.nd he h4 hq)
   ·exact hk.elim
  ·exact hk.elim
 ·exact hk.elim
theorem c7f {t:AX}{z:AV}(h:b8x P t=AF z): ∃v,(∀w,(Cp t).run P w= .ok v w)/\ ∀w S ρ,VR w S ρ z v:=by simp only[b8x,AG,AA] at h;obtain⟨i,hi,v,hv,h⟩:=h;exact⟨v,fun w=>a3m hi hv,fun w S ρ=>d5c h⟩
theorem b7g (hl:Bo P=An){t kt et:AX}{M X:AZ}{ok:Bool}(hop:o.op= .lookup t M X ok)(ht:P.underlying t=AF (.map kt et)){z:AV}(hz:b8x P et=AF z){wide:Bool}{ks:List Ak}(hk0:c5c P kt=AF (wide,ks))
 {m x:a0h} (hm:a0g M=AF m) (hx:a0g X=AF x) (hk:a0a (Az P A ro E) (.lookupv wide ks ok z m x) st K) (hr:Bx E st a w S ρ):Bl P o a w S ρ st.h K:=by
 have h0:=a0t hr.ts hm;have h1:=a0t hr.ts hx;obtain⟨zv,hz1,hz2⟩:=c7f hz;simp only[a0a] at hk;split at hk
 ·rename_i l e1;rw[e1] at h0;split at hk
  ·rename_i wide' ks' keys vals hlg;split at hk
   ·rename_i hc;obtain⟨rfl,rfl⟩:=hc;generalize hv:a.eval M=v at h0;cases h0 with
    |map _ b C hρ=>
     obtain⟨kc,hsh,hkey,hk⟩:=a7u h1 hk;obtain⟨oo,ho,hh⟩:=hr.sim.obj l _ C hρ;rw[<-a0i,hlg] at ho;cases ho;obtain⟨es,clock,hb,mr,⟨hsz,_⟩,hvs⟩:=hh;obtain⟨KK,hks,_⟩:=a7q hl hk0;obtain⟨lx,hlx⟩:=hks _ hsh;have hat:a6s es.toList keys:=⟨mr.len,mr.at'⟩;have hvl:vals.length=es.toList.length:=by rw[<-hsz];simp
     have hex: ∀{r:Option (Nat×AN)},(B6 kt (a.eval X) es.toList).run P w= .ok r w->
      (AU a.eval o).run P w= .ok (.value (if ok then .tuple #[(r.map (·.2)).getD zv,.bool r.isSome] else (r.map (·.2)).getD zv)) w:=by
      intro r hf;cases r with
      |none=>simp[AU,hop,hv,Bp,AI ht,Aa hb,KK.check w _ hlx,hf,hz1,Am]
      |some r=>simp[AU,hop,hv,Bp,AI ht,Aa hb,KK.check w _ hlx,hf,Am]
     have two: ∀{x:AV} {v:AN} {b:Bool},VR w S ρ x v->VR w S ρ (.tuple [x,.d (.bool b)]) (.tuple #[v,.bool b]):=fun {x v b} h=> .tuple _ _ rfl fun i y u hy hu=>by
      match i with
      |0=>simp at hy hu;subst hy;subst hu;exact h
      |1=>simp at hy hu;subst hy;subst hu;exact .d (.bool b)
      |i+2=>simp at hy
     rcases KK.find w hlx es.toList (fun e he=>hks _ (mr.shape e he)) with⟨h2,h3⟩|⟨j,e,h2,h3,h4⟩
     ·obtain⟨hnone,_⟩:=d5n hsh hkey .any (vals:=vals) hat mr.shape h3;rw[hnone] at hk;have hex:=hex h2;cases ok with
      |true=>exact .same hr.sim hex hk (two (hz2 _ _ _))
      |false=>exact .same hr.sim hex hk (hz2 _ _ _)
     ·obtain⟨⟨v',hv',hsome⟩,_⟩:=d5g hsh hkey .any (vals:=vals) hat hvl mr.shape mr.nd h3 h4;rw[hsome] at hk;have hex:=hex h2;have hvr:=hvs j v' e hv' (by simpa using h3);cases ok with
      |true=>exact .same hr.sim hex hk (two hvr)
      |false=>exact .same hr.sim hex hk hvr
   ·exact hk.elim
  ·exact hk.elim
 ·exact hk.elim
theorem d4b (hl:Bo P=An){t kt et:AX}{M X:AZ}(hop:o.op= .mapEntry t M X)(ht:P.underlying t=AF (.map kt et)){z:AV}(hz:b8x P et=AF z){wide:Bool}{ks:List Ak}(hk0:c5c P kt=AF (wide,ks))
 {m x:a0h} (hm:a0g M=AF m) (hx:a0g X=AF x) (hk:a0a (Az P A ro E) (.mapent wide ks z m x) st K) (hr:Bx E st a w S ρ):Bl P o a w S ρ st.h K:=by
 have h0:=a0t hr.ts hm;have h1:=a0t hr.ts hx;obtain⟨zv,hz1,hz2⟩:=c7f hz;simp only[a0a] at hk;split at hk
 ·rename_i l e1;rw[e1] at h0;split at hk
  ·rename_i wide' ks' keys vals hlg;split at hk
   ·rename_i hc;obtain⟨rfl,rfl⟩:=hc;generalize hv:a.eval M=v at h0;cases h0 with
    |map _ b C hρ=>
     obtain⟨kc,hsh,hkey,hk⟩:=a7u h1 hk;obtain⟨oo,ho,hh⟩:=hr.sim.obj l _ C hρ;have hlg':=hlg;rw[a0i] at hlg';rw[hlg'] at ho;cases ho;obtain⟨es,clock,hb,mr,⟨hsz,hck⟩,hvs⟩:=hh;obtain⟨KK,hks,_⟩:=a7q hl hk0;obtain⟨lx,hlx⟩:=hks _ hsh;have hat:a6s es.toList keys:=⟨mr.len,mr.at'⟩;have hvl:vals.length=es.toList.length:=by rw[<-hsz];simp
     have hbl:b<w.heap.size:=(BB.1 hb).1;have hnS: ¬S b:=hr.sim.own l b C _ hρ hlg' rfl;have two: ∀{w':A6} {x:AV} {v:AN} {n:Int},VR w' S ρ x v->VR w' S ρ (.tuple [x,.d (.int .i64 (.v n))]) (.tuple #[v,.int .i64 n]):=fun {w' x v n} h=> .tuple _ _ rfl fun i y u hy hu=>by
      match i with
      |0=>simp at hy hu;subst hy;subst hu;exact h
      |1=>simp at hy hu;subst hy;subst hu;exact .d (.int .i64 (.v n))
      |i+2=>simp at hy
     have hsub: ∀es' clock',∀k,S k->(w.heap.setIfInBounds b (.map es' clock'))[k]? =w.heap[k]? :=fun es' clock' k hkS=>by have hne:k≠b:=fun e=>hnS (e▸hkS);simp[Ah (Av hne)]
     rcases KK.find w hlx es.toList (fun e he=>hks _ (mr.shape e he)) with⟨h3,h4⟩|⟨j,e,h3,h4,h5⟩
     ·rw[c8e hsh hkey 0 hat mr.shape h4] at hk;simp only[a0r,a0l,a0u] at hk;have hlk:(Az P A ro E).ofNat keys.length=(clock:Int):=by
       have h6:=mr.len;have h7:es.toList.length=es.size:=by simp
       show (keys.length:Int)=clock;rw[h6,h7,hck]
      rw[hlk] at hk;refine⟨.tuple #[zv,.int .i64 clock],{w with heap:=w.heap.setIfInBounds b (.map (es.push ⟨a.eval X,zv,clock⟩) (clock+1))},_,_,[],S,ρ,.inl ?_,hk,?_,two (hz2 _ _ _)⟩
      ·simp[AU,hop,hv,Ca,AI ht,Aa hb,KK.check w Aj hlx,h3,hz1,Ap _ hb,Am,CO]
      ·refine Chg.set hr.sim hρ hlg' rfl rfl ⟨rfl,AK _⟩ rfl (by simp) (fun k hne=>by simp[Ah (Av hne)]) ⟨es.push ⟨a.eval X,zv,clock⟩,clock+1,by simp[hbl],⟨?_,fun e he=> ?_,fun i e k he hk'=> ?_,?_,fun i e he=> ?_⟩,⟨by simp[hsz],by simp[hck]⟩,fun i x e hx he=> ?_⟩
       ·have:=mr.len;simp;simpa using this
       ·simp at he;rcases he with he|rfl
        ·exact mr.shape e (by simpa using he)
        ·exact hsh
       ·rw[At] at he;have hlen:=mr.len;by_cases hi:i<es.toList.length
        ·rw[AE hi] at he;rw[AE (by omega)] at hk';exact mr.at' i e k he hk'
        ·rw[AD (by omega)] at he;rw[AD (by omega),hlen] at hk';cases hd:i-es.toList.length with
         |zero=>rw[hd] at he hk';simp at he hk';subst he;subst hk';exact hkey
         |succ d=>rw[hd] at he;simp at he
       ·rw[At];refine Bi.2 ⟨mr.nd,by simp,fun e he e' he'=> ?_⟩;simp at he';subst he';exact h4 e he
       ·rw[At] at he;by_cases hi:i<es.toList.length
        ·rw[AE hi] at he;exact mr.born i e he
        ·rw[AD (by omega)] at he;cases hd:i-es.toList.length with
         |zero=>
          rw[hd] at he;simp at he;subst he;have:es.toList.length=es.size:=by simp
          show clock=i;omega
         |succ d=>rw[hd] at he;simp at he
       ·by_cases hi:i<vals.length
        ·rw[AE hi] at hx;rw[Aq,if_neg (by omega)] at he;exact (hvs i x e hx he).mono (fun _ h=>h) (hsub _ _) fun _ _ h=>h
        ·rw[AD (by omega)] at hx;cases hd:i-vals.length with
         |zero=>rw[hd] at hx;rw[Aq,if_pos (by omega)] at he;simp at hx he;subst hx;subst he;exact hz2 _ _ _
         |succ d=>rw[hd] at hx;simp at hx
     ·rw[c7o hsh hkey 0 hat mr.shape mr.nd h4 h5] at hk;simp only[A3,a0i] at hk;have hj:es[j]? =AF e:=by simpa using h4
      have hjl:j<vals.length:=by have:=(AB.1 h4).1;omega
      rw[AS hjl] at hk;have hvj:VR w S ρ vals[j] e.val:=hvs j _ e (AS hjl) hj;have hbj:=mr.born j e h4;have hmod:es.modify j (fun e'=>{e' with key:=a.eval X})=es:=by
       apply BI;rw[BR,BC _ _ _ _ h4];rw[show ({e with key:=a.eval X}:Al)=e by rw[<-h5]];refine A9 fun i=> ?_;by_cases hi:i=j
       ·subst hi;rw[AT (AB.1 h4).1,h4]
       ·rw[AR (Av hi)]
      have hid:({w with heap:=w.heap.setIfInBounds b (.map es clock)}:A6)=w:=by
       have:w.heap.setIfInBounds b (.map es clock)=w.heap:=by
        apply BI;rw[B5];refine A9 fun i=> ?_;by_cases hi:i=b
        ·subst hi;rw[AT (by simpa using hbl)];simpa using hb.symm
        ·rw[AR (Av hi)]
       rw[this]
      refine .same hr.sim (v:= .tuple #[e.val,.int .i64 j]) ?_ hk (two hvj);have hrun:(AU a.eval o).run P w= .ok (.value (.tuple #[e.val,.int .i64 (e.born:Int)])) {w with heap:=w.heap.setIfInBounds b (.map (es.modify j (fun e'=>{e' with key:=a.eval X})) clock)}:=by simp[AU,hop,hv,Ca,AI ht,Aa hb,KK.check w Aj hlx,h3,hj,h5,KK.stays w hlx,Ap _ hb,Am,CO]
      rw[hrun,hmod,hid,hbj]
   ·exact hk.elim
  ·exact hk.elim
 ·exact hk.elim
theorem d8c {t:AX}{M Y X:AZ}(hop:o.op= .entryStore t M Y X){m y x:a0h}(hm:a0g M=AF m)(hy:a0g Y=AF y)(hx:a0g X=AF x)(hk:a0a (Az P A ro E) (.entst m y x) st K)(hr:Bx E st a w S ρ):Bl P o a w S ρ st.h K:=by
 have h0:=a0t hr.ts hm;have h1:=a0t hr.ts hy;have h2:=a0t hr.ts hx;simp only[a0a] at hk;split at hk
 ·rename_i l e1;rw[e1] at h0;split at hk
  ·rename_i wide ks keys vals hlg;generalize hv:a.eval M=v at h0;cases h0 with
   |map _ b C hρ=>
    obtain⟨n,hn,hk⟩:=a6l h1 hk;obtain⟨⟨hn0,hn1⟩,hk⟩:(0<=n.val/\n.val<(a3q vals:Int))/\_:=hk;simp only[a0o,a0l] at hk;rw[a0u] at hn1;obtain⟨j,hjn⟩: ∃j:Nat,n.val=j:=⟨n.val.toNat,by omega⟩;rw[hjn] at hk hn hn1;simp only[Int.toNat_natCast] at hk;obtain⟨oo,ho,hh⟩:=hr.sim.obj l _ C hρ;have hlg':=hlg;rw[a0i] at hlg';rw[hlg'] at ho;cases ho;obtain⟨es,clock,hb,mr,⟨hsz,hck⟩,hvs⟩:=hh;have hbl:b<w.heap.size:=(BB.1 hb).1;have hnS: ¬S b:=hr.sim.own l b C _ hρ hlg' rfl;have hjl:j<es.size:=by omega
    obtain⟨e,he⟩: ∃e,es.toList[j]? =AF e:=⟨es.toList[j]'(by simpa using hjl),AS _⟩;have hfind:es.findIdx? (fun e=>(e.born:Int)==(j:Int))=AF j:=by
     rw[Array.findIdx?_eq_some_iff_getElem];refine⟨hjl,?_,fun i hi=> ?_⟩
     ·have:=mr.born j es[j] (by simp);simp[this]
     ·have:=mr.born i es[i] (by simp);simp[this];omega
    have hlist:(es.modify j (fun e'=>{e' with val:=a.eval X})).toList=es.toList.set j {e with val:=a.eval X}:=by rw[BR,BC _ _ _ _ he]
    have hget: ∀i e',(es.toList.set j {e with val:=a.eval X})[i]? =AF e'->(i=j/\e'={e with val:=a.eval X})\/(i≠j/\es.toList[i]? =AF e'):=fun i e' h=>by
     by_cases hi:i=j
     ·subst hi;rw[AT (by simpa using hjl)] at h;cases h;exact .inl ⟨rfl,rfl⟩
     ·rw[AR (Av hi)] at h;exact .inr ⟨hi,h⟩
    refine⟨CX,{w with heap:=w.heap.setIfInBounds b (.map (es.modify j (fun e'=>{e' with val:=a.eval X})) clock)},.und,_,[],S,ρ,.inr ⟨?_,rfl⟩,hk,?_,.und⟩
    ·have hai:(asInt (.int .i64 (j:Int))).run P w= .ok (j:Int) w:=by simp[asInt,Cl]
     simp[AU,hop,hv,hn,Instr.entryStore,hai,Aa hb,hfind,Ap _ hb,Am]
    ·refine Chg.set hr.sim hρ hlg' rfl rfl ⟨rfl,AK _⟩ rfl (by simp) (fun k hne=>by simp[Ah (Av hne)]) ⟨es.modify j (fun e'=>{e' with val:=a.eval X}),clock,by simp[hbl],⟨?_,fun e' he'=> ?_,fun i e' k he' hk'=> ?_,?_,fun i e' he'=> ?_⟩,⟨by simp[hsz],by simpa using hck⟩,fun i x e' hx he'=> ?_⟩
     ·rw[hlist];simpa using mr.len
     ·rw[hlist] at he';rcases BE he' with h|rfl
      ·exact mr.shape e' h
      ·exact mr.shape e (As he)
     ·rw[hlist] at he';rcases hget i e' he' with⟨rfl,rfl⟩|⟨_,h⟩
      ·exact mr.at' i e k he hk'
      ·exact mr.at' i e' k h hk'
     ·rw[hlist];have e3:(es.toList.set j {e with val:=a.eval X}).map (·.key)=es.toList.map (·.key):=by
       rw[CJ];refine A9 fun i=> ?_;by_cases hi:i=j
       ·subst hi;have hlt:=(AB.1 he).1;rw[AT (by simpa using hlt),Ad,he];rfl
       ·rw[AR (Av hi)]
      refine (A8 (f:=fun e:Al=>e.key) (R:=fun x y=>x≠y)).1 ?_;rw[e3];exact (A8 (f:=fun e:Al=>e.key) (R:=fun x y=>x≠y)).2 mr.nd
     ·rw[hlist] at he';rcases hget i e' he' with⟨rfl,rfl⟩|⟨_,h⟩
      ·exact mr.born i e he
      ·exact mr.born i e' h
     ·have he2:(es.toList.set j {e with val:=a.eval X})[i]? =AF e':=by rw[<-hlist,Ae];simpa only[Ae] using he'
      have hmono: ∀{x:AV} {v:AN},VR w S ρ x v->VR {w with heap:=w.heap.setIfInBounds b (.map (es.modify j (fun e'=>{e' with val:=a.eval X})) clock)} S ρ x v:=fun h=>h.mono (fun _ h=>h) (fun k hkS=>by
       have hne:k≠b:=fun e=>hnS (e▸hkS);simp[Ah (Av hne)]) fun _ _ h=>h
      rcases hget i e' he2 with⟨rfl,rfl⟩|⟨hi,h⟩
      ·rw[AT (by omega)] at hx;cases hx;exact hmono h2
      ·rw[AR (Av hi)] at hx;exact hmono (hvs i x e' hx (by simpa using h))
  ·exact hk.elim
 ·exact hk.elim
theorem c4x {t:AX}{u:Unit}(h:d0f P t=AF u):(Cp t).run P w= .ok (.int .i64 0) w:=by
 simp[d0f,AA] at h;obtain⟨k,hk,h⟩:=h;split at h
 ·simp only[AA] at h;obtain⟨i,hi,h⟩:=h;split at h
  ·rename_i hz;exact a3m hi hz
  ·cases h
 ·cases h
theorem d0d {Sg:Sig}{sz b:Nat}{x y:a0h}{st:St}{K:AV->List a0f->List Nat->Prop}(hk:a0a Sg (.appendP sz b x y) st K):a0a Sg (.append sz b x y Aj) st K\/a0a Sg (.appendN sz b x y Aj) st K:=by
 simp only[a0a] at hk⊢;split at hk
 ·rename_i e1 e2;right;rw[e1,e2];exact hk
 ·rename_i e1 e2;left;split at hk
  ·rename_i hs;have hs:=AJ hs;subst hs;rw[e1,e2];simp only[a2g,a8b,b3s];rw[if_pos (by simp)];exact hk
  ·exact hk.elim
 ·exact hk.elim
theorem b7d {t u e e':AX}{X Y:AZ}(hop:o.op= .call {callee:= .builtin .append,args:= #[X,Y],argTypes:= #[t,u]})
 (ht:P.underlying t=AF (.slice e)) (hu:P.underlying u=AF (.slice e')) {sz b:Nat} {zs:List DV} (hsz:a1x P e=AF sz) (hb:a5j P e=AF b) (hb':b<=250) (hz:a5d P e=AF zs) (hzl:zs.length=sz)
 {x y:a0h} {mu:Bool} (hx:a0g X=AF x) (hy:a0g Y=AF y) (hk:a0a (Az P A ro E) (.appendN sz b x y mu) st K) (hr:Bx E st a w S ρ):Bl P o a w S ρ st.h K:=by
 simp only[a0a] at hk;split at hk
 ·rename_i e1 e2;have h0:=a0t hr.ts hx;have h1:=a0t hr.ts hy;rw[e1] at h0;have run: ∀r w',(AM #[t,u] o.type #[a.eval X,a.eval Y]).run P w= .ok r w'->(AU a.eval o).run P w= .ok (.value r) w':=by intro r w' h;simp[AU,hop,Bj,Bv,builtin,h]
  have run: ∀r w',(AM #[t,u] t #[a.eval X,a.eval Y]).run P w= .ok r w'->(AU a.eval o).run P w= .ok (.value r) w':=run;rw[h0.nil] at run;have hv: ∃aa cap,a.eval Y= .slice aa 0 cap:=by
   revert h1 e2;generalize Cy st.ts y=q;generalize a.eval Y=v;intro e2 h1;cases h1 with
   |d hd=>
    cases hd with
    |nil=>exact⟨_,_,rfl⟩
    |sl0 sz e a cap=>exact⟨_,_,rfl⟩
    |sl sz n e b off cap f hb hc hl hv hr=>
     cases n with
     |zero=>exact⟨_,_,rfl⟩
     |succ n=>simp[a4d] at e2
    |_=>simp[a4d] at e2
   |dfs sz n e aa hd=>
    cases n with
    |zero=>exact⟨_,_,rfl⟩
    |succ n=>simp[a4d] at e2
   |msl l sz s n f ob C cap aa hρ hc hcap ha=>
    cases n with
    |zero=>exact⟨_,_,rfl⟩
    |succ n=>simp[a4d] at e2
   |_=>simp[a4d] at e2
  obtain⟨aa,cap,hv⟩:=hv;obtain⟨new,hnew,_⟩:=a1y (P:=P) (w:=w) (S:=S) (sz:=sz) (n:=0) (e:=fun _=>[]) (aa:=aa) (cap:=cap) (.inl rfl) (fun _ _ _=>trivial);have hrun:=run _ _ (by rw[hv];exact a5h ht hu hsz hnew);exact .same hr.sim hrun hk (.d .nil)
 ·rename_i sz' e' e1 e2;have h0:=a0t hr.ts hx;have h1:=a0t hr.ts hy;rw[e1] at h0;have run: ∀r w',(AM #[t,u] o.type #[a.eval X,a.eval Y]).run P w= .ok r w'->(AU a.eval o).run P w= .ok (.value r) w':=by intro r w' h;simp[AU,hop,Bj,Bv,builtin,h]
  have run: ∀r w',(AM #[t,u] t #[a.eval X,a.eval Y]).run P w= .ok r w'->(AU a.eval o).run P w= .ok (.value r) w':=run;have hv: ∃aa cap,a.eval Y= .slice aa 0 cap:=by
   revert h1 e2;generalize Cy st.ts y=q;generalize a.eval Y=v;intro e2 h1;cases h1 with
   |d hd=>
    cases hd with
    |nil=>exact⟨_,_,rfl⟩
    |sl0 sz e a cap=>exact⟨_,_,rfl⟩
    |sl sz n e b off cap f hb hc hl hv hr=>
     cases n with
     |zero=>exact⟨_,_,rfl⟩
     |succ n=>simp[a4d] at e2
    |_=>simp[a4d] at e2
   |dfs sz n e aa hd=>
    cases n with
    |zero=>exact⟨_,_,rfl⟩
    |succ n=>simp[a4d] at e2
   |msl l sz s n f ob C cap aa hρ hc hcap ha=>
    cases n with
    |zero=>exact⟨_,_,rfl⟩
    |succ n=>simp[a4d] at e2
   |_=>simp[a4d] at e2
  obtain⟨aa,cap,hv⟩:=hv;generalize hxv:a.eval X=xv at h0;cases h0 with
  |dfs _ _ _ a0 hd=>
   obtain⟨new,hnew,hn1,_⟩:=a1y (P:=P) (w:=w) (S:=S) (sz:=sz) (n:=0) (e:=fun _=>[]) (aa:=aa) (cap:=cap) (.inl rfl) (fun _ _ _=>trivial);obtain⟨hn0,hszr⟩:=a1s hsz;have hnl:new.toList=[]:=by
    have:new.size=0:=by omega
    simpa using this
   have hrun:(AM #[t,u] t #[.slice a0 0 0,.slice aa 0 cap]).run P w= .ok (.slice a0 0 0) w:=by
    cases a0 with
    |none=>simp[AM,AI ht,AI hu,hszr,Ao,hnew]
    |some pa=>simp[AM,AI ht,AI hu,hszr,Ao,hnew,hnl,BS]
   exact .same hr.sim (run _ _ (by rw[hv,hxv];exact hrun)) hk (.dfs _ _ _ _ hd)
 ·exact b5f hop ht hu hsz hb hb' hz hzl hx hy (mu:=mu) hk hr
theorem a6e (hok:OkP P)(hc:b7f P c o=AF io)(hk:a0a (Az P A ro E) io st K)(hr:Bx E st a w S ρ)
 (hn: ∀x h' pg v w' S' ρ',K x h' pg->C4 w S ρ st.h w' S' ρ' h' pg->VR w' S' ρ' x v->next (a.put o.dst v) w'):o.wpIn (a3i ro) 0 P a w next Q:=by
 have fin:(∀c,o.op≠ .defer c)->Bl P o a w S ρ st.h K->o.wpIn (a3i ro) 0 P a w next Q:=fun h1 h2=>h2.wpIn h1 hn
 unfold b7f at hc;split at hc
 case h_2=>cases hc;exact hk.elim
 rename_i io' hc1;cases hc;have hc:=hc1;have hc0:=hc;unfold a0y at hc;split at hc
 ·rename_i X heq;exact fin (by rw[heq];intro c h;cases h) (d5q (.inl heq) hc0 hk hr)
 ·rename_i X heq;exact fin (by rw[heq];intro c h;cases h) (d5q (.inr heq) hc0 hk hr)
 ·rename_i heq;exact fin (by rw[heq];intro c h;cases h) (e4o heq hc0 hk hr)
 ·rename_i heq;exact fin (by rw[heq];intro c h;cases h) (d8p heq hc0 hk hr)
 ·rename_i heq;exact fin (by rw[heq];intro c h;cases h) (f1z heq hc0 hk hr)
 ·rename_i t ps heq;simp only[AG,AA,AH,AC] at hc;obtain⟨zs,hz,b2u,hp,l,hl,rfl⟩:=hc;exact fin (by rw[heq];intro c h;cases h) (d9d heq hz hp (by simpa using hl) hk hr)
 ·rename_i t n ps heq;simp only[AG,AA,AH] at hc;obtain⟨e,he,sz,hsz,zs,hz,hc⟩:=hc;split at hc
  ·rename_i hcond;simp only[AA] at hc;obtain⟨l,hl,hc⟩:=hc;split at hc
   ·rename_i hn;split at hc
    ·rename_i hle;cases hc;obtain⟨rfl,_⟩:=hn;obtain⟨hle,rfl⟩:=hle;have hps:ps.toList=[]:=by
      have hle:l=[]:=by simpa using hle
      subst hle;cases hp:ps.toList with
      |nil=>rfl
      |cons q qs=>rw[hp] at hl;simp[AA] at hl
     have hrun:=d0l (a:=a) (w:=w) heq hps (a0n he) hsz;have k:=Chg.new hr.sim (hr.sim.fresh (AK _)) (.cells #[] e) (.arrv []) 0 (fun w' hw'=>⟨#[],e,by rw[hw'];simp,by simp,by simp,fun i x v hx=>by simp at hx⟩);simp only[a0a,a0u,a0r] at hk;exact fin (by rw[heq];intro c h;cases h) ⟨_,_,_,_,[],S,_,.inl hrun,hk,k.world (w2:=w.alloc (.cells #[] e)) rfl rfl ⟨rfl,AK _⟩ rfl,.msl _ 1 Ag 0 Aj (AF w.heap.size) 0 0 _ (by simp) (by simp) (by simp) (by simp)⟩
    ·cases hc
   split at hc
   ·rename_i hn;split at hc
    ·rename_i hle;cases hc;obtain⟨rfl,_⟩:=hn;have hps:ps.toList=[]:=by
      have hle:l=[]:=by simpa using hle
      subst hle;cases hp:ps.toList with
      |nil=>rfl
      |cons q qs=>rw[hp] at hl;simp[AA] at hl
     have hrun:=d0l (a:=a) (w:=w) heq hps (a0n he) hsz;obtain⟨ρ',c2,hv2⟩:=c9m (C:=0) (n:=0) (es:=fun _=>[]) (vs:= #[]) hr.sim (w2:=w.alloc (.cells #[] e)) rfl rfl ⟨rfl,AK _⟩ rfl (by simp) (AK 0) (fun i hi=>by omega);simp only[a0a,a0u,a0r] at hk;exact fin (by rw[heq];intro c h;cases h) ⟨_,_,_,_,[],S,ρ',.inl hrun,hk,c2,hv2⟩
    ·cases hc
   split at hc
   ·rename_i hn;split at hc
    ·rename_i hle;cases hc;obtain⟨rfl,_⟩:=hn;have hps:ps.toList=[]:=by
      have hle:l=[]:=by simpa using hle
      subst hle;cases hp:ps.toList with
      |nil=>rfl
      |cons q qs=>rw[hp] at hl;simp[AA] at hl
     have hrun:=d0l (a:=a) (w:=w) heq hps (a0n he) hsz;obtain⟨ρ',c2,hv2⟩:=c9m (C:=0) (n:=0) (es:=fun _=>[]) (vs:= #[]) hr.sim (w2:=w.alloc (.cells #[] e)) rfl rfl ⟨rfl,AK _⟩ rfl (by simp) (AK 0) (fun i hi=>by omega);simp only[a0a,a0u,a0r] at hk;exact fin (by rw[heq];intro c h;cases h) ⟨_,_,_,_,[],S,ρ',.inl hrun,hk,c2,hv2⟩
    ·cases hc
   split at hc
   ·rename_i hn;split at hc
    ·rename_i hle;cases hc;obtain⟨rfl,_⟩:=hn;have hps:ps.toList=[]:=by
      have hle:l=[]:=by simpa using hle
      subst hle;cases hp:ps.toList with
      |nil=>rfl
      |cons q qs=>rw[hp] at hl;simp[AA] at hl
     have hrun:=d0l (a:=a) (w:=w) heq hps (a0n he) hsz;obtain⟨c2,hv2⟩:=c2r (sz:=sz) (C:=0) (n:=0) (es:=fun _=>[]) (vs:= #[]) hr.sim (w2:=w.alloc (.cells #[] e)) rfl rfl ⟨rfl,AK _⟩ rfl (by simp) (AK 0) (fun i hi=>by omega);exact fin (by rw[heq];intro c h;cases h) ⟨_,_,_,_,[],_,ρ,.inl hrun,hk,c2,.dfs _ _ _ _ (.sl0 _ _ _ _)⟩
    ·cases hc
   ·split at hc
    ·cases hc;exact fin (by rw[heq];intro c h;cases h) (c3b heq (a0n he) hsz hz hcond.1 hcond.2 (by simpa using hl) (c9n hk) hr)
    ·cases hc;exact fin (by rw[heq];intro c h;cases h) (c3b heq (a0n he) hsz hz hcond.1 hcond.2 (by simpa using hl) hk hr)
  ·cases hc
 ·rename_i heq;exact fin (by rw[heq];intro c h;cases h) (e3w heq hc0 hk hr)
 ·rename_i heq;exact fin (by rw[heq];intro c h;cases h) (d8r heq hc0 hk hr)
 ·rename_i heq;exact fin (by rw[heq];intro c h;cases h) (d1r heq hc0 hk hr)
 ·rename_i op t X Y t' heq;simp only[AG,AA] at hc;obtain⟨d,hd,hc⟩:=hc;split at hc
  ·simp only[AA,AH,AC] at hc;obtain⟨x,hx,y,hy,rfl⟩:=hc;unfold c0x at hk;split at hk
   ·exact fin (by rw[heq];intro c h;cases h) (f2t heq hx hy hk hr)
   ·exact fin (by rw[heq];intro c h;cases h) (g4m heq hx hy hk hr)
  ·simp only[AA,AH,AC] at hc;obtain⟨x,hx,y,hy,rfl⟩:=hc;exact fin (by rw[heq];intro c h;cases h) (e1t heq hd hx hy hk hr)
  ·split at hc
   ·split at hc
    ·cases hc
    rename_i hg;simp only[AA] at hc;obtain⟨x,hx,y,hy,hc⟩:=hc;exact fin (by rw[heq];intro c h;cases h) (e2u heq (neg:=Aj) rfl hd (by simpa using hg) hx hy hc hk hr)
   ·split at hc
    ·cases hc
    rename_i hg;simp only[AA] at hc;obtain⟨x,hx,y,hy,hc⟩:=hc;exact fin (by rw[heq];intro c h;cases h) (e2u heq (neg:=An) rfl hd (by simpa using hg) hx hy hc hk hr)
   ·cases hc
  ·split at hc
   ·split at hc
    ·cases hc
    rename_i hg;simp only[AA,AH,AC] at hc;obtain⟨k0,hk0,x,hx,y,hy,rfl⟩:=hc;exact fin (by rw[heq];intro c h;cases h) (c2v heq (neg:=Aj) rfl hk0 hd (.inl ⟨_,_,rfl⟩) (by simpa using hg) hx hy hk hr)
   ·split at hc
    ·cases hc
    rename_i hg;simp only[AA,AH,AC] at hc;obtain⟨k0,hk0,x,hx,y,hy,rfl⟩:=hc;exact fin (by rw[heq];intro c h;cases h) (c2v heq (neg:=An) rfl hk0 hd (.inl ⟨_,_,rfl⟩) (by simpa using hg) hx hy hk hr)
   ·cases hc
  ·split at hc
   ·simp only[AA,AH,AC] at hc;obtain⟨x,hx,rfl⟩:=hc;exact fin (by rw[heq];intro c h;cases h) (c7b heq rfl hd hx hk hr)
   ·simp only[AA,AH,AC] at hc;obtain⟨x,hx,rfl⟩:=hc;exact fin (by rw[heq];intro c h;cases h) (c7b heq rfl hd hx hk hr)
   ·cases hc
  ·cases hc
 ·rename_i heq;exact fin (by rw[heq];intro c h;cases h) (g7l heq hc0 hk hr)
 ·rename_i heq;exact fin (by rw[heq];intro c h;cases h) (e3m heq hc0 hk hr)
 ·rename_i heq;exact fin (by rw[heq];intro c h;cases h) (e1j heq hc0 hk hr)
 ·rename_i t heq;simp only[AG,AA,AH,AC] at hc;obtain⟨⟨k,e⟩,hm,⟨wide,ks⟩,hk0,hc⟩:=hc;split at hc
  ·cases hc;exact fin (by rw[heq];intro c h;cases h) (c3i heq hk hr)
  split at hc
  ·cases hc;exact fin (by rw[heq];intro c h;cases h) (d9g heq hk hr)
  ·cases hc;exact fin (by rw[heq];intro c h;cases h) (c3i heq hk hr)
 ·rename_i t N M heq;simp only[AG,AA] at hc;obtain⟨e,he,sz,hsz,zs,hz,b,hb,x,hx,hc⟩:=hc;split at hc
  ·split at hc
   ·rename_i i j hcond;cases hc;exact fin (by rw[heq];intro c h;cases h) (b8a heq (by rw[hcond.1]) (a0n he) hsz hz hb hcond.2.1 hcond.2.2 hx hk hr)
   ·cases hc
  ·split at hc
   ·rename_i i j hcond;cases hc;exact fin (by rw[heq];intro c h;cases h) (b8a heq (by rw[hcond.1]) (a0n he) hsz hz hb hcond.2.1 hcond.2.2 hx hk hr)
   ·cases hc
  ·cases hc
 ·rename_i t X LO HI MX heq;simp only[AG,AA] at hc;obtain⟨d,hd,hc⟩:=hc;split at hc
  ·simp only[AA] at hc;obtain⟨sz,hsz,hc⟩:=hc;split at hc
   ·split at hc
    ·simp only[AA,AH,AC] at hc;obtain⟨x,hx,lo,hlo,hi,hhi,rfl⟩:=hc;exact fin (by rw[heq];intro c h;cases h) (d2d heq hd hsz hx hlo hhi hk hr)
    ·cases hc
   split at hc
   ·split at hc
    ·simp only[AA,AH,AC] at hc;obtain⟨x,hx,lo,hlo,hi,hhi,mx,hmx,rfl⟩:=hc;exact fin (by rw[heq];intro c h;cases h) (d8f heq hd hsz hx hlo hhi hmx hk hr)
    ·cases hc
   split at hc
   ·cases hc
   ·rename_i hno;simp only[AA,AH,AC] at hc;obtain⟨x,hx,lo,hlo,hi,hhi,mx,hmx,rfl⟩:=hc;refine fin (by rw[heq];intro c h;cases h) (d8l heq hd hsz hx hlo hhi hmx (fun h1=> ?_) hk hr);cases MX with
    |none=>rfl
    |some M=>exact absurd rfl (hno M h1)
  ·simp only[AA] at hc;obtain⟨k1,hu,hc⟩:=hc;split at hc
   ·split at hc
    ·rename_i hk1;subst hk1;simp only[AA,AH,AC] at hc;obtain⟨x,hx,lo,hlo,hi,hhi,rfl⟩:=hc;exact fin (by rw[heq];intro c h;cases h) (d8b heq hd hx hlo hhi hk hr hu)
    ·cases hc
   ·cases hc
  ·cases hc
 ·rename_i heq;exact fin (by rw[heq];intro c h;cases h) (d9h heq hc0 hk hr)
 ·rename_i heq;exact fin (by rw[heq];intro c h;cases h) (d7k heq hc0 hk hr)
 ·rename_i t X I heq;simp only[AG,AA] at hc;obtain⟨d,hd,hc⟩:=hc;split at hc
  ·simp only[AA,AH,AC] at hc;obtain⟨sz,hsz,x,hx,i,hi,rfl⟩:=hc;exact fin (by rw[heq];intro c h;cases h) (d6m heq hd hsz hx hi hk hr)
  ·simp only[AA,AH,AC] at hc;obtain⟨sz,hsz,x,hx,i,hi,rfl⟩:=hc;exact fin (by rw[heq];intro c h;cases h) (d1w heq hd hsz hx hi hk hr)
  ·cases hc
 ·rename_i t M X ok heq;simp only[AG,AA,AH,AC] at hc;obtain⟨⟨k,e⟩,hm,⟨wide,ks⟩,hk0,hc⟩:=hc;split at hc
  ·simp only[AA,AC] at hc;obtain⟨z,hz,m,hm',x,hx,rfl⟩:=hc;exact fin (by rw[heq];intro c h;cases h) (b7g hok.laid heq (a7e hm) hz hk0 hm' hx hk hr)
  split at hc
  ·rename_i hu;simp only[AA,AC] at hc;obtain⟨m,hm',x,hx,rfl⟩:=hc;exact fin (by rw[heq];intro c h;cases h) (d1x hok.laid heq (a7e hm) (fun _=>c4x hu) hk0 hm' hx hk hr)
  ·simp only[AA,AC] at hc;obtain⟨z,hz,m,hm',x,hx,rfl⟩:=hc;exact fin (by rw[heq];intro c h;cases h) (b7g hok.laid heq (a7e hm) hz hk0 hm' hx hk hr)
 ·rename_i t M X Y heq;simp only[AG,AA,AH,AC] at hc;obtain⟨⟨k,e⟩,hm,⟨wide,ks⟩,hk0,hc⟩:=hc;split at hc
  ·simp only[AA,AC] at hc;obtain⟨m,hm',x,hx,y,hy,rfl⟩:=hc;exact fin (by rw[heq];intro c h;cases h) (b8o hok.laid heq (a7e hm) hk0 hm' hx hy hk hr)
  split at hc
  ·simp only[AA,AC] at hc;obtain⟨m,hm',x,hx,y,hy,rfl⟩:=hc;exact fin (by rw[heq];intro c h;cases h) (d2s hok.laid heq (a7e hm) hk0 hm' hx hy hk hr)
  ·simp only[AA,AC] at hc;obtain⟨m,hm',x,hx,y,hy,rfl⟩:=hc;exact fin (by rw[heq];intro c h;cases h) (b8o hok.laid heq (a7e hm) hk0 hm' hx hy hk hr)
 ·rename_i t M X heq;simp only[AG,AA,AH,AC] at hc;obtain⟨⟨k,e⟩,hm,⟨wide,ks⟩,hk0,z,hz,m,hm',x,hx,rfl⟩:=hc;exact fin (by rw[heq];intro c h;cases h) (d4b hok.laid heq (a7e hm) hz hk0 hm' hx hk hr)
 ·rename_i t M Y X heq;simp only[AG,AA,AH,AC] at hc;obtain⟨m,hm',y,hy,x,hx,rfl⟩:=hc;exact fin (by rw[heq];intro c h;cases h) (d8c heq hm' hy hx hk hr)
 ·rename_i t s X heq;simp only[AG,AA] at hc;obtain⟨d,hd,hc⟩:=hc;split at hc
  ·simp only[AA,AH,AC] at hc;obtain⟨x,hx,rfl⟩:=hc;exact fin (by rw[heq];intro c h;cases h) (e3j heq hd hx hk hr)
  ·cases hc
 ·rename_i heq;simp only[AG,AA,AH] at hc;obtain⟨x,hx,hc⟩:=hc;split at hc
  ·cases hc;exact fin (by rw[heq];intro c h;cases h) (c4n heq hx hk hr)
  ·cases hc;exact fin (by rw[heq];intro c h;cases h) (c8n heq hx hk hr)
 ·rename_i k heq;obtain⟨callee,args,tys⟩:=k;simp only at hc;have arr0: ∀{α:Type} {as:Array α} {l:List α},as.toList=l->as=l.toArray:=fun h=>by apply BI;simpa using h
  split at hc
  ·rename_i f;split at hc
   ·rename_i fn hfn;split at hc
    ·rename_i hov;simp only[BD,beq_iff_eq] at hov;split at hc
     ·rename_i X Y h1;rw[arr0 h1] at heq;simp only[AG,AA,AH,AC] at hc;obtain⟨x,hx,y,hy,rfl⟩:=hc;exact fin (by rw[heq];intro c h;cases h) (f0s hok hfn hov.1 hov.2 heq hx hy hk hr)
     ·cases hc
    ·simp only[AG,AA,AH,AC] at hc;obtain⟨as,has,rfl⟩:=hc;exact d5f heq (f:= .c (.fn f [] [])) rfl has hk hr hn
   ·cases hc
  ·simp only[AG,AA,AH,AC] at hc;obtain⟨f,hf,as,has,rfl⟩:=hc;exact d5f heq hf has hk hr hn
  ·have nd: ∀c,o.op≠ .defer c:=by rw[heq];intro c h;cases h
   have arr: ∀{α:Type} {as:Array α} {l:List α},as.toList=l->as=l.toArray:=fun h=>by apply BI;simpa using h
   unfold d6q at hc;split at hc
   ·split at hc
    ·rename_i X t h1 h2;rw[arr h1,arr h2] at heq;simp only[AG,AA] at hc;obtain⟨d,hd,hc⟩:=hc;split at hc
     ·simp only[AA,AH,AC] at hc;obtain⟨x,hx,rfl⟩:=hc;exact fin nd (e9h heq hd hx hk hr)
     ·simp only[AA,AH,AC] at hc;obtain⟨x,hx,rfl⟩:=hc;exact fin nd (e0y heq hd hx hk hr)
     ·cases hc
    ·cases hc
   ·split at hc
    ·rename_i X t h1 h2;rw[arr h1,arr h2] at heq;simp only[AG,AA] at hc;obtain⟨e,he,sz,hsz,zs,hz,hc⟩:=hc;split at hc
     ·rename_i hzl;simp only[AA,AH,AC] at hc;obtain⟨x,hx,rfl⟩:=hc;exact fin nd (d7d heq (a0n he) hsz hz hzl hx hk hr)
     ·cases hc
    ·cases hc
   ·split at hc
    ·rename_i X t h1 h2;rw[arr h1,arr h2] at heq;simp only[AG,AA,AH,AC] at hc;obtain⟨e,he,x,hx,rfl⟩:=hc;exact fin nd (f0a heq (a0n he) hx hk hr)
    ·cases hc
   ·split at hc
    ·rename_i X Y h1;rw[arr h1] at heq;simp only[AG,AA,AH,AC] at hc;obtain⟨x,hx,y,hy,rfl⟩:=hc;exact fin nd (f2j heq hx hy hk hr)
    ·cases hc
   ·split at hc
    ·rename_i X Y h1;rw[arr h1] at heq;simp only[AG,AA,AH,AC] at hc;obtain⟨x,hx,y,hy,rfl⟩:=hc;exact fin nd (f0m heq hx hy hk hr)
    ·cases hc
   ·split at hc
    ·rename_i X Y t u h1 h2;rw[arr h1,arr h2] at heq;simp only[AG,AA] at hc;obtain⟨e,he,e',he',sz,hsz,b,hb,zs,hz,hc⟩:=hc;split at hc
     ·rename_i hcond;split at hc
      ·split at hc
       ·rename_i h1;subst h1;simp only[AA,AH,AC] at hc;obtain⟨x,hx,y,hy,rfl⟩:=hc;exact fin nd (i1k heq (a0n he) (a0n he') hsz hb hcond.2.1 hz hcond.2.2 hx hy hk hr)
       ·cases hc
      split at hc
      ·simp only[AA,AH,AC] at hc;obtain⟨x,hx,y,hy,rfl⟩:=hc;rcases d0d hk with hk|hk
       ·exact fin nd (b5f heq (a0n he) (a0n he') hsz hb hcond.2.1 hz hcond.2.2 hx hy hk hr)
       ·exact fin nd (b7d heq (a0n he) (a0n he') hsz hb hcond.2.1 hz hcond.2.2 hx hy hk hr)
      split at hc
      ·simp only[AA,AH,AC] at hc;obtain⟨x,hx,y,hy,rfl⟩:=hc;exact fin nd (c5b heq (a0n he) (a0n he') hsz hx hy hk hr)
      split at hc
      ·simp only[AA,AH,AC] at hc;obtain⟨x,hx,y,hy,rfl⟩:=hc;exact fin nd (b7d heq (a0n he) (a0n he') hsz hb hcond.2.1 hz hcond.2.2 hx hy hk hr)
      simp only[AA,AH,AC] at hc;obtain⟨x,hx,y,hy,rfl⟩:=hc;exact fin nd (b5f heq (a0n he) (a0n he') hsz hb hcond.2.1 hz hcond.2.2 hx hy hk hr)
     ·cases hc
    ·cases hc
   ·split at hc
    ·rename_i X Y t u h1 h2;rw[arr h1,arr h2] at heq;simp only[AG,AA] at hc;obtain⟨e,he,e',he',sz,hsz,hc⟩:=hc;split at hc
     ·simp only[AA,AH,AC] at hc;obtain⟨x,hx,y,hy,rfl⟩:=hc;exact fin nd (e4m heq (a0n he) hsz hx hy hk hr)
     ·cases hc
    ·cases hc
   ·cases hc
  ·cases hc
 ·cases hc
end
end Go.Vf
