/- Parts of the proof: Mc. Conditions: none. -/
import Derived.Test.YtbglklaocjifhaaGreatEMb
import Derived.Laws.Tables
open List renaming getElem?_eq_some_iff->AA,getElem?_append_left->AB,getElem?_append_right->AC,length_take->AH,getElem?_map->AJ,append_assoc->AL,getElem?_take_of_lt->AN,getElem?_toArray->AR,getElem?_eq_getElem->AW,length_append->AY,getElem?_set_ne->Ab,length_eq_zero_iff->Ac,getElem?_range->Ar,getElem?_drop->As,size_toArray->At,length_drop->Au,take->A2,getElem?_set_self->A3,getElem_of_mem->A8,length_cons->BC,length_set->BD,mapM_cons->BF,map_cons->BL
open Option renaming some->AD,none->AM,bind_eq_some_iff->AO,map_some->Ap
open Go renaming run_underlying->AE,Value->AK,Operand->AS,execOp->AT,TypeId->Aa,World->Ah,resolve->BA,storeCells->BI,invoke->BJ,Addr->BM,callsIn_wide->BW,undef->BY,goInt->BZ,FuncId->Ba,BoundsCode->Bg
open Nat renaming le_refl->AF,eq_of_beq_eq_true->AI,mul_le_mul_right->AP,add_mul->AU,lt_of_lt_of_le->Am,zero_add->Aq,lt_of_not_le->Aw,le_trans->A5,mul_one->A7,le_succ->BP
open Go.Builtin renaming append_->AG,lenOf->Ae,firstCells->Aj,len_->Az,min_->Bb,min2->Bc,max_->Bd,max2->Be,cap_->Bf
open Array renaming length_toList->AQ,getElem?_push->Ai,getElem?_append_left->Al,getElem?_append_right->Ax,getElem?_toList->A4,range->A6,size_append->A9,ext'->BN
open Int renaming toNat_of_nonneg->AX
open Bool renaming false->AZ,and_eq_true->Av,true->Ay
open Go.Instr renaming sliceBounds->Ad,fill->Ag,sliceAt->An,sliceBound->Ao,buildSlice->BB,makeMap->BG
open Go.Vf.AV renaming normL->Af,shiftL->BH,free->BQ,normL_eq->BU
open Go.Vf renaming std->Ak,VRs->BE,Yld->BK,Rel->BO,cell?_of->BR,Sim->BS,Rho->BV,Chg->BX
set_option linter.unusedSimpArgs false
set_option linter.unusedVariables false
namespace Go.Vf
open Go
section
variable {P:Program} {A:Ann} {ro:Option Nat} {E:Ent} {c:Nat} {o:Oper} {io:IOp} {st:St} {K:AV->List a0f->List Nat->Prop}
 {a:Act} {w:Ah} {S:Nat->Prop} {ρ:BV} {h:List a0f}
theorem Chg.nilarr {e:Nat->List DV}(hs:BS w S ρ h)(sz:Nat):
 BX w S ρ h w S (fun m=>if m=h.length then AD (AM,0) else ρ m) (h++[.arr sz 0 e]) []/\
  VR w S (fun m=>if m=h.length then AD (AM,0) else ρ m) (.msl h.length sz AM 0 AZ) (.slice AM 0 0):=by
 have hn:ρ h.length=AM:=hs.fresh (AF _);have hρ: ∀m p,ρ m=AD p->(if m=h.length then AD (AM,0) else ρ m)=AD p:=by intro m p hm;rw[if_neg (fun e=>by subst e;simp[hn] at hm)];exact hm
 refine⟨⟨⟨hs.sblk,fun m ob C hm=> ?_,fun m m' b C C' h1 h2=> ?_,fun m b C ao hm hao hf=> ?_⟩,by simp,
  ⟨rfl,⟨rfl,AF _⟩,rfl,AF _,fun _ h=>h,fun _ _=>rfl,fun _ h=> .inl h,fun _ _ _=>rfl,fun m b C hm=> ?_⟩,fun m p _ hm=>hρ m p hm,fun m hm _=>if_neg (by omega)⟩,
  .msl _ _ AM 0 AZ AM 0 0 AM (by simp) (by simp) (by simp) (by simp)⟩
 ·show∃o,(h++[.arr sz 0 e])[m]? =AD o/\_;by_cases e1:m=h.length
  ·rw[if_pos e1] at hm;cases hm;exact⟨_,by rw[e1];simp,rfl,sz,e,.inl rfl⟩
  ·rw[if_neg e1] at hm;obtain⟨o',h1,h2⟩:=hs.obj m ob C hm;refine⟨o',by rw[AB (AA.1 h1).1];exact h1,?_⟩;cases ob with
   |none=>exact h2
   |some b=>exact a0z.mono (fun _ h=>h) (fun _ _=>rfl) hρ rfl h2
 ·by_cases e1:m=h.length
  ·rw[if_pos e1] at h1;cases h1
  ·by_cases e2:m'=h.length
   ·rw[if_pos e2] at h2;cases h2
   ·rw[if_neg e1] at h1;rw[if_neg e2] at h2;exact hs.inj m m' b C C' h1 h2
 ·by_cases e1:m=h.length
  ·rw[if_pos e1] at hm;cases hm
  ·rw[if_neg e1] at hm;obtain⟨o',h1,h2⟩:=hs.obj m _ C hm;have hao:(h++[.arr sz 0 e])[m]? =AD ao:=hao;rw[AB (AA.1 h1).1] at hao;exact hs.own m b C ao hm hao hf
 ·by_cases e1:m=h.length
  ·rw[if_pos e1] at hm;cases hm
  ·rw[if_neg e1] at hm;exact .inr ⟨m,C,hm⟩
theorem c0i {t u e e':Aa}{sz b:Nat}{zs:List DV}{v v2:AK}{n m l:Nat}{es es2:Nat->List DV}{a2:Option BM}{cap2:Nat}
 (hop: ∀r w',(AG #[t,u] t #[v,v2]).run P w= .ok r w'->(AT a.eval o).run P w= .ok (.value r) w')
 (ht:P.underlying t=AD (.slice e)) (hu:P.underlying u=AD (.slice e')) (hsz:a1x P e=AD sz) (hb:a5j P e=AD b) (hb':b<=250) (hz:a5d P e=AD zs) (hzl:zs.length=sz)
 (hs:BS w S ρ h) (hv:VR w S ρ (.msl l sz AM n AZ) v) (hl:h[l]? =AD (.arr sz n es)) (hv2:v2= .slice a2 m cap2) (he2:Els w S sz m es2 a2 cap2) (hbig:n+m<=big)
 (hk:K (.msl l sz AM (n+m) AZ) (a2n l AZ (h.set l (.arr sz (n+m) ((Ak P A ro E).app n es es2)))) [l]):
 BK P o a w S ρ h K:=by
 subst hv2;have hlt:=(AA.1 hl).1;cases hv with
 |msl _ _ _ _ _ ob C cap aa hρ hc hcap ha=>
  obtain⟨oo,h1,h2⟩:=hs.obj l ob C hρ;rw[hl] at h1;cases h1;simp at hcap hc ha;subst hcap;by_cases hroom:n+m<=cap
  ·cases ob with
   |none=>
    have hC:cap=0:=h2.1;subst hC;have hn:n=0:=by omega
    have hm:m=0:=by omega
    subst hn hm;have hrun:(AG #[t,u] t #[.slice aa 0 0,.slice a2 0 cap2]).run P w= .ok (.slice aa 0 0) w:=by
     obtain⟨new,hnew,hn1,hn2⟩:=a1y (P:=P) he2 (fun _ _ _=>trivial);obtain⟨hn0,hszr⟩:=a1s hsz;have:new.toList=[]:=by
      have:new.size=0:=by omega
      simpa using this
     cases aa with
     |none=>simp[AG,AE ht,AE hu,hszr,Ae,hnew]
     |some pa=>simp[AG,AE ht,AE hu,hszr,Ae,hnew,this,BI]
    have hsame:BS w S ρ (h.set l (.arr sz (0+0) ((Ak P A ro E).app 0 es es2))):=by
     refine⟨hs.sblk,fun l' ob' C' hl'=> ?_,hs.inj,fun l' b' C' ao hl' hao hf=> ?_⟩
     ·by_cases e1:l'=l
      ·subst e1;rw[hρ] at hl';cases hl';exact⟨_,by simp[hlt];rfl,rfl,sz,_,.inl rfl⟩
      ·obtain⟨o1,h3,h4⟩:=hs.obj l' ob' C' hl';exact⟨o1,by rw[Ab (Ne.symm e1)];exact h3,h4⟩
     ·by_cases e1:l'=l
      ·subst e1;rw[hρ] at hl';cases hl'
      ·rw[Ab (Ne.symm e1)] at hao;exact hs.own l' b' C' ao hl' hao hf
    refine⟨_,w,_,_,[l],S,ρ,.inl (hop _ _ hrun),hk,⟨hsame.forget l AZ,by rw[a4i];simp,.refl _ _ _,fun _ _ _ h=>h,fun _ _ _=>rfl⟩,.msl l sz AM _ AZ AM 0 0 aa hρ (by simp) (by simp) (by simp)⟩
   |some b0=>
    obtain⟨new,hnew,hn1,hn2⟩:=a1y (P:=P) he2 (fun _ _ _=>trivial);obtain⟨vs,ty,h4,h5,h5',h6⟩:=h2;obtain⟨hn0,hszr⟩:=a1s hsz;have hnm:(n+m)*sz<=cap*sz:=AP _ hroom;rw[AU] at hnm;have hone: ∀v,v∈new.toList->v.oneCell'=Ay:=by
     intro v hv;obtain⟨k,hk1,rfl⟩:=A8 hv;have hk2:k<m*sz:=by simpa [hn1] using hk1
     have hi:k/sz<m:=(Nat.div_lt_iff_lt_mul hn0).2 hk2;have hj:k % sz<sz:=Nat.mod_lt _ hn0;have hlen:=hn2.1 _ hi;have hx:(es2 (k/sz))[k % sz]? =AD ((es2 (k/sz))[k % sz]'(by omega)):=AW _;refine DVR.one (hn2.2 (k/sz) hi (k % sz) _ new.toList[k] hx ?_);rw[show k/sz*sz+k % sz=k by rw[Nat.mul_comm];exact Nat.div_add_mod k sz];simp at hk1;simp[hk1]
    by_cases hcp:0<cap
    ·have haa:=ha hcp;simp at haa;subst haa;have hrun:=a5o (P:=P) (b:=b0) (off:=0) ht hu hsz hroom hnew h4 (by rw[h5,hn1];omega) hone;simp only[Aq] at hrun;obtain⟨s1,s2,s3,s4,s5,s6⟩:=a7p (cs:=(vs.toList.take (n*sz)++new.toList++vs.toList.drop (n*sz+new.toList.length)).toArray) h4;have hS: ∀k,S k->(w.setRow b0 (vs.toList.take (n*sz)++new.toList++vs.toList.drop (n*sz+new.toList.length)).toArray).heap[k]? =w.heap[k]? :=
      fun k hk=>s6 k (fun e=>hs.own l b0 cap _ hρ hl rfl (e▸hk))
     have hsize:((vs.toList.take (n*sz)++new.toList++vs.toList.drop (n*sz+new.toList.length)).toArray).size=cap*sz:=by simp only[At,AY,AH,Au,AQ];omega
     have k:=Chg.set hs hρ hl rfl s1 s2 s3 s4 s6 (o':= .arr sz (n+m) ((Ak P A ro E).app n es es2)) ⟨_,ty,s5,hsize,hroom,fun i hi=> ?_⟩
     ·refine⟨_,_,_,_,[l],S,ρ,.inl (hop _ _ hrun),hk,(k.forgot l).purged [l],.msl l sz AM _ AZ (AD b0) cap cap _ hρ (by simpa using hroom) (by simp) (by simp)⟩
     ·show (if i<n then es i else es2 (i-n)).length=sz/\ ∀(j:Nat) (x:DV) (u:AK),(if i<n then es i else es2 (i-n))[j]? =AD x->_;have hnl:new.toList.length=m*sz:=by simpa using hn1
      by_cases i1:i<n
      ·rw[if_pos i1];refine⟨(h6 i i1).1,fun j x u hx hu=> ?_⟩;have hj:j<sz:=by have:=(AA.1 hx).1;rw[(h6 i i1).1] at this;exact this
       have h7:(i+1)*sz<=n*sz:=AP _ (by omega);rw[AU] at h7;simp only[AR] at hu;rw[AL,AB (by simp;omega),AN (by omega)] at hu;exact DVR.mono (w:=w) (fun _ h=>h) hS ((h6 i i1).2 j x u hx (by simpa using hu))
      ·rw[if_neg i1];have i2:i-n<m:=by omega
       refine⟨hn2.1 _ i2,fun j x u hx hu=> ?_⟩;have hj:j<sz:=by have:=(AA.1 hx).1;rw[hn2.1 _ i2] at this;exact this
       have h7:(i-n+1)*sz<=m*sz:=AP _ (by omega);rw[AU] at h7;have h8:i*sz=n*sz+(i-n)*sz:=by rw[<-AU];congr 1;omega
       simp only[AR] at hu;rw[AL,AC (by simp;omega),AB (by simp;omega)] at hu;rw[show i*sz+j-(A2 (n*sz) vs.toList).length=(i-n)*sz+j by simp;omega] at hu;exact DVR.mono (w:=w) (fun _ h=>h) hS (hn2.2 _ i2 j x u hx (by simpa using hu))
    ·have hC:cap=0:=by omega
     subst hC;have hn:n=0:=by omega
     have hm:m=0:=by omega
     subst hn hm;have hnl:new.toList=[]:=by
      have:new.size=0:=by omega
      simpa using this
     have hrun:(AG #[t,u] t #[.slice aa 0 0,.slice a2 0 cap2]).run P w= .ok (.slice aa 0 0) w:=by
      cases aa with
      |none=>simp[AG,AE ht,AE hu,hszr,Ae,hnew]
      |some pa=>simp[AG,AE ht,AE hu,hszr,Ae,hnew,hnl,BI]
     have k:=Chg.set hs hρ hl rfl (w':=w) rfl ⟨rfl,AF _⟩ rfl rfl (fun _ _=>rfl) (o':= .arr sz (0+0) ((Ak P A ro E).app 0 es es2)) ⟨vs,ty,h4,h5,by omega,fun i hi=>by omega⟩;exact⟨_,w,_,_,[l],S,ρ,.inl (hop _ _ hrun),hk,(k.forgot l).purged [l],.msl l sz AM _ AZ (AD b0) 0 0 aa hρ (by simp) (by simp) (by simp)⟩
  ·have hels:Els w S sz n es aa cap:=by
    by_cases hn:n=0
    ·exact .inl hn
    ·obtain⟨b1,vs,ty,fr,rfl,h3,h4,h5,h6⟩:=a8u (.inl rfl) h2 (by omega);refine .inr ⟨b1,0,by simpa using ha (by omega),by omega,fun i hi=> ?_⟩;have hrow:=b1w h3 h4 h5 h6 hi;refine⟨hrow.1,fun j hj=>⟨_,?_,(hrow.2 j hj).2⟩⟩;rw[<-(hrow.2 j hj).1,Aq]
   obtain⟨old,hold,ho1,ho2⟩:=a1y (P:=P) hels.drew (fun _ _ _=>trivial);obtain⟨new,hnew,hn1,hn2⟩:=a1y (P:=P) he2.drew (fun _ _ _=>trivial);obtain⟨newCap,rest,hle,hrs,hrun⟩:=a6j ht hu hsz hb hb' hz (by omega) hbig hold hnew;have hrows: ∀w':Ah,(∀b,S b->w'.heap[b]? =w.heap[b]?)->_:=fun w' hw'=>b0z (P:=P) (A:=A) (ro:=ro) (E:=E) (w:=w') (S:=S) (sz:=sz) (newCap:=newCap) (rest:=rest) hzl ho1 hn1 hrs hle
    ⟨ho2.1,fun i hi j x u hx hu=>DVR.mono (w:=w.drew) (w':=w') (fun _ h=>h) hw' (ho2.2 i hi j x u hx hu)⟩ ⟨hn2.1,fun i hi j x u hx hu=>DVR.mono (w:=w.drew) (w':=w') (fun _ h=>h) hw' (hn2.2 i hi j x u hx hu)⟩
   have hpush: ∀w':Ah,w'.heap=w.heap.push (.cells (old++(new++rest)) e)-> ∀b,S b->w'.heap[b]? =w.heap[b]? :=by intro w' hw' b hb;rw[hw',Ai,if_neg];have:=hs.sblk b hb;omega
   have k:=Chg.move hs hρ hlt (.cells (old++(new++rest)) e) sz (n+m) ((Ak P A ro E).app n es es2) newCap (fun w' hw'=>⟨_,e,by rw[hw'];simp,(hrows w' (hpush w' hw')).1,hle,(hrows w' (hpush w' hw')).2⟩);refine⟨_,_,_,_,[l],S,_,.inl (hop _ _ hrun),hk,k.world (w2:=w.drew.alloc (.cells (old++(new++rest)) e)) rfl rfl ⟨rfl,BP _⟩ rfl,?_⟩;exact .msl _ _ AM _ AZ (AD w.heap.size) newCap _ _ (by simp) (by simpa using hle) (by simp) (by simp)
theorem d1n {l sz n:Nat}{s:Option Nat}{f:Bool}{K:Nat->Nat->(Nat->List DV)->Prop}(hk:b3s (Ak P A ro E) h (.msl l sz s n f) K):
 b3s (Ak P A ro E) h (.msl l sz s n f) fun sz2 n2 e=>sz2=sz/\n2=n/\K sz2 n2 e:=by
 simp only[b3s] at hk⊢;split at hk
 ·split at hk
  ·rename_i h1 h2;rw[if_pos h2];exact⟨hk.1,trivial,trivial,hk.2⟩
  ·exact hk.elim
 ·split at hk
  ·rename_i h1 h2;rw[if_pos h2];exact⟨hk.1,trivial,trivial,hk.2⟩
  ·exact hk.elim
 ·exact hk.elim
theorem b5f {t u e e':Aa}{X Y:AS}(hop:o.op= .call {callee:= .builtin .append,args:= #[X,Y],argTypes:= #[t,u]})
 (ht:P.underlying t=AD (.slice e)) (hu:P.underlying u=AD (.slice e')) {sz b:Nat} {zs:List DV} (hsz:a1x P e=AD sz) (hb:a5j P e=AD b) (hb':b<=250) (hz:a5d P e=AD zs) (hzl:zs.length=sz)
 {x y:a0h} {mu:Bool} (hx:a0g X=AD x) (hy:a0g Y=AD y) (hk:a0a (Ak P A ro E) (.append sz b x y mu) st K) (hr:BO E st a w S ρ):BK P o a w S ρ st.h K:=by
 have h0:=a0t hr.ts hx;have h1:=a0t hr.ts hy;simp only[a0a] at hk;have run: ∀r w',(AG #[t,u] o.type #[a.eval X,a.eval Y]).run P w= .ok r w'->(AT a.eval o).run P w= .ok (.value r) w':=by intro r w' h;simp[AT,hop,BA,BJ,builtin,h]
 have run: ∀r w',(AG #[t,u] t #[a.eval X,a.eval Y]).run P w= .ok r w'->(AT a.eval o).run P w= .ok (.value r) w':=run;revert h0 h1 hk run;generalize opd st.ts x=p;generalize opd st.ts y=q;generalize a.eval X=v;generalize a.eval Y=v2;intro hk h0 h1 run;unfold a2g at hk;have hview: ∀{K:Nat->Nat->(Nat->List DV)->Prop},a8b (Ak P A ro E) sz st.h q K-> ∃sz n e a cap,K sz n e/\v2= .slice a n cap/\Els w S sz n e a cap:=by
  intro K hk;unfold a8b at hk;split at hk
  ·exact⟨sz,0,_,AM,0,hk,h1.nil,.inl rfl⟩
  ·cases h1 with
   |d hd=>
    cases hd with
    |raw _ _=>exact⟨sz,0,_,_,_,hk,rfl,.inl rfl⟩
  ·exact b4z hr.sim h1 hk
 obtain⟨sz2,m,e2,a2,cap2,hk2,hv2,he2⟩:=hview hk;clear hk;have hk:=hk2;clear hk2;split at hk
 ·rename_i hs2;have hs2:=AI hs2;subst hs2;split at hk
  ·have hv:=h0.nil;obtain⟨hbig,hk⟩:(m<=big)/\_:=hk;by_cases hm:m=0
   ·subst hm;subst hv hv2;obtain⟨new,hnew,hn1,hn2⟩:=a1y (P:=P) he2 (fun _ _ _=>trivial);have hrun:=run _ _ (a5h ht hu hsz hnew);cases mu with
    |true=>simp only[if_true,a0u,a0r] at hk;obtain⟨k,hv⟩:=Chg.nilarr (e:=e2) hr.sim sz;exact⟨_,w,_,_,[],S,_,.inl hrun,hk,k,hv⟩
    |false=>exact .same hr.sim hrun hk (.d (.sl0 sz e2 AM 0))
   ·have happ:(Ak P A ro E).app 0 (fun _=>[]) e2=e2:=by funext j;simp[Ak]
    refine a8z (A:=A) (ro:=ro) (E:=E) (mu:=mu) run ht hu hsz hb hb' hz hzl hr.sim hv hv2 (es:=fun _=>[]) Els.zero he2 (by omega) (by simpa using hbig) ?_;rw[happ,Aq];cases mu with
    |true=>simpa [a0u,a0r] using hk
    |false=>simpa using hk
  ·rename_i sz' n e1;split at hk
   ·rename_i hs1;have hs1:=AI hs1;subst hs1;obtain⟨hbig,hm,hk⟩:(n+m<=big)/\(0<m)/\_:=hk;cases h0 with
    |dfs _ _ _ aa hd=>
     have hels:Els w S sz n e1 aa n:=by
      cases hd with
      |sl0 sz e a cap=>exact .inl rfl
      |sl _ _ _ b off cap f hb hc hl hv hr=>exact .inr ⟨b,off,rfl,hc,fun i hi=>⟨hl i hi,fun j hj=>⟨f i j,hv i hi j hj,fun x hx=>hr i hi j x hx⟩⟩⟩
     refine a8z (A:=A) (ro:=ro) (E:=E) (mu:=mu) run ht hu hsz hb hb' hz hzl hr.sim rfl hv2 hels he2 (by omega) hbig ?_;cases mu with
     |true=>simp only[if_true,a0u,a0r] at hk⊢;exact hk
     |false=>exact hk
   ·exact hk.elim
  ·rename_i l sz' n;split at hk
   ·rename_i hs1;have hs1:=AI hs1;subst hs1;simp only[a0i,a0l] at hk;split at hk
    ·rename_i sz'' n' e1 hl;split at hk
     ·rename_i hs3;have hs3:=AI hs3;subst hs3;obtain⟨hnn,hbig,hk⟩:(n'=n)/\(n+m<=big)/\_:=hk;subst hnn;exact c0i run ht hu hsz hb hb' hz hzl hr.sim h0 hl hv2 he2 hbig hk
     ·exact hk.elim
    ·exact hk.elim
   ·exact hk.elim
  ·rename_i l sz' s n;split at hk
   ·rename_i hs1;have hs1:=AI hs1;subst hs1;obtain⟨sz3,n3,e3,a3,cap3,⟨h3,h4,hk4⟩,hv3,he3⟩:=b4z hr.sim h0 (d1n hk);clear hk;have hk:=hk4;clear hk4;subst h3 h4;have hcap:cap3=n3:=by
     cases h0 with
     |msl _ _ _ _ _ ob C cap aa hρ hc hcap ha=>cases hv3;simpa using hcap
    subst hcap;obtain⟨hbig,hm,hk⟩:(_+m<=big)/\(0<m)/\_:=hk;refine a8z (A:=A) (ro:=ro) (E:=E) (mu:=mu) run ht hu hsz hb hb' hz hzl hr.sim hv3 hv2 he3 he2 (by omega) hbig ?_;cases mu with
    |true=>simp only[if_true,a0u,a0r] at hk⊢;exact hk
    |false=>exact hk
   ·exact hk.elim
  ·exact hk.elim
 ·exact hk.elim
def i4h (w:Ah)(S:Nat->Prop)(ρ:BV)(l:List AV)(a:Option BM)(cap:Nat):Prop:=
 l=[]\/ ∃b off,a=AD ⟨b,off,AM⟩/\l.length<=cap/\ ∀(i:Nat) (x:AV),l[i]? =AD x-> ∃u,w.cell? ⟨b,off+i,AM⟩=AD u/\VR w S ρ x u
theorem i3q {e:Nat->List DV}: ∀{n:Nat} {l:List AV},b2m e n=AD l->l.length=n/\ ∀i x,l[i]? =AD x-> ∃y,x= .d y/\e i=[y]:=by
 intro n
 induction n with
 |zero=>intro l h;simp[b2m] at h;subst h;simp
 |succ n ih=>
  intro l h;unfold b2m at h;split at h
  ·rename_i l0 hl0;split at h
   ·rename_i y hy;cases h;obtain⟨h1,h2⟩:=ih hl0;refine⟨by simp[a0r,h1],fun i x hx=> ?_⟩;rw[a0r] at hx;by_cases hi:i<l0.length
    ·rw[AB hi] at hx;exact h2 i x hx
    ·rw[AC (by omega)] at hx;have:i-l0.length=0:=by have:=(AA.1 hx).1;simpa using this
     rw[this] at hx;simp at hx;subst hx;exact⟨y,rfl,by rw[show i=n by omega];exact hy⟩
   ·cases h
  ·cases h
theorem i1i {y:AV}{v:AK}{K:List AV->Prop}(hs:BS w S ρ h)(h0:VR w S ρ y v)(hk:h9v h y K):
 ∃l a cap,K l/\v= .slice a l.length cap/\i4h w S ρ l a cap:=by
 unfold h9v at hk;split at hk
 ·exact⟨[],AM,0,hk,h0.nil,.inl rfl⟩
 ·rename_i n e;split at hk
  ·rename_i l hl;obtain⟨h1,h2⟩:=i3q hl;cases h0 with
   |d hd=>
    cases hd with
    |sl0 sz e a cap=>
     have:l=[]:=by simpa using h1
     subst this;exact⟨[],a,cap,hk,rfl,.inl rfl⟩
    |sl _ _ _ b off cap f hb hc hl hv hr=>
     refine⟨l,_,cap,hk,by rw[h1],.inr ⟨b,off,rfl,by omega,fun i x hx=> ?_⟩⟩;have hi:i<n:=by have:=(AA.1 hx).1;omega
     obtain⟨y,rfl,hy⟩:=h2 i x hx;refine⟨f i 0,by simpa using hv i hi 0 (by omega),.d (hr i hi 0 y (by rw[hy];rfl))⟩
  ·exact hk.elim
 ·rename_i l s n f;split at hk
  ·rename_i vals hl;rw[a0i] at hl;split at hk
   ·rename_i c hc;obtain⟨c1,c2⟩:=c0t _ _ _ _ hc;cases h0 with
    |msl _ _ _ _ _ ob C cap aa hρ hc' hcap ha=>
     obtain⟨oo,h1,h2⟩:=hs.obj l ob C hρ;rw[hl] at h1;cases h1;cases ob with
     |none=>obtain⟨_,sz',e',h3|h3⟩:=h2<;>cases h3
     |some b=>
      obtain⟨vs,ty,h3,h4,h5,h6⟩:=h2;refine⟨c,aa,cap,hk,by rw[c1],?_⟩;by_cases hn:n=0
      ·exact .inl (Ac.1 (by omega))
      ·have hcp:0<cap:=by rw[hcap];split<;>omega
       refine .inr ⟨b,s.getD 0,by simpa using ha hcp,by rw[c1,hcap];split<;>omega,fun i x hx=> ?_⟩;have hi:i<n:=by have:=(AA.1 hx).1;omega
       rw[c2 i hi] at hx;have hst:c2c s=s.getD 0:=by cases s<;>rfl
       rw[hst] at hx;have hlt:=(AA.1 hx).1;have hlt2:s.getD 0+i<vs.size:=by omega
       refine⟨vs[s.getD 0+i]'hlt2,?_,h6 _ x _ hx (by simp[hlt2])⟩;rw[BR h3];simp[hlt2]
   ·exact hk.elim
  ·exact hk.elim
 ·exact hk.elim
theorem i4h.drew {l:List AV}{aa:Option BM}{cap:Nat}(h:i4h w S ρ l aa cap):i4h w.drew S ρ l aa cap:=by
 rcases h with h|⟨b,off,h1,h2,h3⟩
 ·exact .inl h
 ·refine .inr ⟨b,off,h1,h2,fun i x hx=> ?_⟩;obtain⟨u,h4,h5⟩:=h3 i x hx;exact⟨u,h4,VR.mono (w:=w) (w':=w.drew) (fun _ h=>h) (fun _ _=>rfl) (fun _ _ h=>h) h5⟩
theorem h5p {l:List AV}{aa:Option BM}{cap:Nat}(he:i4h w S ρ l aa cap):
 ∃cs:Array AK,(Aj 1 l.length (.slice aa l.length cap)).run P w= .ok cs w/\cs.size=l.length/\
  ∀(i:Nat) (x:AV) (u:AK),l[i]? =AD x->cs[i]? =AD u->VR w S ρ x u:=by
 rcases he with hn|⟨b,off,rfl,hc,h1⟩
 ·subst hn;refine⟨#[],?_,by simp,fun i x u hx=>by simp at hx⟩;cases aa with
  |none=>simp[Aj]
  |some x=>simp[Aj,loadCells,loadCellsFrom]
 ·have hex: ∀k,∃u,k<l.length->w.cell? ⟨b,off+k,AM⟩=AD u/\ ∀x,l[k]? =AD x->VR w S ρ x u:=by
   intro k;by_cases hk:k<l.length
   ·obtain⟨u,hu,hr⟩:=h1 k _ (AW hk);exact⟨u,fun _=>⟨hu,fun x hx=>by rw[AW hk] at hx;cases hx;exact hr⟩⟩
   ·exact⟨BY,fun h=>absurd h hk⟩
  have hch:=fun k=>(hex k).choose_spec;have hrun:=run_loadCells (P:=P) w ⟨b,off,AM⟩ (l.length*1) (fun k=>(hex k).choose) (fun k hk=>by rw[a1n];exact (hch k (by omega)).1);refine⟨_,by simpa [Aj] using hrun,by simp,fun i x u hx hu=> ?_⟩;have hlt:i<l.length:=(AA.1 hx).1;simp only[A7,AR,AJ,Ar hlt,Ap,Option.some.injEq] at hu;subst hu;exact (hch i hlt).2 x hx
theorem h7j {t u e e':Aa}{b:Nat}{zs:List DV}{v v2:AK}{l:Nat}{vals new:List AV}{a2:Option BM}{cap2:Nat}
 (hop: ∀r w',(AG #[t,u] t #[v,v2]).run P w= .ok r w'->(AT a.eval o).run P w= .ok (.value r) w')
 (ht:P.underlying t=AD (.slice e)) (hu:P.underlying u=AD (.slice e')) (hsz:a1x P e=AD 1) (hb:a5j P e=AD b) (hb':b<=250) (hz:a5d P e=AD zs) (hzl:zs.length=1)
 (hs:BS w S ρ h) (hv:VR w S ρ (.msl l 1 AM vals.length AZ) v) (hl:h[l]? =AD (.arrv vals)) (hv2:v2= .slice a2 new.length cap2) (he2:i4h w S ρ new a2 cap2) (hbig:vals.length+new.length<=big) (hon:b5z new=Ay)
 (hk:K (.msl l 1 AM (vals.length+new.length) AZ) (a2n l AZ (h.set l (.arrv (vals++new)))) [l]):
 BK P o a w S ρ h K:=by
 subst hv2;have hlt:=(AA.1 hl).1;cases hv with
 |msl _ _ _ _ _ ob C cap aa hρ hc hcap ha=>
  obtain⟨oo,h1,h2⟩:=hs.obj l ob C hρ;rw[hl] at h1;cases h1;simp at hcap hc ha;subst hcap;cases ob with
  |none=>obtain⟨_,sz',e',h3|h3⟩:=h2<;>cases h3
  |some b0=>
   obtain⟨vs,ty,h4,h5,h5',h6⟩:=h2;obtain⟨hn0,hszr⟩:=a1s hsz;by_cases hroom:vals.length+new.length<=cap
   ·obtain⟨cs,hnew,hn1,hn2⟩:=h5p (P:=P) he2;have hone: ∀v,v∈cs.toList->v.oneCell'=Ay:=by
     intro v hv;obtain⟨k,hk1,rfl⟩:=A8 hv;have hk2:k<new.length:=by simpa [hn1] using hk1
     exact e1z (hn2 k new[k] _ (by simp[hk2]) (by simp at hk1;simp[hk1])) (d5p hon _ (List.getElem_mem hk2))
    have hcl:cs.toList.length=new.length:=by simpa using hn1
    by_cases hcp:0<cap
    ·have haa:=ha hcp;subst haa;have hrun:=a5o (P:=P) (b:=b0) (off:=0) ht hu hsz hroom hnew h4 (by rw[h5,hn1];omega) hone;simp only[Aq,A7] at hrun;obtain⟨s1,s2,s3,s4,s5,s6⟩:=a7p (cs:=(vs.toList.take vals.length++cs.toList++vs.toList.drop (vals.length+cs.toList.length)).toArray) h4;have hS: ∀k,S k->(w.setRow b0 (vs.toList.take vals.length++cs.toList++vs.toList.drop (vals.length+cs.toList.length)).toArray).heap[k]? =w.heap[k]? :=
      fun k hk=>s6 k (fun e=>hs.own l b0 cap _ hρ hl rfl (e▸hk))
     have hsize:((vs.toList.take vals.length++cs.toList++vs.toList.drop (vals.length+cs.toList.length)).toArray).size=cap:=by simp only[At,AY,AH,Au,AQ] at hcl⊢;omega
     have k:=Chg.set hs hρ hl rfl s1 s2 s3 s4 s6 (o':= .arrv (vals++new)) ⟨_,ty,s5,hsize,by simpa using hroom,fun i x u hx hu=> ?_⟩
     ·refine⟨_,_,_,_,[l],S,ρ,.inl (hop _ _ hrun),hk,(k.forgot l).purged [l],.msl l 1 AM _ AZ (AD b0) cap cap _ hρ (by simpa using hroom) (by simp) (by simp)⟩
     ·refine VR.mono (w:=w) (fun _ h=>h) hS (fun _ _ h=>h) (S:=S) (ρ:=ρ) ?_;simp only[AR] at hu;by_cases i1:i<vals.length
      ·rw[AB i1] at hx;rw[AL,AB (by simp;omega),AN i1] at hu;exact h6 i x u hx (by simpa using hu)
      ·rw[AC (by omega)] at hx;have i2:=(AA.1 hx).1;rw[AL,AC (by simp;omega),AB (by simp at*;omega)] at hu;rw[show i-(A2 vals.length vs.toList).length=i-vals.length by simp;omega] at hu;exact hn2 _ x u hx (by simpa using hu)
    ·have hC:cap=0:=by omega
     subst hC;have hn:vals=[]:=Ac.1 (by omega);have hm:new=[]:=Ac.1 (by omega);subst hn hm;have hnl:cs.toList=[]:=Ac.1 (by simpa using hcl);have hrun:(AG #[t,u] t #[.slice aa 0 0,.slice a2 0 cap2]).run P w= .ok (.slice aa 0 0) w:=by
      simp only[List.length_nil] at hnew;cases aa with
      |none=>simp[AG,AE ht,AE hu,hszr,Ae,hnew]
      |some pa=>simp[AG,AE ht,AE hu,hszr,Ae,hnew,hnl,BI]
     have k:=Chg.set hs hρ hl rfl (w':=w) rfl ⟨rfl,AF _⟩ rfl rfl (fun _ _=>rfl) (o':= .arrv ([]++[])) ⟨vs,ty,h4,h5,by simp,fun i x u hx=>by simp at hx⟩;exact⟨_,w,_,_,[l],S,ρ,.inl (hop _ _ hrun),hk,(k.forgot l).purged [l],.msl l 1 AM _ AZ (AD b0) 0 0 aa hρ (by simp) (by simp) (by simp)⟩
   ·have hels:i4h w S ρ vals aa cap:=by
     by_cases hn:vals=[]
     ·exact .inl hn
     ·have hpos:0<vals.length:=List.length_pos_iff.2 hn;refine .inr ⟨b0,0,by simpa using ha (by omega),by omega,fun i x hx=> ?_⟩;have hi:=(AA.1 hx).1;have hlt2:i<vs.size:=by omega
      refine⟨vs[i]'hlt2,?_,h6 i x _ hx (by simp[hlt2])⟩;rw[BR h4];simp[hlt2]
    obtain⟨old,hold,ho1,ho2⟩:=h5p (P:=P) hels.drew;obtain⟨cs,hnew,hn1,hn2⟩:=h5p (P:=P) he2.drew;obtain⟨newCap,rest,hle,hrs,hrun⟩:=a6j ht hu hsz hb hb' hz (by omega) hbig hold hnew;have hpush: ∀w':Ah,w'.heap=w.heap.push (.cells (old++(cs++rest)) e)-> ∀b,S b->w'.heap[b]? =w.heap[b]? :=by intro w' hw' b hb;rw[hw',Ai,if_neg];have:=hs.sblk b hb;omega
    have hsize:(old++(cs++rest)).size=newCap:=by rw[A9,A9,ho1,hn1,hrs,hzl];omega
    have k:=Chg.moveO hs hρ hlt (.cells (old++(cs++rest)) e) (.arrv (vals++new)) rfl newCap (fun w' hw'=>by
     refine⟨old++(cs++rest),e,by rw[hw'];simp,hsize,by simpa using hle,fun i x u hx hu=> ?_⟩;by_cases i1:i<vals.length
     ·rw[AB i1] at hx;rw[Al (by omega)] at hu;exact VR.mono (w:=w.drew) (w':=w') (fun _ h=>h) (hpush w' hw') (fun _ _ h=>h) (ho2 i x u hx hu)
     ·rw[AC (by omega)] at hx;have i2:=(AA.1 hx).1;rw[Ax (by omega),Al (by omega),ho1] at hu;exact VR.mono (w:=w.drew) (w':=w') (fun _ h=>h) (hpush w' hw') (fun _ _ h=>h) (hn2 _ x u hx hu))
    refine⟨_,_,_,_,[l],S,_,.inl (hop _ _ hrun),hk,k.world (w2:=w.drew.alloc (.cells (old++(cs++rest)) e)) rfl rfl ⟨rfl,BP _⟩ rfl,?_⟩;exact .msl _ _ AM _ AZ (AD w.heap.size) newCap _ _ (by simp) (by simpa using hle) (by simp) (by simp)
theorem i1k {t u e e':Aa}{X Y:AS}(hop:o.op= .call {callee:= .builtin .append,args:= #[X,Y],argTypes:= #[t,u]})
 (ht:P.underlying t=AD (.slice e)) (hu:P.underlying u=AD (.slice e')) {b:Nat} {zs:List DV} (hsz:a1x P e=AD 1) (hb:a5j P e=AD b) (hb':b<=250) (hz:a5d P e=AD zs) (hzl:zs.length=1)
 {x y:a0h} (hx:a0g X=AD x) (hy:a0g Y=AD y) (hk:a0a (Ak P A ro E) (.appendV b x y) st K) (hr:BO E st a w S ρ):BK P o a w S ρ st.h K:=by
 have h0:=a0t hr.ts hx;have h1:=a0t hr.ts hy;simp only[a0a] at hk;have run: ∀r w',(AG #[t,u] o.type #[a.eval X,a.eval Y]).run P w= .ok r w'->(AT a.eval o).run P w= .ok (.value r) w':=by intro r w' h;simp[AT,hop,BA,BJ,builtin,h]
 have run: ∀r w',(AG #[t,u] t #[a.eval X,a.eval Y]).run P w= .ok r w'->(AT a.eval o).run P w= .ok (.value r) w':=run;unfold h4i at hk;obtain⟨new,a2,cap2,hk,hv2,he2⟩:=i1i hr.sim h1 hk;revert h0 hk;generalize opd st.ts x=p;intro h0 hk;split at hk
 ·rename_i l n;simp only[a0i,a0l,a0r,a0u] at hk;split at hk
  ·rename_i vals hl;obtain⟨hn,hbig,hon,hk⟩:(vals.length=n)/\(n+new.length<=big)/\(b5z new=Ay)/\_:=hk;subst hn;exact h7j run ht hu hsz hb hb' hz hzl hr.sim h0 hl hv2 he2 hbig hon hk
  ·exact hk.elim
 ·exact hk.elim
end
section
variable {P:Program} {A:Ann} {ro:Option Nat} {E:Ent} {c:Nat} {o:Oper} {io:IOp} {st:St} {K:AV->List a0f->List Nat->Prop}
 {a:Act} {w:Ah} {S:Nat->Prop} {ρ:BV} {h:List a0f}
theorem a3b {t e:Aa}{sz:Nat}(ht:P.underlying t=AD (.slice e))(hsz:a1x P e=AD sz){aa:Option BM}{len cap L H M:Nat}{lv hv mv:Option AK}
 (hL:(lv=AM/\L=0)\/lv=AD (.int .i64 L)) (hH:(hv=AM/\H=len/\mv=AM)\/hv=AD (.int .i64 H)) (hM:(mv=AM/\M=cap)\/mv=AD (.int .i64 M))
 (h1:L<=H) (h2:H<=M) (h3:M<=cap):
 (An t (.slice aa len cap) lv hv mv).run P w= .ok (.slice (if M=L then aa else aa.map (·.add (L*sz))) (H-L) (M-L)) w:=by
 obtain⟨hn0,hszr⟩:=a1s hsz;have bnd: ∀(i n:Nat) (code:Bg),i<=n->(Ao (.int .i64 i) n code).run P w= .ok i w:=by
  intro i n code hi;have:((0:Int)<=(i:Int))/\((i:Int)<=(n:Int)):=by omega
  simp[Ao,asIntOf,this]
 have hb:(Ad Ay len cap lv hv mv).run P w= .ok (L,H,M) w:=by
  rcases hM with⟨rfl,rfl⟩|rfl<;>rcases hH with⟨rfl,rfl,hm⟩|rfl<;>rcases hL with⟨rfl,rfl⟩|rfl<;>
   first|(cases hm;done)|simp[Ad,bnd _ _ _ h1,bnd _ _ _ h2,bnd _ _ _ h3]
 simp only[An,Sem.run_bind,AE ht,Result.andThen_ok];simp[Instr.slice,AE ht,hb,hszr]
theorem a4q {ts:List AV}(hts:BE w S ρ ts a.tmps){X:Option AS}{x:Option a0h}(hx:a1z X=AD x){d:IX}{K:IX->Prop}(hk:b0u ts x d K):
 ∃n:IX,K n/\((X=AM/\n=d)\/X.map a.eval=AD (.int .i64 n.val)):=by
 cases X with
 |none=>simp[a1z] at hx;subst hx;exact⟨d,hk,.inl ⟨rfl,rfl⟩⟩
 |some X=>simp[a1z,AO] at hx;obtain⟨y,hy,rfl⟩:=hx;obtain⟨n,hn,hk⟩:=a6l (a0t hts hy) hk;exact⟨n,hk,.inr (by simp[hn])⟩
theorem a2h (s:Option Nat)(lo:IX):(a6q (Ak P A ro E) s lo).getD 0=s.getD 0+lo.val.toNat:=by
 unfold a6q;split
 ·simp[IX.val]
 ·split
  ·simp[a0o]
  ·show _+nat (Ak P A ro E) lo=_;rw[a0o];rfl
theorem c5m (e:Nat->List DV)(lo:IX):shiftL (Ak P A ro E) e lo=fun j=>e (lo.val.toNat+j):=by
 unfold shiftL;split
 ·funext j;simp[IX.val]
 ·funext j;show e (nat (Ak P A ro E) lo+j)=_;rw[a0o]
theorem d8l {t e:Aa}{X:AS}{LO HI MX:Option AS}(hop:o.op= .slice t X LO HI MX)(ht:P.underlying t=AD (.slice e)){sz:Nat}(hsz:a1x P e=AD sz)
 {x:a0h} {lo hi mx:Option a0h} (hx:a0g X=AD x) (hlo:a1z LO=AD lo) (hhi:a1z HI=AD hi) (hmx:a1z MX=AD mx) (hnm:HI=AM->MX=AM)
 (hk:a0a (Ak P A ro E) (.slice sz x lo hi mx) st K) (hr:BO E st a w S ρ):BK P o a w S ρ st.h K:=by
 have h0:=a0t hr.ts hx;simp only[a0a] at hk;have run: ∀{v r:AK},a.eval X=v->(An t v (LO.map a.eval) (HI.map a.eval) (MX.map a.eval)).run P w= .ok r w->(AT a.eval o).run P w= .ok (.value r) w:=by intro v r hv h;simp[AT,hop,hv,h]
 revert h0 hk run;generalize opd st.ts x=p;generalize a.eval X=v;intro hk h0 run;have run: ∀{r:AK},(An t v (LO.map a.eval) (HI.map a.eval) (MX.map a.eval)).run P w= .ok r w->(AT a.eval o).run P w= .ok (.value r) w:=fun h=>run rfl h;have optn: ∀{MX:Option AS} {mx:Option a0h},a1z MX=AD mx->(mx=AM↔MX=AM):=by
  intro MX mx h;cases MX with
  |none=>simp[a1z] at h;simp[<-h]
  |some M=>simp[a1z,AO] at h;obtain⟨y,_,rfl⟩:=h;simp
 unfold a1d at hk;split at hk
 ·rename_i l sz' s n f;split at hk
  ·rename_i hs;have hs:=AI hs;subst hs;obtain⟨L,hk1,hL⟩:=a4q hr.ts hlo hk;obtain⟨H,hk2,hH⟩:=a4q hr.ts hhi hk1;clear hk hk1;obtain⟨g1,g2,g3,hk⟩:(0<=L.val)/\(L.val<=H.val)/\(H.val<=(n:Int))/\_:=hk2;cases h0 with
   |msl _ _ _ _ _ ob C cap aa hρ hc hcap ha=>
    have hLn:((L.val.toNat:Nat):Int)=L.val:=AX g1;have hHn:((H.val.toNat:Nat):Int)=H.val:=AX (by omega);have hL':(LO.map a.eval=AM/\L.val.toNat=0)\/LO.map a.eval=AD (.int .i64 (L.val.toNat:Nat)):=by
     rcases hL with⟨h1,h2⟩|h1
     ·left;simp[h1,h2,IX.val]
     ·right;rw[h1,hLn]
    have hH':(HI.map a.eval=AM/\H.val.toNat=n/\MX.map a.eval=AM)\/HI.map a.eval=AD (.int .i64 (H.val.toNat:Nat)):=by
     rcases hH with⟨h1,h2⟩|h1
     ·left;exact⟨by simp[h1],by simp[h2,IX.val,Ak],by simp[hnm h1]⟩
     ·right;rw[h1,hHn]
    have hncap:n<=cap:=by rw[hcap];split<;>omega
    have addr: ∀{M:Nat},L.val.toNat<=H.val.toNat->M<=cap->0<M-L.val.toNat->(if M=L.val.toNat then aa else aa.map (·.add (L.val.toNat*sz)))=ob.map fun b=>⟨b,(a6q (Ak P A ro E) s L).getD 0*sz,AM⟩:=by
     intro M h1 h2 h3;rw[if_neg (by omega),ha (by omega),a2h];cases ob with
     |none=>rfl
     |some b=>simp[a1n,AU]
    split at hk
    ·have hM0:=(optn hmx).1 rfl;have hrun:=fun h2=>a3b (w:=w) ht hsz (aa:=aa) hL' hH' (.inl ⟨by simp[hM0],rfl⟩) (by omega) h2 (AF cap);split at hk
     ·rename_i hf;subst hf;obtain⟨g4,hk⟩:(H.val=(n:Int))/\_:=hk;simp at hcap;refine .same hr.sim (run (hrun (by omega))) hk ?_;rw[a0o,a0o];exact .msl l sz _ _ Ay ob C _ _ hρ (by rw[a2h];simp only[Ak];omega) (by simp only[Ak,if_true];omega) (fun h5=>addr (by omega) (AF _) h5)
     ·rename_i hf;have hf:f=AZ:=by simpa using hf
      subst hf;simp at hcap;refine .same hr.sim (run (hrun (by omega))) hk ?_;rw[a0o,a0o];exact .msl l sz _ _ AZ ob C _ _ hρ (by rw[a2h];simp only[Ak];omega) (by rw[a2h];simp;omega) (fun h5=>addr (by omega) (AF _) h5)
    ·rename_i m;obtain⟨M,hMk,hk⟩: ∃M:IX,MX.map a.eval=AD (.int .i64 M.val)/\(M.val=H.val/\K (.msl l sz (a6q (Ak P A ro E) s L) ((Ak P A ro E).nsub (nat (Ak P A ro E) H) (nat (Ak P A ro E) L)) Ay) st.h []):=by
      cases MX with
      |none=>simp[a1z] at hmx
      |some M=>simp[a1z,AO] at hmx;obtain⟨n',hn',hk⟩:=a6l (a0t hr.ts hmx) hk;exact⟨n',by simp[hn'],hk⟩
     obtain⟨g4,hk⟩:=hk;have hrun:=a3b (w:=w) ht hsz (aa:=aa) (len:=n) (cap:=cap) (M:=H.val.toNat) hL' hH' (.inr (by rw[hMk,g4,hHn])) (by omega) (AF _) (by omega);refine .same hr.sim (run hrun) hk ?_;rw[a0o,a0o];exact .msl l sz _ _ Ay ob C _ _ hρ (by rw[a2h];simp only[Ak];omega) (by simp only[Ak,if_true]) (fun h5=>addr (by omega) (by omega) h5)
  ·exact hk.elim
 ·rename_i sz' n e1;split at hk
  ·rename_i hs;have hs:=AI hs;subst hs;obtain⟨L,hk1,hL⟩:=a4q hr.ts hlo hk;obtain⟨H,hk2,hH⟩:=a4q hr.ts hhi hk1;clear hk hk1;obtain⟨g1,g2,g3,hk⟩:(0<=L.val)/\(L.val<=H.val)/\(H.val<=(n:Int))/\_:=hk2;have hLn:((L.val.toNat:Nat):Int)=L.val:=AX g1;have hHn:((H.val.toNat:Nat):Int)=H.val:=AX (by omega);have hL':(LO.map a.eval=AM/\L.val.toNat=0)\/LO.map a.eval=AD (.int .i64 (L.val.toNat:Nat)):=by
    rcases hL with⟨h1,h2⟩|h1
    ·left;simp[h1,h2,IX.val]
    ·right;rw[h1,hLn]
   have hH':(HI.map a.eval=AM/\H.val.toNat=n/\MX.map a.eval=AM)\/HI.map a.eval=AD (.int .i64 (H.val.toNat:Nat)):=by
    rcases hH with⟨h1,h2⟩|h1
    ·left;exact⟨by simp[h1],by simp[h2,IX.val,Ak],by simp[hnm h1]⟩
    ·right;rw[h1,hHn]
   rw[c5m] at hk;cases h0 with
   |d hd=>
    have cut: ∀{aa:Option BM} {cap M:Nat},DVR w S (.sl sz n e1) (.slice aa n cap)->n<=cap->H.val.toNat<=M->M<=cap->
     DVR w S (.sl sz (H.val.toNat-L.val.toNat) fun j=>e1 (L.val.toNat+j)) (.slice (if M=L.val.toNat then aa else aa.map (·.add (L.val.toNat*sz))) (H.val.toNat-L.val.toNat) (M-L.val.toNat)):=by
     intro aa cap M hd hnc h1 h2;by_cases h3:H.val.toNat-L.val.toNat=0
     ·rw[h3];exact .sl0 _ _ _ _
     ·rw[if_neg (by omega)];cases hd with
      |sl0 sz e a cap=>omega
      |sl _ _ _ b off _ f hb hc hl hv hrr=>simp only[Ap,a1n];refine .sl sz _ _ b _ _ (fun i j=>f (L.val.toNat+i) j) (fun _=>hb (by omega)) (by omega) (fun i hi=>hl _ (by omega)) (fun i hi j hj=> ?_) (fun i hi j x hx=>hrr _ (by omega) j x hx);rw[<-hv (L.val.toNat+i) (by omega) j hj,AU];congr 3;omega
    have shape: ∃aa cap,v= .slice aa n cap/\n<=cap:=by
     cases hd with
     |sl0 sz e a cap=>exact⟨a,cap,rfl,Nat.zero_le _⟩
     |sl _ _ _ b off cap f hb hc hl hv hrr=>exact⟨_,cap,rfl,hc⟩
    obtain⟨aa,cap,rfl,hnc⟩:=shape;split at hk
    ·have hM0:=(optn hmx).1 rfl;have hrun:=a3b (w:=w) ht hsz (aa:=aa) hL' hH' (.inl ⟨by simp[hM0],rfl⟩) (by omega) (by omega) (AF cap);refine .same hr.sim (run hrun) hk (.d ?_);rw[a0o,a0o];exact cut hd hnc (by omega) (AF _)
    ·rename_i m;obtain⟨M,hMk,hk⟩: ∃M:IX,MX.map a.eval=AD (.int .i64 M.val)/\(M.val=H.val/\K (.dfs sz ((Ak P A ro E).nsub (nat (Ak P A ro E) H) (nat (Ak P A ro E) L)) fun j=>e1 (L.val.toNat+j)) st.h []):=by
      cases MX with
      |none=>simp[a1z] at hmx
      |some M=>simp[a1z,AO] at hmx;obtain⟨n',hn',hk⟩:=a6l (a0t hr.ts hmx) hk;exact⟨n',by simp[hn'],hk⟩
     obtain⟨g4,hk⟩:=hk;have hrun:=a3b (w:=w) ht hsz (aa:=aa) (len:=n) (cap:=cap) (M:=H.val.toNat) hL' hH' (.inr (by rw[hMk,g4,hHn])) (by omega) (AF _) (by omega);refine .same hr.sim (run hrun) hk ?_;rw[a0o,a0o];exact .dfs sz _ _ _ (cut hd hnc (AF _) (by omega))
  ·exact hk.elim
 ·obtain⟨L,hk1,hL⟩:=a4q hr.ts hlo hk;obtain⟨H,hk2,hH⟩:=a4q hr.ts hhi hk1;clear hk hk1;obtain⟨g1,g2,hk⟩:(L.val=0)/\(H.val=0)/\_:=hk2;have hnil:=h0.nil;subst hnil;have hL':(LO.map a.eval=AM/\0=0)\/LO.map a.eval=AD (.int .i64 ((0:Nat):Int)):=by
   rcases hL with⟨h1,h2⟩|h1
   ·left;simp[h1]
   ·right;rw[h1,g1];rfl
  have hH':(HI.map a.eval=AM/\0=0/\MX.map a.eval=AM)\/HI.map a.eval=AD (.int .i64 ((0:Nat):Int)):=by
   rcases hH with⟨h1,h2⟩|h1
   ·left;exact⟨by simp[h1],rfl,by simp[hnm h1]⟩
   ·right;rw[h1,g2];rfl
  have hM':((MX.map a.eval=AM/\0=0)\/MX.map a.eval=AD (.int .i64 ((0:Nat):Int)))/\K (.d .nil) st.h []:=by
   cases MX with
   |none=>simp[a1z] at hmx;subst hmx;exact⟨.inl ⟨rfl,rfl⟩,hk⟩
   |some M=>simp[a1z,AO] at hmx;obtain⟨y,hy,rfl⟩:=hmx;obtain⟨n',hn',hk⟩:=a6l (a0t hr.ts hy) hk;obtain⟨g3,hk⟩:(n'.val=0)/\_:=hk;exact⟨.inr (by simp[hn',g3]),hk⟩
  have hrun:=a3b (w:=w) ht hsz (aa:=AM) (len:=0) (cap:=0) (L:=0) (H:=0) (M:=0) hL' hH' hM'.1 (AF _) (AF _) (AF _);exact .same hr.sim (run hrun) hM'.2 (.d .nil)
 ·exact hk.elim
theorem c4d {n L H:Nat}{lv hv:Option AK}(hL:(lv=AM/\L=0)\/lv=AD (.int .i64 L))(hH:(hv=AM/\H=n)\/hv=AD (.int .i64 H))(h1:L<=H)(h2:H<=n):
 (Ad AZ n n lv hv AM).run P w= .ok (L,H,n) w:=by
 have bnd: ∀(i n:Nat) (code:Bg),i<=n->(Ao (.int .i64 i) n code).run P w= .ok i w:=by
  intro i n code hi;have:((0:Int)<=(i:Int))/\((i:Int)<=(n:Int)):=by omega
  simp[Ao,asIntOf,this]
 rcases hH with⟨rfl,rfl⟩|rfl<;>rcases hL with⟨rfl,rfl⟩|rfl<;>simp[Ad,bnd _ _ _ h1,bnd _ _ _ h2]
theorem d8b {t e:Aa}{n:Nat}{X:AS}{LO HI:Option AS}(hop:o.op= .slice t X LO HI AM)(ht:P.underlying t=AD (.array n e)){x:a0h}{lo hi:Option a0h}(hx:a0g X=AD x)
 (hlo:a1z LO=AD lo) (hhi:a1z HI=AD hi)
 (hk:a0a (Ak P A ro E) (.slarr n x lo hi) st K) (hr:BO E st a w S ρ) (hsz:b1y P e=AD 1):BK P o a w S ρ st.h K:=by
 have h0:=a0t hr.ts hx;have hs:(sizeOf e).run P w= .ok 1 w:=by simp[b1y] at hsz;obtain⟨i,hi,hi1⟩:=hsz;simp[sizeOf,typeInfo,hi,hi1]
 simp only[a0a] at hk;split at hk
 ·rename_i l off e1;rw[e1] at h0;obtain⟨L,hk1,hL⟩:=a4q hr.ts hlo hk;obtain⟨H,hk2,hH⟩:=a4q hr.ts hhi hk1;clear hk hk1;obtain⟨g1,g2,g3,hk⟩:(0<=L.val)/\(L.val<=H.val)/\(H.val<=(n:Int))/\_:=hk2;have hLn:((L.val.toNat:Nat):Int)=L.val:=AX g1;have hHn:((H.val.toNat:Nat):Int)=H.val:=AX (by omega);have hb:(Ad AZ n n (LO.map a.eval) (HI.map a.eval) AM).run P w= .ok (L.val.toNat,H.val.toNat,n) w:=by
   have hL':(LO.map a.eval=AM/\L.val.toNat=0)\/LO.map a.eval=AD (.int .i64 (L.val.toNat:Nat)):=by
    rcases hL with⟨h1,h2⟩|h1
    ·left;simp[h1,h2,IX.val]
    ·right;rw[h1,hLn]
   have hH':(HI.map a.eval=AM/\H.val.toNat=n)\/HI.map a.eval=AD (.int .i64 (H.val.toNat:Nat)):=by
    rcases hH with⟨h1,h2⟩|h1
    ·left;exact⟨by simp[h1],by simp[h2,IX.val]⟩
    ·right;rw[h1,hHn]
   exact c4d hL' hH' (by omega) (by omega)
  cases h:a.eval X with
  |pointer pa=>
   rw[h] at h0;cases h0 with
   |ptr _ _ b C hρ=>
    have hrun:(AT a.eval o).run P w= .ok (.value (.slice (AD (if n=L.val.toNat then⟨b,off,AM⟩ else (⟨b,off,AM⟩:BM).add (L.val.toNat*1))) (H.val.toNat-L.val.toNat) (n-L.val.toNat))) w:=by simp[AT,hop,h,An,AE ht,Instr.sureAddr,hb,hs]
    rw[a0o,a0o] at hk;have hk:match H.val.toNat-L.val.toNat with
     |0=>K (.d (.sl 1 0 fun _=>[])) st.h []
     |m+1=>K (.vsl l (off+L.val.toNat) (m+1)) st.h []:=hk
    split at hk
    ·rename_i h0;rw[h0] at hrun;exact .same hr.sim hrun hk (.d (.sl0 1 _ _ _))
    ·rename_i m h0;rw[if_neg (by omega),h0] at hrun;refine .same hr.sim hrun hk ?_;rw[a1n,A7];exact .vsl l (off+L.val.toNat) (m+1) b C _ hρ (by omega)
  |_=>rw[h] at h0;cases h0
 ·exact hk.elim
end
section
variable {P:Program} {A:Ann} {ro:Option Nat} {E:Ent} {c:Nat} {o:Oper} {io:IOp} {st:St} {K:AV->List a0f->List Nat->Prop}
 {a:Act} {w:Ah} {S:Nat->Prop} {ρ:BV} {h:List a0f}
theorem a2d {b:Builtin}{args:Array AS}{tys:Array Aa}(hop:o.op= .call {callee:= .builtin b,args,argTypes:=tys}):
 ∃cs,AT a.eval o=builtin b tys o.type cs (args.map a.eval):=by
 exact⟨_,by simp[AT,hop,BA,BJ];rfl⟩
theorem e9h {t e:Aa}{X:AS}(hop:o.op= .call {callee:= .builtin .len,args:= #[X],argTypes:= #[t]})(ht:P.underlying t=AD (.slice e))
 {x:a0h} (hx:a0g X=AD x) (hk:a0a (Ak P A ro E) (.len x) st K) (hr:BO E st a w S ρ):BK P o a w S ρ st.h K:=by
 have h0:=a0t hr.ts hx;obtain⟨cs,hex⟩:=a2d (a:=a) hop;simp only[a0a] at hk;have sl: ∀{aa:Option BM} {n cap:Nat},a.eval X= .slice aa n cap->K (.d (.int .i64 (.v n))) st.h []->BK P o a w S ρ st.h K:=by intro aa n cap hv hk;exact .same hr.sim (v:= .int .i64 n) (by rw[hex];simp[builtin,Az,AE ht,hv,BZ]) hk (.d (.int .i64 (.v n)))
 split at hk
 ·rename_i e1;rw[e1] at h0;exact .same hr.sim (v:= .int .i64 0) (by rw[hex];simp[builtin,Az,AE ht,h0.nil,BZ]) hk (.d (.int .i64 (.l 0)))
 ·rename_i sz n e' e1;rw[e1] at h0;generalize hv:a.eval X=v at h0;cases h0 with
  |d hd=>cases hd<;>exact sl hv hk
 ·rename_i sz n e' e1;rw[e1] at h0;generalize hv:a.eval X=v at h0;cases h0 with
  |dfs _ _ _ aa hd=>exact sl hv hk
 ·rename_i l sz s n f e1;rw[e1] at h0;generalize hv:a.eval X=v at h0;cases h0 with
  |msl _ _ _ _ _ ob C cap aa hρ hc hcap ha=>exact sl hv hk
 ·rename_i l off n e1;rw[e1] at h0;generalize hv:a.eval X=v at h0;cases h0 with
  |vsl _ _ _ b C cap hρ hc=>exact sl hv hk
 ·exact hk.elim
theorem e0y {t k e:Aa}{X:AS}(hop:o.op= .call {callee:= .builtin .len,args:= #[X],argTypes:= #[t]})(ht:P.underlying t=AD (.map k e))
 {x:a0h} (hx:a0g X=AD x) (hk:a0a (Ak P A ro E) (.lenm x) st K) (hr:BO E st a w S ρ):BK P o a w S ρ st.h K:=by
 have h0:=a0t hr.ts hx;obtain⟨cs,hex⟩:=a2d (a:=a) hop;simp only[a0a,a0i] at hk;split at hk
 ·rename_i l e1;rw[e1] at h0;split at hk
  ·rename_i wide ks n f hl;generalize hv:a.eval X=v at h0;cases h0 with
   |map _ b C hρ=>
    obtain⟨oo,h1,h2⟩:=hr.sim.obj l _ C hρ;rw[hl] at h1;cases h1;obtain⟨es,clock,h3,h4⟩:=h2;refine .same hr.sim (v:= .int .i64 n) ?_ hk (.d (.int .i64 (.v n)));have hg:(getObj b).run P w= .ok (.map es clock) w:=by simp[getObj,Sem.run,h3]
    have:es.size=n:=by have:=h4.len;simpa using this
    rw[hex];simp[builtin,Az,AE ht,hv,BZ,hg,this]
  ·exact hk.elim
 ·exact hk.elim
theorem f0a {t e:Aa}{X:AS}(hop:o.op= .call {callee:= .builtin .cap,args:= #[X],argTypes:= #[t]})(ht:P.underlying t=AD (.slice e))
 {x:a0h} (hx:a0g X=AD x) (hk:a0a (Ak P A ro E) (.cap x) st K) (hr:BO E st a w S ρ):BK P o a w S ρ st.h K:=by
 have h0:=a0t hr.ts hx;obtain⟨cs,hex⟩:=a2d (a:=a) hop;simp only[a0a,a0i] at hk;split at hk
 ·rename_i l sz s n f e1;rw[e1] at h0;split at hk
  ·rename_i sz' m e' hl;split at hk
   ·rename_i hs;generalize hv:a.eval X=v at h0;cases h0 with
    |msl _ _ _ _ _ ob C cap aa hρ hc hcap ha=>
     have run:(AT a.eval o).run P w= .ok (.value (.int .i64 cap)) w:=by rw[hex];simp[builtin,Bf,AE ht,hv,BZ]
     split at hk
     ·rename_i hf;rw[hf] at hcap;simp at hcap;subst hcap;exact .same hr.sim run hk (.d (.int .i64 (.v (cap:Nat))))
     ·rename_i hf;have hf:f=AZ:=by simpa using hf
      subst hf;simp at hcap;obtain⟨oo,h1,h2⟩:=hr.sim.obj l ob C hρ;rw[hl] at h1;cases h1;have hmC:m<=C:=by
       cases ob with
       |none=>obtain⟨hC,sz2,e2,h3|h3⟩:=h2<;>cases h3;omega
       |some b=>obtain⟨vs,ty,h3,h4,h5,h6⟩:=h2;exact h5
      refine .same hr.sim run hk (.ge _ _ ?_);have:f7l (Ak P A ro E) m s=m-s.getD 0:=by cases s<;>rfl
      rw[this];omega
   ·exact hk.elim
  ·exact hk.elim
 ·exact hk.elim
theorem f2j {tys:Array Aa}{X Y:AS}(hop:o.op= .call {callee:= .builtin .min,args:= #[X,Y],argTypes:=tys}){x y:a0h}(hx:a0g X=AD x)(hy:a0g Y=AD y)
 (hk:a0a (Ak P A ro E) (.min x y) st K) (hr:BO E st a w S ρ):BK P o a w S ρ st.h K:=by
 have h0:=a0t hr.ts hx;have h1:=a0t hr.ts hy;obtain⟨cs,hex⟩:=a2d (a:=a) hop;simp only[a0a] at hk;split at hk
 ·rename_i k1 n1 k2 n2 e1 e2;rw[e1] at h0;rw[e2] at h1;split at hk
  ·rename_i hkk;subst hkk;refine .same hr.sim (v:= .int k1 ((Ak P A ro E).isel ((Ak P A ro E).ilt n2.val n1.val) n2.val n1.val)) ?_ hk (.d (.int k1 (.v _)));have e:(Ak P A ro E).isel ((Ak P A ro E).ilt n2.val n1.val) n2.val n1.val=if n2.val<n1.val then n2.val else n1.val:=by simp[Ak]
   rw[hex,e];simp[builtin,Bb,Bc,h0.int,h1.int]
  ·exact hk.elim
 ·exact hk.elim
theorem f0m {tys:Array Aa}{X Y:AS}(hop:o.op= .call {callee:= .builtin .max,args:= #[X,Y],argTypes:=tys}){x y:a0h}(hx:a0g X=AD x)(hy:a0g Y=AD y)
 (hk:a0a (Ak P A ro E) (.max x y) st K) (hr:BO E st a w S ρ):BK P o a w S ρ st.h K:=by
 have h0:=a0t hr.ts hx;have h1:=a0t hr.ts hy;obtain⟨cs,hex⟩:=a2d (a:=a) hop;simp only[a0a] at hk;split at hk
 ·rename_i k1 n1 k2 n2 e1 e2;rw[e1] at h0;rw[e2] at h1;split at hk
  ·rename_i hkk;subst hkk;refine .same hr.sim (v:= .int k1 ((Ak P A ro E).isel ((Ak P A ro E).ilt n1.val n2.val) n2.val n1.val)) ?_ hk (.d (.int k1 (.v _)));have e:(Ak P A ro E).isel ((Ak P A ro E).ilt n1.val n2.val) n2.val n1.val=if n1.val<n2.val then n2.val else n1.val:=by simp[Ak]
   rw[hex,e];simp[builtin,Bd,Be,h0.int,h1.int]
  ·exact hk.elim
 ·exact hk.elim
theorem d9g {t:Aa}(hop:o.op= .makeMap t AM){wide:Bool}{ks:List IntKind}(hk:a0a (Ak P A ro E) (.mkmap wide ks) st K)(hr:BO E st a w S ρ):BK P o a w S ρ st.h K:=by have hn:ρ st.h.length=AM:=hr.sim.fresh (AF _);simp only[a0a,a0u,a0r] at hk;refine⟨.map (AD w.heap.size),{w with heap:=w.heap.push (.map #[] 0)},_,_,[],S,_,.inl ?_,hk,Chg.new hr.sim hn (.map #[] 0) (.map wide ks 0 fun _=>AM) 0 (fun w' hw'=>⟨#[],0,by rw[hw'];simp,⟨rfl,by simp,by simp,fun k=>rfl,by simp⟩⟩),.map _ w.heap.size 0 (by simp)⟩;simp[AT,hop,BG]
theorem c3i {t:Aa}(hop:o.op= .makeMap t AM){wide:Bool}{ks:List IntKind}(hk:a0a (Ak P A ro E) (.mkmapv wide ks) st K)(hr:BO E st a w S ρ):BK P o a w S ρ st.h K:=by have hn:ρ st.h.length=AM:=hr.sim.fresh (AF _);simp only[a0a,a0u,a0r] at hk;refine⟨.map (AD w.heap.size),{w with heap:=w.heap.push (.map #[] 0)},_,_,[],S,_,.inl ?_,hk,Chg.new hr.sim hn (.map #[] 0) (.mapv wide ks [] []) 0 (fun w' hw'=>⟨#[],0,by rw[hw'];simp,⟨rfl,by simp,by simp,by simp,by simp⟩,⟨rfl,rfl⟩,by simp⟩),.map _ w.heap.size 0 (by simp)⟩;simp[AT,hop,BG]
end
theorem a5w (ro:Option Nat)(f:Ba):(a3i ro).fn f:=by cases ro<;>trivial
theorem b1e (ro:Option Nat):(a3i ro).depth=AM:=by cases ro<;>rfl
theorem a5a (ro:Option Nat):(a3i ro).round=ro:=by cases ro<;>rfl
section
variable {P:Program} {A:Ann} {ro:Option Nat} {E:Ent} {c:Nat} {o:Oper} {io:IOp} {st:St} {K:AV->List a0f->List Nat->Prop}
 {a:Act} {w:Ah} {S:Nat->Prop} {ρ:BV} {h:List a0f} {next:Act->Ah->Prop} {Q:Exit->Act->Ah->Prop}
theorem Yld.wpIn (hd: ∀c,o.op≠ .defer c)(hy:BK P o a w S ρ h K)
 (hn: ∀x h' pg v w' S' ρ',K x h' pg->BX w S ρ h w' S' ρ' h' pg->VR w' S' ρ' x v->next (a.put o.dst v) w'):o.wpIn (a3i ro) 0 P a w next Q:=by
 obtain⟨v,w',x,h',pg,S',ρ',hrun,hk,hc,hv⟩:=hy;refine⟨fun f _=>a5w ro f,?_⟩;rw[a5a,Oper.semAt_eq ro a.eval o hd];rcases hrun with hrun|⟨hrun,rfl⟩
 ·rw[hrun];exact hn x h' pg v w' S' ρ' hk hc hv
 ·rw[hrun];exact hn x h' pg BY w' S' ρ' hk hc hv
theorem b4h {f:Ba}{vs:Array AK}{R:Ending->Ah->Prop}(hc:Calls P f vs w R):CallsIn (a3i ro) 0 P f vs w R:=by
 cases ro with
 |none=>exact BW.2 hc
 |some l=>exact CallsIn.inRound l (BW.2 hc)
theorem a8v {F:AS}{args:Array AS}{tys:Array Aa}(hop:o.op= .call {callee:= .value F,args,argTypes:=tys}){f:Ba}{us cs:Array AK}(hF:a.eval F= .func (.func f) us cs)(he:c1p P f)
 {R:AK->Ah->Prop} (hc:Calls P f (us++args.map a.eval++cs) w fun e w'=> ∃v,e= .returned v/\R v w') (hn: ∀v w',R v w'->next (a.put o.dst v) w'):o.wpIn (a3i ro) 0 P a w next Q:=by
 obtain⟨fn,h1,h2,h3⟩:=he;refine⟨fun f _=>a5w ro f,?_⟩;rw[a5a,Oper.semAt_eq ro a.eval o (fun c h=>by rw[hop] at h;cases h)];have hrun:(AT a.eval o).run P w= .ok (.enter f (us++args.map a.eval++cs)) w:=by simp[AT,hop,BA,hF,Deferred.ofValue,BJ,callFunc,h1,h2,h3]
 rw[hrun,Oper.uponIn_enter];refine⟨(fun h=>by rw[b1e] at h;cases h),?_⟩;refine (b4h (ro:=ro) hc).mono fun e w' he=> ?_;obtain⟨v,rfl,hR⟩:=he;exact hn v w' hR
theorem VRs.app {xs ys:List AV}{us vs:Array AK}(h1:BE w S ρ xs us)(h2:BE w S ρ ys vs):BE w S ρ (xs++ys) (us++vs):=by
 refine⟨by simp[h1.1,h2.1],fun i x v hx hv=> ?_⟩;by_cases hi:i<xs.length
 ·rw[AB hi] at hx;rw[Al (by rw[<-h1.1];exact hi)] at hv;exact h1.2 i x v hx hv
 ·rw[AC (by omega)] at hx;rw[Ax (by rw[<-h1.1];omega)] at hv;rw[<-h1.1] at hv;exact h2.2 _ x v hx hv
theorem VRs.norm {xs:List AV}{vs:Array AK}(h:BE w S ρ xs vs):BE w S ρ (Af xs) vs:=by
 refine⟨by simpa [BU] using h.1,fun i x v hx hv=> ?_⟩;rw[BU,AJ] at hx;cases hc:xs[i]? with
 |none=>simp[hc] at hx
 |some y=>simp[hc] at hx;subst hx;exact (h.2 i y v hc hv).norm
theorem d5x {x:AV}{v:AK}(hf:x.free=Ay)(hv:VR w S ρ x v):VR w S a2j x v:=by
 cases hv with
 |d h=>exact .d h
 |dfs sz n e a h=>exact .dfs sz n e a h
 |dptr row off b base f hb hv hr=>exact .dptr row off b base f hb hv hr
 |fn f first cap us vs hl1 h1 hl h=>
  cases first with
  |nil=>
   cases cap with
   |nil=>exact .fn f [] [] us vs hl1 (by simp) hl (by simp)
   |cons x l=>simp[BQ] at hf
  |cons x l=>simp[BQ] at hf
 |_=>simp[BQ] at hf
theorem d2e {cs:List AV}(h:a3z.frees1 cs=Ay): ∀x,x∈cs->x.free=Ay:=by
 induction cs with
 |nil=>simp
 |cons c cs ih=>
  simp only[a3z.frees1] at h;split at h
  ·rename_i h1;intro x hx;rcases List.mem_cons.1 hx with rfl|hx
   ·exact h1
   ·exact ih h x hx
  ·cases h
theorem b4t {xs:List AV}(hf:a3z xs=Ay): ∀{vs:List AK},(∀(i:Nat) (x:AV) (v:AK),xs[i]? =AD x->vs[i]? =AD v->VR w S ρ x v)->
 ∀(i:Nat) (x:AV) (v:AK),xs[i]? =AD x->vs[i]? =AD v->VR w S a2j x v:=by
 induction xs with
 |nil=>intro vs _ i x v hx;simp at hx
 |cons c xs ih=>
  intro vs hv i x v hx hu;have hc:(∀v,VR w S ρ c v->VR w S a2j c v)/\a3z xs=Ay:=by
   unfold a3z at hf;split at hf
   ·rename_i heq;cases heq
   ·rename_i heq;cases heq;split at hf
    ·rename_i h1;refine⟨fun v hv=> ?_,hf⟩;cases hv with
     |agg cs us hl h=>exact .agg _ us hl fun i x v hx hv=>d5x (d2e h1 x (List.mem_of_getElem? hx)) (h i x v hx hv)
    ·cases hf
   ·rename_i heq;cases heq;split at hf
    ·rename_i h1;exact⟨fun v hv=>d5x h1 hv,hf⟩
    ·cases hf
  cases i with
  |zero=>simp at hx;subst hx;exact hc.1 v (hv 0 _ v (by simp) hu)
  |succ i=>
   cases vs with
   |nil=>simp at hu
   |cons u vs=>exact ih hc.2 (vs:=vs) (fun j y z hy hz=>hv (j+1) y z (by simpa using hy) (by simpa using hz)) i x v (by simpa using hx) (by simpa using hu)
theorem Chg.trans0 {w1 w2:Ah}{S1 S2:Nat->Prop}{ρ1 ρ2:BV}{h1 h2:List a0f}(c1:BX w S ρ h w1 S1 ρ1 h1 [])(c2:BX w1 S1 ρ1 h1 w2 S2 ρ2 h2 []):BX w S ρ h w2 S2 ρ2 h2 []:=
 ⟨c2.sim,A5 c1.len c2.len,c1.ext.trans c2.ext,fun m p hm hp=>c2.keep m p hm (c1.keep m p hm hp),fun m hm hp=>(c2.low m (Am hm c1.len) hp).trans (c1.low m hm hp)⟩
theorem b5v {w':Ah}{S1:Nat->Prop}(hs:BS w S ρ h)(h4: ∀b,S1 b->S b\/(w.heap.size<=b/\b<w'.heap.size))(h5:d6d w w'):BX w S ρ h w' (fun b=>S b\/S1 b) ρ h []:=by
 have hS1: ∀b,S b->w'.heap[b]? =w.heap[b]? :=fun b hb=>h5.frame b (hs.sblk b hb);refine⟨⟨fun b hb=> ?_,fun l ob C hl=> ?_,hs.inj,fun l b C ao hl hao hf=> ?_⟩,AF _,
  ⟨h5.os,h5.tape,h5.output,h5.size,fun _ h=> .inl h,hS1,fun b hb=> ?_,fun b hb _=>h5.frame b hb,fun l b C hl=> .inr ⟨l,C,hl⟩⟩,fun _ _ _ h=>h,fun _ _ _=>rfl⟩
 ·rcases hb with hb|hb
  ·exact Am (hs.sblk b hb) h5.size
  ·rcases h4 b hb with hb|hb
   ·exact Am (hs.sblk b hb) h5.size
   ·exact hb.2
 ·obtain⟨oo,h6,h7⟩:=hs.obj l ob C hl;refine⟨oo,h6,?_⟩;cases ob with
  |none=>exact h7
  |some b=>exact a0z.mono (fun _ h=> .inl h) hS1 (fun _ _ h=>h) (h5.frame b (hs.blk hl)) h7
 ·intro hb;have:S b:=by
   rcases hb with hb|hb
   ·exact hb
   ·rcases h4 b hb with hb|hb
    ·exact hb
    ·have:=hs.blk hl;omega
  exact hs.own l b C ao hl hao hf this
 ·rcases hb with hb|hb
  ·exact .inl hb
  ·rcases h4 b hb with hb|hb
   ·exact .inl hb
   ·exact .inr (.inl hb.1)
theorem AV.shiftL_eq (k:Nat)(l:List AV):BH k l=l.map (AV.shift k):=by
 induction l with
 |nil=>rfl
 |cons x l ih=>simp[BH,ih]
theorem b7n (k:Nat)(l:List a0f):a9s k l=l.map (a0f.shift k):=by
 induction l with
 |nil=>rfl
 |cons x l ih=>simp[a9s,ih]
theorem VR.shift {ρ':BV}(k:Nat)(hρ: ∀m p,ρ m=AD p->ρ' (k+m)=AD p){x:AV}{v:AK}(hv:VR w S ρ x v):VR w S ρ' (x.shift k) v:=by
 have key: ∀{cs:List AV} {vs:Array AK},(∀(i:Nat) (x:AV) (v:AK),cs[i]? =AD x->vs[i]? =AD v->VR w S ρ' (x.shift k) v)->
  ∀(i:Nat) (x:AV) (v:AK),(BH k cs)[i]? =AD x->vs[i]? =AD v->VR w S ρ' x v:=by
  intro cs vs ih i x v hx hv;rw[AV.shiftL_eq,AJ] at hx;cases hc:cs[i]? with
  |none=>simp[hc] at hx
  |some y=>simp[hc] at hx;subst hx;exact ih i y v hc hv
 induction hv with
 |d h=>exact .d h
 |any v=>exact .any v
 |und=>exact .und
 |agg cs vs hl _ ih=>exact .agg _ vs (by simpa [AV.shiftL_eq] using hl) (key ih)
 |tuple cs vs hl _ ih=>exact .tuple _ vs (by simpa [AV.shiftL_eq] using hl) (key ih)
 |ptr m off b C h=>exact .ptr _ off b C (hρ _ _ h)
 |aptr m sz i off b C h=>exact .aptr _ sz i off b C (hρ _ _ h)
 |dptr row off b base f hb hv hr=>exact .dptr row off b base f hb hv hr
 |dfs sz n e a h=>exact .dfs sz n e a h
 |msl m sz start len full ob C cap a h hc hcap ha=>exact .msl _ sz start len full ob C cap a (hρ _ _ h) hc hcap ha
 |vsl m off n b C cap h hc=>exact .vsl _ off n b C cap (hρ _ _ h) hc
 |map m b C h=>exact .map _ b C (hρ _ _ h)
 |ge m n h=>exact .ge m n h
 |yl m b C h=>exact .yl _ b C (hρ _ _ h)
 |fn f first cap us vs hl1 _ hl _ ih1 ih=>exact .fn f _ _ us vs (by simpa [AV.shiftL_eq] using hl1) (key ih1) (by simpa [AV.shiftL_eq] using hl) (key ih)
theorem a0z.shift {ρ':BV}(k:Nat)(hρ: ∀m p,ρ m=AD p->ρ' (k+m)=AD p){b C:Nat}{oo:a0f}(hv:a0z w S ρ b C oo):a0z w S ρ' b C (oo.shift k):=by
 cases oo with
 |var cs=>
  obtain⟨vs,ty,h1,h2,h3⟩:=hv;refine⟨vs,ty,h1,by simpa [AV.shiftL_eq] using h2,fun i x v hx hv=> ?_⟩;rw[AV.shiftL_eq,AJ] at hx;cases hc:cs[i]? with
  |none=>simp[hc] at hx
  |some y=>simp[hc] at hx;subst hx;exact (h3 i y v hc hv).shift k hρ
 |arr sz n e=>exact hv
 |frz sz n e=>exact hv
 |map wide ks n f=>exact hv
 |arrv vals=>
  obtain⟨vs,ty,h1,h2,h3,h4⟩:=hv;refine⟨vs,ty,h1,h2,by simpa [AV.shiftL_eq] using h3,fun i x v hx hv=> ?_⟩;rw[AV.shiftL_eq,AJ] at hx;cases hc:vals[i]? with
  |none=>simp[hc] at hx
  |some y=>simp[hc] at hx;subst hx;exact (h4 i y v hc hv).shift k hρ
 |mapv wide ks keys vals=>
  obtain⟨es,clock,h1,h2,h3,h4⟩:=hv;refine⟨es,clock,h1,h2,by simpa [AV.shiftL_eq] using h3,fun i x v hx hv=> ?_⟩;rw[AV.shiftL_eq,AJ] at hx;cases hc:vals[i]? with
  |none=>simp[hc] at hx
  |some y=>simp[hc] at hx;subst hx;exact (h4 i y v hc hv).shift k hρ
 |loop s ts ps code=>
  obtain⟨r,h1,h2,h3,h4,h5,h6,h7⟩:=hv;refine⟨r,h1,h2,h3,h4,h5,by simpa [AV.shiftL_eq] using h6,fun i x v hx hv=> ?_⟩;rw[AV.shiftL_eq,AJ] at hx;cases hc:ts[i]? with
  |none=>simp[hc] at hx
  |some y=>simp[hc] at hx;subst hx;exact (h7 i y v hc hv).shift k hρ
 |gone=>exact hv
theorem b7a (k:Nat)(oo:a0f):(oo.shift k).frozen=oo.frozen:=by cases oo<;>rfl
theorem d6g {w':Ah}{S1:Nat->Prop}{ρ1:BV}{os:List a0f}(hs:BS w S ρ h)(h1:BS w' S1 ρ1 os)(hm: ∀b,S b->S1 b)(h4: ∀b,S1 b->S b\/w.heap.size<=b)
 (h3: ∀l b C,ρ1 l=AD (AD b,C)->w.heap.size<=b) (h5:d6d w w'):
 ∃ρ',BX w S ρ h w' S1 ρ' (h++a9s h.length os) []/\ ∀m p,ρ1 m=AD p->ρ' (h.length+m)=AD p:=by
 have hS1: ∀b,S b->w'.heap[b]? =w.heap[b]? :=fun b hb=>h5.frame b (hs.sblk b hb);have e1: ∀m,m<h.length->(fun m=>if m<h.length then ρ m else ρ1 (m-h.length)) m=ρ m:=fun m hm=>if_pos hm;have e2: ∀m,(fun m=>if m<h.length then ρ m else ρ1 (m-h.length)) (h.length+m)=ρ1 m:=fun m=>by show (if h.length+m<h.length then _ else _)=_;rw[if_neg (by omega),show h.length+m-h.length=m by omega]
 have lt: ∀{m p},ρ m=AD p->m<h.length:=fun {m p} hp=>Aw fun hle=>by rw[hs.fresh hle] at hp;cases hp
 generalize (fun m=>if m<h.length then ρ m else ρ1 (m-h.length))=ρ' at e1 e2;have spl: ∀m p,ρ' m=AD p->(m<h.length/\ρ m=AD p)\/(h.length<=m/\ρ1 (m-h.length)=AD p):=by
  intro m p hp;by_cases hlt:m<h.length
  ·exact .inl ⟨hlt,by rw[<-e1 m hlt];exact hp⟩
  ·refine .inr ⟨by omega,?_⟩;rw[<-e2 (m-h.length),show h.length+(m-h.length)=m by omega];exact hp
 refine⟨ρ',⟨⟨h1.sblk,fun m ob C hm'=> ?_,fun m m' b C C' hp hp'=> ?_,fun m b C ao hm' hao hf=> ?_⟩,by simp,⟨h5.os,h5.tape,h5.output,h5.size,hm,hS1,fun b hb=> ?_,fun b hb _=>h5.frame b hb,fun l b C hl=> ?_⟩,fun m p _ hp=> ?_,fun m hm' _=>e1 m hm'⟩,fun m p hp=>by rw[e2];exact hp⟩
 ·rcases spl m _ hm' with⟨hlt,hp⟩|⟨hle,hp⟩
  ·obtain⟨oo,h6,h7⟩:=hs.obj m ob C hp;refine⟨oo,by show (h++_)[m]? =_;rw[AB hlt];exact h6,?_⟩;cases ob with
   |none=>exact h7
   |some b=>exact a0z.mono hm hS1 (fun m' p hp'=>by rw[e1 m' (lt hp')];exact hp') (h5.frame b (hs.blk hp)) h7
  ·obtain⟨oo,h6,h7⟩:=h1.obj _ ob C hp;refine⟨oo.shift h.length,by show (h++_)[m]? =_;rw[AC hle,b7n,AJ,h6];rfl,?_⟩;cases ob with
   |none=>
    obtain⟨h8,sz,e,h9⟩:=h7;refine⟨h8,sz,e,?_⟩;rcases h9 with rfl|rfl
    ·exact .inl rfl
    ·exact .inr rfl
   |some b=>exact a0z.shift h.length (fun m' p hp'=>by rw[e2];exact hp') h7
 ·rcases spl m _ hp with⟨h6,h7⟩|⟨h6,h7⟩<;>rcases spl m' _ hp' with⟨h8,h9⟩|⟨h8,h9⟩
  ·exact hs.inj _ _ _ _ _ h7 h9
  ·have:=hs.blk h7;have:=h3 _ _ _ h9;omega
  ·have:=hs.blk h9;have:=h3 _ _ _ h7;omega
  ·have:=h1.inj _ _ _ _ _ h7 h9;omega
 ·replace hao:(h++a9s h.length os)[m]? =AD ao:=hao
  rcases spl m _ hm' with⟨hlt,hp⟩|⟨hle,hp⟩
  ·rw[AB hlt] at hao;intro hb;rcases h4 b hb with hb|hb
   ·exact hs.own m b C ao hp hao hf hb
   ·have:=hs.blk hp;omega
  ·rw[AC hle,b7n,AJ] at hao;cases hc:os[m-h.length]? with
   |none=>simp[hc] at hao
   |some oo=>simp[hc] at hao;subst hao;exact h1.own _ b C oo hp hc (by rw[<-b7a h.length oo];exact hf)
 ·rcases h4 b hb with hb|hb
  ·exact .inl hb
  ·exact .inr (.inl hb)
 ·rcases spl l _ hl with⟨h6,h7⟩|⟨h6,h7⟩
  ·exact .inr ⟨l,C,h7⟩
  ·exact .inl (h3 _ _ _ h7)
 ·rw[e1 m (lt hp)];exact hp
theorem e3c {x:AV}{v:AK}(h:VR w S ρ x v):VR w S ρ (d9s x) v:=by
 unfold d9s;split
 ·rename_i f us vs;split
  ·rename_i hc;have e:=h.raw;subst e;simp only[Av,Nat.beq_eq] at hc;exact .fn f [] [] us vs (by simp[hc.1]) (by simp) (by simp[hc.2]) (by simp)
  ·exact .any _
 ·exact h
theorem d5f {F:AS}{args:Array AS}{tys:Array Aa}(hop:o.op= .call {callee:= .value F,args,argTypes:=tys}){f:a0h}{as:List a0h}{m:Mode}(hf:a0g F=AD f)(has:b3d args=AD as)
 (hk:a0a (Ak P A ro E) (.call f as m) st K) (hr:BO E st a w S ρ)
 (hn: ∀x h' pg v w' S' ρ',K x h' pg->BX w S ρ st.h w' S' ρ' h' pg->VR w' S' ρ' x v->next (a.put o.dst v) w'):o.wpIn (a3i ro) 0 P a w next Q:=by
 have h0:=e3c (a0t hr.ts hf);have h1:=c9w hr.ts has;simp only[a0a] at hk;split at hk
 ·rename_i g first cap e1
  rw[e1] at h0;generalize hv:a.eval F=v at h0;cases h0 with
  |fn _ _ _ us cs hl1 hv1 hl2 hv2=>
   have hargs:BE w S ρ (a2u first (a2u (b2j st.ts as) cap)) (us++args.map a.eval++cs):=by rw[a0r,a0r,<-AL];exact VRs.app (VRs.app ⟨hl1,hv1⟩ h1) ⟨hl2,hv2⟩
   revert hargs hk;generalize a2u first (a2u (b2j st.ts as) cap)=xs
   intro hk hargs;have toL: ∀(i:Nat) (x:AV) (v:AK),xs[i]? =AD x->(us++args.map a.eval++cs).toList[i]? =AD v->VR w S ρ x v:=
    fun i x v hx hv=>hargs.2 i x v hx (by rw[<-A4];exact hv)
   have back: ∀{S1:Nat->Prop} {xs':List AV},xs'.length=(us++args.map a.eval++cs).toList.length->a3z xs'=Ay->
    (∀(i:Nat) (x:AV) (v:AK),xs'[i]? =AD x->(us++args.map a.eval++cs).toList[i]? =AD v->VR w S1 ρ x v)->BE w S1 a2j (Af xs') (us++args.map a.eval++cs):=
    fun hl hfr hv'=>VRs.norm ⟨by simpa using hl,fun i x v hx hv=>b4t hfr hv' i x v hx (by rw[A4];exact hv)⟩
   have pure: ∀{own:Bool} {S0 S1:Nat->Prop} {h':List a0f} {xs':List AV} {r:AV},a0j P own g (Af xs') r->BX w S ρ st.h w S1 ρ h' []->(∀b,S0 b->b<w.heap.size)->(own=AZ-> ∀b,S0 b->S1 b)->
    BE w S0 a2j (Af xs') (us++args.map a.eval++cs)->K r h' []->o.wpIn (a3i ro) 0 P a w next Q:=by
    intro own S0 S1 h' xs' r hp c1 hS0 hown hvs hk;obtain⟨hent,hpure⟩:=hp;refine a8v hop hv hent (hpure w S0 _ hS0 hvs|>.mono fun e w' he=> ?_) (R:=fun v w'=> ∃S',VR w' S' a2j r v/\(∀b,S' b->(own=AZ/\S0 b)\/(w.heap.size<=b/\b<w'.heap.size))/\d6d w w') fun v w' hR=> ?_
    ·obtain⟨v,S',h2,h3,h4,h5⟩:=he;exact⟨v,h2,S',h3,h4,h5⟩
    ·obtain⟨S2,h3,h4,h5⟩:=hR;have c2:=b5v (S1:=S2) c1.sim (fun b hb=>(h4 b hb).imp (fun hb=>hown hb.1 b hb.2) id) h5;exact hn r h' [] v w' _ ρ hk (c1.trans0 c2) (h3.mono (fun _ h=> .inr h) (fun _ _=>rfl) (fun l p hp=>by cases hp))
   cases m with
   |borrow=>
    simp only at hk;obtain⟨xs',hk,hl',hv'⟩:=d9k hr.sim (vs:=(us++args.map a.eval++cs).toList) (by simpa using hargs.1) toL hk;split at hk
    ·rename_i hfr;obtain⟨r,hp,hk⟩: ∃r,a0j P Ay g (Af xs') r/\K r st.h []:=hk;exact pure hp (.refl hr.sim) (fun _ h=>h) (fun h=>by cases h) (back hl' hfr hv') hk
    ·exact hk.elim
   |data=>
    simp only at hk;split at hk
    ·rename_i hfr;obtain⟨r,hp,hk⟩: ∃r,a0j P AZ g (Af xs) r/\K r st.h []:=hk;exact pure hp (.refl hr.sim) hr.sim.sblk (fun _ _ h=>h) (back (by simpa using hargs.1) hfr toL) hk
    ·exact hk.elim
   |share=>
    simp only at hk;obtain⟨xs',h',S1,hk,k1,hl',hv'⟩:=b1x hr.sim (vs:=(us++args.map a.eval++cs).toList) (by simpa using hargs.1) toL hk;split at hk
    ·rename_i hfr;obtain⟨r,hp,hk⟩: ∃r,a0j P AZ g (Af xs') r/\K r h' []:=hk;exact pure hp k1.chg k1.sim.sblk (fun _ _ h=>h) (back hl' hfr hv') hk
    ·exact hk.elim
   |fresh=>
    simp only at hk;obtain⟨xs',h',S1,hk,k1,hl',hv'⟩:=b1x hr.sim (vs:=(us++args.map a.eval++cs).toList) (by simpa using hargs.1) toL hk;split at hk
    ·rename_i hfr;obtain⟨hent,hcall⟩:e0c P g (Af xs') fun x os=>K (x.shift (a3q h')) (a2u h' (a9s (a3q h') os)) []:=hk;refine a8v hop hv hent (hcall w S1 _ k1.sim.sblk (back hl' hfr hv')|>.mono fun e w' he=> ?_) (R:=fun v w'=> ∃x os S' ρ',K (x.shift (a3q h')) (a2u h' (a9s (a3q h') os)) []/\VR w' S' ρ' x v/\BS w' S' ρ' os/\(∀b,S1 b->S' b)/\(∀b,S' b->S1 b\/w.heap.size<=b)/\
      (∀l b C,ρ' l=AD (AD b,C)->w.heap.size<=b)/\d6d w w') fun v w' hR=> ?_
     ·obtain⟨v,x,os,S',ρ',h2,h3⟩:=he;exact⟨v,h2,x,os,S',ρ',h3⟩
     ·obtain⟨x,os,S',ρ',h3,h4,h5,h6,h7,h8,h9⟩:=hR;obtain⟨ρ2,c2,hρ2⟩:=d6g k1.sim h5 h6 h7 h8 h9;rw[a0u,a0r] at h3;exact hn _ _ [] v w' S' ρ2 h3 (k1.chg.trans0 c2) (h4.shift h'.length hρ2)
    ·exact hk.elim
   |raw=>
    simp only at hk;obtain⟨hent,hcall⟩:a1h P g (Af xs) st.h fun pg v h''=>K v h'' pg:=hk;refine a8v hop hv hent (hcall w S ρ _ hr.sim hargs.norm|>.mono fun e w' he=> ?_) (R:=fun v w'=> ∃x pg h'' S' ρ',K x h'' pg/\VR w' S' ρ' x v/\BS w' S' ρ' h''/\Ext w S ρ w' S' ρ'/\st.h.length<=h''.length/\ ∀l,l<st.h.length->l∉pg->ρ' l=ρ l) fun v w' hR=> ?_
    ·obtain⟨v,x,pg,h'',S',ρ',h2,h3⟩:=he;exact⟨v,h2,x,pg,h'',S',ρ',h3⟩
    ·obtain⟨x,pg,h'',S',ρ',h3,h4,h5,h6,h7,h8⟩:=hR;refine hn x h'' pg v w' S' ρ' h3 ⟨h5,h7,h6,fun m p hm hp=> ?_,fun m hm hpg=>h8 m hm hpg⟩ h4;have hlt:m<st.h.length:=by refine Aw fun hle=> ?_;rw[hr.sim.fresh hle] at hp;cases hp
     rw[h8 m hlt hm];exact hp
 ·rename_i l e1;rw[e1] at h0;split at hk
  ·generalize hv:a.eval F=v at h0;cases h0 with
   |yl _ b C hρ=>
    have hargs:BE w S ρ (Af (b2j st.ts as)) (args.map a.eval):=h1.norm;have hk:b5d P l (Af (b2j st.ts as)) st.h fun pg v h''=>K v h'' pg:=hk;obtain⟨fn,tmps,assign,body,hy,hR⟩:=hk w S ρ _ b C hr.sim hargs hρ;refine⟨fun f _=>a5w ro f,?_⟩;rw[a5a,Oper.semAt_eq ro a.eval o (fun c h=>by rw[hop] at h;cases h)];have hrun:(AT a.eval o).run P w= .ok (.round b fn tmps assign body) w:=by simp[AT,hop,BA,hv,Deferred.ofValue,BJ,hy]
    rw[hrun,Oper.uponIn_round];refine⟨(fun h=>by rw[b1e] at h;cases h),?_⟩;have hR': ∀R,RoundIn Fence.wide 0 P b fn tmps assign body w R->RoundIn (a3i ro) 0 P b fn tmps assign body w R:=by
     cases ro with
     |none=>exact fun _ h=>h
     |some l=>exact fun _ h=>h
    refine (hR' _ hR).mono fun e w' he=> ?_;obtain⟨v,x,pg,h'',S',ρ',rfl,h3,h4,h5,h6,h7,h8⟩:=he;refine hn x h'' pg v w' S' ρ' h3 ⟨h5,h7,h6,fun m p hm hp=> ?_,fun m hm hpg=>h8 m hm hpg⟩ h4;have hlt:m<st.h.length:=by refine Aw fun hle=> ?_;rw[hr.sim.fresh hle] at hp;cases hp
    rw[h8 m hlt hm];exact hp
  ·exact hk.elim
 ·exact hk.elim
end
theorem d6o (off:Nat): ∀(l:List AK) (k:Nat) (cells:Array AK),off+k+l.length<=cells.size->
 (l.zipIdx k).foldl (fun (cs:Array AK) (p:AK×Nat)=>cs.setIfInBounds (off+p.2) p.1) cells=(cells.toList.take (off+k)++l++cells.toList.drop (off+k+l.length)).toArray:=by
 intro l
 induction l with
 |nil=>intro k cells _;simp
 |cons v l ih=>
  intro k cells h;simp only[List.zipIdx_cons,List.foldl_cons];simp at h;rw[ih (k+1) _ (by simp;omega)];apply BN;simp only[Array.toList_setIfInBounds];apply List.ext_getElem?;intro i;simp only[AL,BC];by_cases h1:i<off+k
  ·rw[AB (by simp;omega),AB (by simp;omega),AN (by omega),AN (by omega),Ab (by omega)]
  ·by_cases h2:i=off+k
   ·subst h2;rw[AB (by simp;omega),AN (by omega),A3 (by simp;omega),AC (by simp;omega)];simp only[AH];rw[show off+k-min (off+k) cells.toList.length=0 by simp;omega];rfl
   ·by_cases h3:i<off+k+(l.length+1)
    ·rw[AC (by simp;omega),AB (by simp;omega),AC (by simp;omega)];simp only[AH,BD];rw[show min (off+k) cells.toList.length=off+k by simp;omega,show min (off+(k+1)) cells.toList.length=off+k+1 by simp;omega];rw[show i-(off+k)=(i-(off+k+1))+1 by omega];simp only[List.cons_append,List.getElem?_cons_succ];rw[AB (by omega)]
    ·rw[AC (by simp;omega),AC (by simp;omega),AC (by simp;omega),AC (by simp;omega)];simp only[AH,BD,As,BC];rw[Ab (by omega)];congr 1;simp;omega
section
variable {P:Program} {A:Ann} {ro:Option Nat} {E:Ent} {c:Nat} {o:Oper} {io:IOp} {st:St} {K:AV->List a0f->List Nat->Prop}
 {a:Act} {w:Ah} {S:Nat->Prop} {ρ:BV} {h:List a0f}
theorem e2m {cs new r:List AV}{vs nv:Array AK}{off:Nat}(h1:BE w S ρ cs vs)(h2:BE w S ρ new nv)(hp:b7y cs off new=AD r):
 off+nv.size<=vs.size/\BE w S ρ r (vs.toList.take off++nv.toList++vs.toList.drop (off+nv.toList.length)).toArray:=by
 obtain⟨hle,rfl⟩:=b5h _ _ _ _ hp;have e1:=h1.1;have e2:=h2.1;have e3:nv.toList.length=nv.size:=by simp
 have e4:vs.toList.length=vs.size:=by simp
 refine⟨by omega,by simp;omega,fun i z u hz hu=> ?_⟩;simp only[AR] at hu;by_cases hi1:i<off
 ·rw[AL,AB (by simp;omega),AN hi1] at hz hu;exact h1.2 i z u hz (by simpa using hu)
 ·by_cases hi2:i<off+new.length
  ·rw[AL,AC (by simp;omega),AB (by simp;omega)] at hz hu;simp only[AH] at hz hu;rw[show min off cs.length=off by omega] at hz;rw[show min off vs.toList.length=off by omega] at hu;exact h2.2 _ z u hz (by simpa using hu)
  ·rw[AC (by simp;omega),As] at hz hu;simp only[AY,AH] at hz hu;rw[show off+new.length+(i-(min off cs.length+new.length))=i by omega] at hz;rw[show off+nv.toList.length+(i-(min off vs.toList.length+nv.toList.length))=i by omega] at hu;exact h1.2 i z u hz (by simpa using hu)
theorem a9n (vs:Array AK)(off:Nat)(cells:Array AK)(h:off+vs.size<=cells.size):
 vs.zipIdx.foldl (fun cs (x:AK×Nat)=>cs.setIfInBounds (off+x.2) x.1) cells=(cells.toList.take off++vs.toList++cells.toList.drop (off+vs.toList.length)).toArray:=by
 have:=d6o off vs.toList 0 cells (by simpa using h);simp only[Nat.add_zero] at this;rw[<-this,<-Array.foldl_toList];congr 1;simp
theorem d8j {b2u:Nat->Option (Nat×Nat)}{ts:List AV}(hts:BE w S ρ ts a.tmps): ∀{ps:List (Nat×AS)} {l:List (Nat×Nat×a0h)} {cs r:List AV} {vs:Array AK},
 (ps.mapM fun ix=>do let os<-b2u ix.1;pure (os.1,os.2,<-a0g ix.2))=AD l->BE w S ρ cs vs->b2r ts cs l=AD r->
 ∃vs',Ag b2u vs (ps.map fun ix=>(ix.1,a.eval ix.2))=AD vs'/\BE w S ρ r vs':=by
 intro ps
 induction ps with
 |nil=>intro l cs r vs hl hv hf;simp at hl;subst hl;simp[b2r] at hf;subst hf;exact⟨vs,by simp[Ag],hv⟩
 |cons p ps ih=>
  intro l cs r vs hl hv hf;simp[BF,AO] at hl;obtain⟨_,_,_,⟨off,sz,hpl,x,hx,rfl,rfl,rfl⟩,l',hl',rfl⟩:=hl;have hxv:=a0t hts hx;simp only[b2r,a0u] at hf;split at hf
  ·rename_i hch;simp only[Av] at hch;have hsz:=AI hch.1;obtain⟨g1,g2⟩:=a7d hxv hch.2;split at hf
   ·rename_i cs' hput;obtain⟨hle,hv'⟩:=e2m hv ⟨g1,g2⟩ hput;obtain⟨vs',h3,h4⟩:=ih (by simpa using hl') hv' hf;refine⟨vs',?_,h4⟩;have e1:(a.eval p.2).cells.size=sz:=by omega
    simp only[BL,Ag,hpl];rw[if_neg (by simp[e1];omega)];rw[<-h3];congr 1;exact a9n _ off vs hle
   ·cases hf
  ·cases hf
theorem d9d {t:Aa}{ps:Array (Nat×AS)}(hop:o.op= .build t ps){zs:List DV}{b2u:Nat->Option (Nat×Nat)}{l:List (Nat×Nat×a0h)}(hz:a5d P t=AD zs)(hp:b9j P t=AD b2u)
 (hl:(ps.toList.mapM fun ix=>do let os<-b2u ix.1;pure (os.1,os.2,<-a0g ix.2))=AD l) (hk:a0a (Ak P A ro E) (.build zs l) st K) (hr:BO E st a w S ρ):BK P o a w S ρ st.h K:=by
 obtain⟨i,z,hi,hz0,hd⟩:=a5f hz;obtain⟨g1,g2⟩:=a4y hd;simp only[a0a,a5m] at hk;split at hk
 ·rename_i cs hf;have hzv:BE w S ρ (zs.map AV.d) z.cells:=by refine⟨by simpa using g1,fun i x v hx hv=> ?_⟩;simp at hx;obtain⟨y,hy,rfl⟩:=hx;exact .d (g2 w S i y v hy hv)
  obtain⟨vs',h3,h4⟩:=d8j hr.ts hl hzv hf;refine .same hr.sim (v:= .agg vs') ?_ hk (.agg cs vs' h4.1 h4.2);have hb:P.built t (ps.map fun ix=>(ix.1,a.eval ix.2)).toList=AD vs':=by
   unfold b9j at hp;unfold Program.built;split at hp
   ·rename_i fs hu;split at hp
    ·rename_i pl hpl;cases hp;simp only[hi,hu,hz0,hpl];simpa using h3
    ·cases hp
   ·rename_i n e hu;split at hp
    ·rename_i ie hie;cases hp;simp only[hi,hu,hz0,hie];simpa using h3
    ·cases hp
   ·cases hp
  have:=run_build w t (ps.map fun ix=>(ix.1,a.eval ix.2)) vs' hb;simp[AT,hop,this]
 ·exact hk.elim
end
section
variable {P:Program} {A:Ann} {ro:Option Nat} {E:Ent} {c:Nat} {o:Oper} {io:IOp} {st:St} {K:AV->List a0f->List Nat->Prop}
 {a:Act} {w:Ah} {S:Nat->Prop} {ρ:BV} {h:List a0f}
theorem c2r {sz n C:Nat}{es:Nat->List DV}{vs:Array AK}{e:Aa}(hs:BS w S ρ h){w2:Ah}(hh:w2.heap=w.heap.push (.cells vs e))(hos:w2.os=w.os)(htp:w2.tape=w.tape/\w.drawn<=w2.drawn)(hout:w2.output=w.output)
 (hr1:vs.size=C*sz) (hle:n<=C) (hr2: ∀i,i<n->(es i).length=sz/\ ∀(j:Nat) (x:DV) (u:AK),(es i)[j]? =AD x->vs[i*sz+j]? =AD u->DVR w S x u):
 BX w S ρ h w2 (fun b=>S b\/b=w.heap.size) ρ h []/\VR w2 (fun b=>S b\/b=w.heap.size) ρ (.d (.sl sz n es)) (.slice (AD ⟨w.heap.size,0,AM⟩) n C):=by
 have hold': ∀b,b<w.heap.size->w2.heap[b]? =w.heap[b]? :=fun b hb=>by rw[hh,Ai,if_neg (by omega)]
 have hS': ∀b,S b->w2.heap[b]? =w.heap[b]? :=fun b hb=>hold' b (hs.sblk b hb);have hlast:w2.heap[w.heap.size]? =AD (.cells vs e (0,0)):=by rw[hh];simp
 refine⟨⟨⟨fun b hb=> ?_,fun l ob C hl=> ?_,hs.inj,fun l b C ao hl hao hf=> ?_⟩,AF _,⟨hos,htp,hout,by rw[hh];simp,fun _ h=> .inl h,hS',fun b hb=> ?_,fun b hb _=>hold' b hb,fun l b C hl=> .inr ⟨l,C,hl⟩⟩,fun _ _ _ h=>h,fun _ _ _=>rfl⟩,.d ?_⟩
 ·rw[hh];simp;rcases hb with hb|hb
  ·have:=hs.sblk b hb;omega
  ·omega
 ·obtain⟨o',h1,h2⟩:=hs.obj l ob C hl;refine⟨o',h1,?_⟩;cases ob with
  |none=>exact h2
  |some b=>exact a0z.mono (fun _ h=> .inl h) hS' (fun _ _ h=>h) (hold' b (hs.blk hl)) h2
 ·intro hb;rcases hb with hb|hb
  ·exact hs.own l b C ao hl hao hf hb
  ·have:=hs.blk hl;omega
 ·rcases hb with hb|hb
  ·exact .inl hb
  ·exact .inr (.inl (by omega))
 ·have hlt: ∀i j,i<n->j<sz->i*sz+j<vs.size:=by intro i j hi hj;rw[hr1];have:(i+1)*sz<=C*sz:=AP _ (by omega);rw[AU] at this;omega
  refine .sl sz n _ w.heap.size 0 C (fun i j=>vs.getD (i*sz+j) BY) (fun _=> .inr rfl) hle (fun i hi=>(hr2 i hi).1) (fun i hi j hj=> ?_) (fun i hi j x hx=> ?_)
  ·rw[BR hlast,Aq];exact getD_some _ _ (hlt i j hi hj)
  ·have hj:j<sz:=by have:=(AA.1 hx).1;rw[(hr2 i hi).1] at this;exact this
   exact ((hr2 i hi).2 j x _ hx (getD_some _ _ (hlt i j hi hj))).mono (fun _ h=> .inl h) hS'
theorem c9m {sz n C:Nat}{es:Nat->List DV}{vs:Array AK}{e:Aa}(hs:BS w S ρ h){w2:Ah}(hh:w2.heap=w.heap.push (.cells vs e))(hos:w2.os=w.os)(htp:w2.tape=w.tape/\w.drawn<=w2.drawn)(hout:w2.output=w.output)
 (hr1:vs.size=C*sz) (hle:n<=C) (hr2: ∀i,i<n->(es i).length=sz/\ ∀(j:Nat) (x:DV) (u:AK),(es i)[j]? =AD x->vs[i*sz+j]? =AD u->DVR w S x u):
 ∃ρ',BX w S ρ h w2 S ρ' (h++[.arr sz n es]) []/\VR w2 S ρ' (.msl h.length sz AM n AZ) (.slice (AD ⟨w.heap.size,0,AM⟩) n C):=by
 have hfresh:ρ h.length=AM:=hs.fresh (AF _);have k:=Chg.new hs hfresh (.cells vs e) (.arr sz n es) C (fun w' hw'=>⟨vs,e,by rw[hw'];simp,hr1,hle,fun i hi=>⟨(hr2 i hi).1,fun j x u hx hu=>((hr2 i hi).2 j x u hx hu).mono (fun _ h=>h) fun b hb=>by
  rw[hw',Ai,if_neg];have:=hs.sblk b hb;omega⟩⟩)
 exact⟨_,k.world (w2:=w2) hh hos htp hout,.msl _ _ AM _ AZ (AD w.heap.size) C _ _ (by simp) (by simpa using hle) (by simp) (by simp)⟩
def d2z (w:Ah)(S:Nat->Prop)(ρ:BV)(sz n:Nat)(rs:List (List AV))(vs:Array AK):Prop:=
 rs.length=n/\vs.size=n*sz/\ ∀(i:Nat) (r:List AV),rs[i]? =AD r->r.length=sz/\ ∀(j:Nat) (x:AV) (v:AK),r[j]? =AD x->vs[i*sz+j]? =AD v->VR w S ρ x v
theorem d6f {sz n:Nat}{ts:List AV}(hts:BE w S ρ ts a.tmps): ∀{ps:List (Nat×AS)} {l:List (Nat×a0h)} {rs r:List (List AV)} {vs:Array AK},
 (ps.mapM fun ix=>do pure (ix.1,<-a0g ix.2))=AD l->d2z w S ρ sz n rs vs->a8q ts sz rs l=AD r->
 ∃vs',Ag (fun i=>AD (i*sz,sz)) vs (ps.map fun ix=>(ix.1,a.eval ix.2))=AD vs'/\d2z w S ρ sz n r vs':=by
 intro ps
 induction ps with
 |nil=>intro l rs r vs hl hv hf;simp at hl;subst hl;simp[a8q] at hf;subst hf;exact⟨vs,by simp[Ag],hv⟩
 |cons p ps ih=>
  intro l rs r vs hl hv hf;simp[BF,AO] at hl;obtain⟨_,x,⟨hx,rfl⟩,l',hl',rfl⟩:=hl;have hxv:=a0t hts hx;simp only[a8q,a0u,a0i,a0l] at hf;split at hf
  ·rename_i hch;simp only[Av] at hch;have hsz:=AI hch.1;obtain⟨g1,g2⟩:=a7d hxv hch.2;split at hf
   ·rename_i r0 hr0;obtain⟨e1,e2,e3⟩:=hv;have hi:p.1<n:=by rw[<-e1];exact (AA.1 hr0).1
    have hb:p.1*sz+sz<=n*sz:=by have:(p.1+1)*sz<=n*sz:=AP _ (by omega);rw[AU] at this;omega
    have e4:(a.eval p.2).cells.size=sz:=by omega
    have e5:(a.eval p.2).cells.toList.length=sz:=by simpa using e4
    have hv':d2z w S ρ sz n (rs.set p.1 (opd ts x).cells) (vs.toList.take (p.1*sz)++(a.eval p.2).cells.toList++vs.toList.drop (p.1*sz+(a.eval p.2).cells.toList.length)).toArray:=by
     refine⟨by simpa using e1,by simp only[At,AY,AH,Au,AQ];omega,fun i rr hrr=> ?_⟩;have hin:i<n:=by have:=(AA.1 hrr).1;simp at this;omega
     by_cases hip:i=p.1
     ·subst hip;rw[A3 (by omega)] at hrr;cases hrr;refine⟨hsz,fun j y v hy hv=>g2 j y v hy ?_⟩;have hj:j<sz:=by rw[<-hsz];exact (AA.1 hy).1
      simp only[AR] at hv;rw[AL,AC (by simp;omega),AB (by simp only[AH,AQ] at*;omega)] at hv;rw[show p.1*sz+j-(A2 (p.1*sz) vs.toList).length=j by simp only[AH,AQ];omega] at hv;simpa using hv
     ·rw[Ab (Ne.symm hip)] at hrr;obtain⟨h5,h6⟩:=e3 i rr hrr;refine⟨h5,fun j y v hy hv=>h6 j y v hy ?_⟩;have hj:j<sz:=by rw[<-h5];exact (AA.1 hy).1
      simp only[AR] at hv;rcases Nat.lt_or_gt_of_ne hip with h7|h7
      ·have:(i+1)*sz<=p.1*sz:=AP _ (by omega);rw[AU] at this;rw[AL,AB (by simp only[AH,AQ];omega),AN (by omega)] at hv;simpa using hv
      ·have:(p.1+1)*sz<=i*sz:=AP _ (by omega);rw[AU] at this;rw[AC (by simp only[AY,AH,AQ] at*;omega),As] at hv;rw[show p.1*sz+(a.eval p.2).cells.toList.length+(i*sz+j-(A2 (p.1*sz) vs.toList++(a.eval p.2).cells.toList).length)=i*sz+j by simp only[AY,AH,AQ] at*;omega] at hv;simpa using hv
    obtain⟨vs',h3,h4⟩:=ih (by simpa using hl') hv' hf;refine⟨vs',?_,h4⟩;simp only[BL,Ag];rw[if_neg (by simp[e4];omega)];rw[<-h3];congr 1;exact a9n _ _ vs (by omega)
   ·cases hf
  ·cases hf
theorem c9e {sz:Nat}{rs:List (List AV)}: ∀{h:List a0f} {S:Nat->Prop} {rows:Nat->List AK} {K:List (List DV)->List a0f->Prop},BS w S ρ h->
 (∀i r,rs[i]? =AD r->r.length=sz/\(rows i).length=sz/\ ∀(j:Nat) (x:AV) (v:AK),r[j]? =AD x->(rows i)[j]? =AD v->VR w S ρ x v)->a4s (Ak P A ro E) h rs K->
 ∃rs' h' S',K rs' h'/\Frz w S ρ h S' h'/\rs'.length=rs.length/\ ∀i r,rs'[i]? =AD r->r.length=sz/\ ∀(j:Nat) (x:DV) (v:AK),r[j]? =AD x->(rows i)[j]? =AD v->DVR w S' x v:=by
 induction rs with
 |nil=>intro h S rows K hs _ hk;exact⟨[],h,S,hk,.refl hs,rfl,by simp⟩
 |cons r rs ih=>
  intro h S rows K hs hv hk;obtain⟨h1,h1',h2⟩:=hv 0 r (by simp);simp only[a4s] at hk;obtain⟨cs,h3,S3,hk,k3,hl3,hv3⟩:=a5l hs (vs:=rows 0) (by omega) h2 hk;split at hk
  ·rename_i l hl;obtain⟨g1,g2⟩:=d1o hl;obtain⟨rs',h4,S4,hk,k4,hl4,hv4⟩:=ih (rows:=fun i=>rows (i+1)) k3.sim (fun i r hr=>by
    obtain⟨h5,h6,h7⟩:=hv (i+1) r (by simpa using hr);exact⟨h5,h6,fun j x v hx hv=>k3.vr (h7 j x v hx hv)⟩) hk
   refine⟨_,h4,S4,hk,k3.trans k4,by simp[hl4],fun i r' hr'=> ?_⟩;cases i with
   |zero=>simp at hr';subst hr';refine⟨by omega,fun j x v hx hv=> ?_⟩;obtain⟨y,hy,hyr⟩:=g2 j x hx;exact hyr (k4.vr (hv3 j _ v hy hv))
   |succ i=>simp at hr';exact hv4 i r' hr'
  ·exact hk.elim
theorem b9u {Sg:Sig}{cs:List AV}{h:List a0f}: ∀{l:List DV} {K:List AV->List a0f->Prop},dvs cs=AD l->K cs h->a3t Sg h cs K:=by
 induction cs with
 |nil=>intro l K _ hk;exact hk
 |cons c cs ih=>
  intro l K hd hk;have hc: ∀{K:AV->List a0f->Prop},K c h->a2m Sg h c K:=by
   intro K hk;unfold dvs at hd;split at hd
   ·rename_i heq;cases heq
   ·rename_i heq;cases heq;exact hk
   ·rename_i heq;cases heq;exact hk
   ·cases hd
  have hd': ∃l',dvs cs=AD l':=by
   unfold dvs at hd;split at hd
   ·rename_i heq;cases heq
   ·rename_i heq;cases heq;split at hd
    ·rename_i l' hl';exact⟨l',hl'⟩
    ·cases hd
   ·rename_i heq;cases heq;split at hd
    ·rename_i l' hl';exact⟨l',hl'⟩
    ·cases hd
   ·cases hd
  obtain⟨l',hl'⟩:=hd';exact hc (ih hl' hk)
theorem c0y {Sg:Sig}{rs:List (List AV)}{h:List a0f}: ∀{rows:List (List DV)} {K:List (List DV)->List a0f->Prop},d9t rs=AD rows->K rows h->a4s Sg h rs K:=by
 induction rs with
 |nil=>intro rows K hd hk;cases hd;exact hk
 |cons r rs ih=>
  intro rows K hd hk;unfold d9t at hd;split at hd
  ·rename_i l ls h1 h2;cases hd;refine b9u h1 ?_;rw[h1];exact ih h2 hk
  ·cases hd
theorem c9n {Sg:Sig}{sz n:Nat}{zs:List DV}{l:List (Nat×a0h)}{st:St}{K:AV->List a0f->List Nat->Prop}(hk:a0a Sg (.bsliceP sz n zs l) st K):a0a Sg (.bslice sz n zs l AZ) st K:=by
 simp only[a0a] at hk⊢;split at hk
 ·split at hk
  ·rename_i h1;refine c0y h1 ?_;exact hk
  ·exact hk.elim
 ·exact hk.elim
theorem c3b {t e:Aa}{n:Nat}{ps:Array (Nat×AS)}(hop:o.op= .buildSlice t n ps)(ht:P.underlying t=AD (.slice e)){sz:Nat}{zs:List DV}(hsz:a1x P e=AD sz)(hz:a5d P e=AD zs)
 (hzl:zs.length=sz) (hsm:n*sz<=1000000) {l:List (Nat×a0h)} (hl:(ps.toList.mapM fun ix=>do pure (ix.1,<-a0g ix.2))=AD l) {mu:Bool}
 (hk:a0a (Ak P A ro E) (.bslice sz n zs l mu) st K) (hr:BO E st a w S ρ):BK P o a w S ρ st.h K:=by
 obtain⟨hn0,hszr⟩:=a1s hsz;obtain⟨i,z,hi,hz0,hd⟩:=a5f hz;obtain⟨d1,d2⟩:=a4y hd;simp only[a0a,a5m,a7i] at hk;split at hk
 ·rename_i rs hf;have h0:d2z w S ρ sz n (List.replicate n (zs.map AV.d)) ((A6 (n*sz)).map (z.cells[· % z.cells.size]!)):=by
   refine⟨by simp,by simp,fun i' r hr'=> ?_⟩;have hi':i'<n:=by have:=(AA.1 hr').1;simpa using this
   rw[List.getElem?_replicate] at hr';simp[hi'] at hr';subst hr';refine⟨by simpa using hzl,fun j x v hx hv=> ?_⟩;simp at hx;obtain⟨y,hy,rfl⟩:=hx;exact .d (a2r hd hzl n S w i' hi' j y v hy hv)
  obtain⟨vs,hfill,e1,e2,e3⟩:=d6f hr.ts hl h0 hf;have hfill':Ag (fun i=>AD (i*sz,sz)) ((A6 (n*sz)).map (z.cells[· % z.cells.size]!)) (ps.map fun ix=>(ix.1,a.eval ix.2)).toList=AD vs:=by simpa using hfill
  have hrun:(AT a.eval o).run P w= .ok (.value (.slice (AD ⟨w.heap.size,0,AM⟩) n n)) (w.alloc (.cells vs e)):=by
   have hb: ¬n*sz>16777216:=by omega
   have r0: ∀f:Nat->AK,(A6 0).map f= #[]:=fun f=>by apply BN;simp
   by_cases hm:n*sz=0
   ·have hf0:Ag (fun i=>AD (i*sz,sz)) (#[]:Array AK) (ps.map fun ix=>(ix.1,a.eval ix.2)).toList=AD vs:=by rw[hm,r0] at hfill';exact hfill'
    simp at hf0;simp[AT,hop,BB,AE ht,hszr,hm,r0,hf0,newRow]
   ·simp at hfill';simp[AT,hop,BB,AE ht,hszr,hb,hm,a3m hi hz0,hfill',newRow]
  have hrow: ∀i',i'<n-> ∃r,rs[i']? =AD r:=fun i' hi'=>⟨rs[i']'(by omega),AW (by omega)⟩;have hlt: ∀i' j,i'<n->j<sz->i'*sz+j<vs.size:=by intro i' j hi' hj;rw[e2];have:(i'+1)*sz<=n*sz:=AP _ (by omega);rw[AU] at this;omega
  obtain⟨rs',h',S',hk,k,hl',hv'⟩:=c9e hr.sim (sz:=sz) (rows:=fun i'=>(List.range sz).map fun j=>vs.getD (i'*sz+j) BY) (fun i' r hr'=>by
   have hi':i'<n:=by rw[<-e1];exact (AA.1 hr').1
   obtain⟨h5,h6⟩:=e3 i' r hr';refine⟨h5,by simp,fun j x v hx hv=>h6 j x v hx ?_⟩;have hj:j<sz:=by rw[<-h5];exact (AA.1 hx).1
   simp only[AJ,Ar hj,Ap,Option.some.injEq] at hv;subst hv;exact getD_some _ _ (hlt i' j hi' hj)) hk
  have hes: ∀i',i'<n->(rowAt rs' i').length=sz/\ ∀(j:Nat) (x:DV) (u:AK),(rowAt rs' i')[j]? =AD x->vs[i'*sz+j]? =AD u->DVR w S' x u:=by
   intro i' hi';have hx':rs'[i']? =AD (rs'[i']'(by omega)):=AW (by omega);rw[a1k,hx'];obtain⟨h5,h6⟩:=hv' i' _ hx';refine⟨h5,fun j x u hx hu=>h6 j x u hx ?_⟩;have hj:j<sz:=by have:=(AA.1 hx).1;simp only[Option.getD_some] at this;rw[h5] at this;exact this
   simp only[AJ,Ar hj,Ap];rw[getD_some _ _ (hlt i' j hi' hj)] at hu;exact hu
  have c1:=k.chg;cases mu with
  |true=>simp only[if_true,a0u,a0r] at hk;obtain⟨ρ',c2,hv2⟩:=c9m k.sim (w2:=w.alloc (.cells vs e)) rfl rfl ⟨rfl,AF _⟩ rfl e2 (AF n) hes;exact⟨_,_,_,_,[],S',ρ',.inl hrun,hk,⟨c2.sim,A5 c1.len c2.len,c1.ext.trans c2.ext,fun m p _ hp=>c2.keep m p (by simp) hp,fun m hm _=>c2.low m (Am hm c1.len) (by simp)⟩,hv2⟩
  |false=>simp only[Bool.false_eq_true,if_false] at hk;obtain⟨c2,hv2⟩:=c2r k.sim (w2:=w.alloc (.cells vs e)) rfl rfl ⟨rfl,AF _⟩ rfl e2 (AF n) hes;exact⟨_,_,_,_,[],_,ρ,.inl hrun,hk,⟨c2.sim,A5 c1.len c2.len,c1.ext.trans c2.ext,fun _ _ _ hp=>hp,fun _ _ _=>rfl⟩,hv2⟩
 ·exact hk.elim
end
end Go.Vf
