/- Parts of the proof: Mf. Conditions: none. -/
import Derived.Test.YtbglklaocjifhaaGreatEMe
import Derived.Scope
open Option renaming bind_eq_some_iff->AA,some->AB,bind_eq_bind->AE,pure_def->AG,none->Ac,getD_some->At,map_some->Aw
open Go.Region renaming wanted->AC,ready->Ai
open Option.some renaming injEq->AD
open List renaming pairwise_cons->AF,getElem?_eq_some_iff->AH,mem_cons_of_mem->AL,mem_append_left->AM,all_eq_true->AN,mem_cons->AP,mem_append->AQ,mem_range->AZ,mem_filter->Ad,getElem?_append_left->Ah,mem_map->Aj,mem_append_right->Al,pairwise_append->An,getElem?_set_ne->Ao,length_append->Au,any_eq_true->Ay
open List.Sublist renaming refl->AI
open Bool renaming true->AJ,and_eq_true->AO,or_eq_true->AR,not_eq_true'->AS,false->Aa,not_true->Az,false_or->A2
open Array renaming getElem?_eq_some_iff->AK,getElem?_toList->AT,getD_eq_getD_getElem?->AW,getElem?_eq_getElem->Af,range->Am,getElem?_push->Ap,all_eq_true'->Ar,ext'->A4
open Nat renaming le_refl->AU,le_of_ble_eq_true->AY,blt_eq->A6
open Go renaming World->AX,yielded->Ab,Oper->Ag,TypeId->Ak,execOp->Av,undef->A3,newRow->A5,wpOpsIn->A7,Operand->A8,Act->A9
open Go.Vf renaming std->Ae,Rel->As,Rho->BA
open Go.Result renaming andThen_ok->Aq,andThen->Ax
set_option linter.unusedSimpArgs false
set_option linter.unusedVariables false
namespace Go.Vf
open Go
section
variable {P:Program} {A:Ann} {ro:Option Nat} {E:Ent} {base:Nat}
theorem b1l {st:St}{k k2:Prop}(hkk:k->k2){F F':List a0m}(hs:F'.Sublist F):a1b (Ae P A ro E) base st k F->a1b (Ae P A ro E) base st k2 F':=by
 induction hs with
 |slnil=>intro hk;exact hkk hk
 |cons r hs ih=>
  intro hk;rw[a2i] at hk;by_cases hkl:r.o.op.kl= .r
  ·rw[if_pos hkl] at hk;split at hk
   ·split at hk
    ·obtain⟨v,hv,_⟩:=b7h hkl hk;cases hr:r.o.dst with
     |none=>rw[hr] at hv;exact ih hv
     |some d=>rw[hr] at hv;exact ih hv.2
    ·exact hk.elim
   ·exact ih hk
   ·exact hk.elim
  ·rw[if_neg hkl] at hk;exact ih hk
 |cons_cons r hs ih=>
  intro hk;rw[a2i] at hk⊢;by_cases hkl:r.o.op.kl= .r
  ·rw[if_pos hkl] at hk⊢;split at hk
   ·split at hk
    ·rename_i hav;simp only[if_pos hav];refine a4n (fun v _ _ hk=> ?_) hk;cases hr:r.o.dst with
     |none=>rw[hr] at hk;exact ih hk
     |some d=>rw[hr] at hk;exact⟨hk.1,ih hk.2⟩
    ·exact hk.elim
   ·exact ih hk
   ·exact hk.elim
  ·rw[if_neg hkl] at hk⊢;exact ih hk
theorem c8p {pg:List Nat}{ts:List AV}{F F':List a0m}(hs:F'.Sublist F):a7a pg ts F=AJ->a7a pg ts F'=AJ:=by
 induction hs with
 |slnil=>exact id
 |cons r hs ih=>
  intro h;simp only[a7a] at h;split at h
  ·split at h
   ·exact ih h
   ·cases h
  ·cases h
 |cons_cons r hs ih=>
  intro h;simp only[a7a] at h⊢;split at h
  ·rename_i h1;rw[if_pos h1];split at h
   ·rename_i h2;rw[if_pos h2];exact ih h
   ·cases h
  ·cases h
theorem b0w {d:a0m}{F F':List a0m}(hs:F'.Sublist F):(a4b d F').Sublist (a4b d F):=by
 induction hs with
 |slnil=>exact .slnil
 |cons r hs ih=>
  simp only[a4b];split
  ·exact ih
  ·exact .cons _ ih
 |cons_cons r hs ih=>
  simp only[a4b];split
  ·exact ih
  ·exact .cons_cons _ ih
theorem c8t {d:a0m}{F F':List a0m}(hs:F'.Sublist F):(a8e d F').Sublist (a8e d F):=by
 unfold a8e;split
 ·exact .cons_cons _ hs
 ·exact hs
theorem b1m {d:a0m}{F F':List a0m}(hs:F'.Sublist F){st:St}{K K':St->Prop}(hK: ∀st,K st->K' st)(hk:b1f (Ae P A ro E) base F d st K):b1f (Ae P A ro E) base F' d st K':=by
 rw[a4t] at hk⊢;split at hk
 ·unfold evD at hk⊢;split at hk
  ·obtain⟨v,ob,hv,hd⟩:=b7p hk;exact hd (fun _ _=>rfl) (hK _ hv)
  ·split at hk
   ·rename_i hav;simp only[if_pos hav];refine a4n (fun v h pg hk=> ?_) hk;cases pg with
    |nil=>exact b1l (hK _) (b0w hs) hk
    |cons x pg=>
     simp only at hk⊢;split at hk
     ·rename_i ha;rw[if_pos ha];exact hK _ hk
     ·rename_i ha;rw[if_neg ha];split at hk
      ·rename_i hb;rw[if_pos hb];split at hk
       ·rename_i hc;rw[if_pos (c8p (b0w hs) hc)];exact b1l (hK _) (b0w hs) hk
       ·exact hk.elim
      ·exact hk.elim
   ·exact hk.elim
  ·split at hk
   ·rename_i hav;simp only[if_pos hav];exact a4n (fun v h pg hk=>hK _ hk) hk
   ·exact hk.elim
  ·exact a4n (fun v h pg hk=>hK _ hk) hk
 ·exact hK _ hk
 ·exact hk.elim
theorem d1d {K K':St->Prop}(hK: ∀st,K st->K' st): ∀{ds F F':List a0m},F'.Sublist F-> ∀{st:St},evR (Ae P A ro E) base F ds st K->evR (Ae P A ro E) base F' ds st K':=by
 intro ds
 induction ds with
 |nil=>intro F F' _ st hk;exact hK _ hk
 |cons d ds ih=>intro F F' hs st hk;exact b1m hs (fun st hk=>ih (c8t hs) hk) hk
theorem e2s {K:St->Prop}{j:a0m}{post:List a0m}: ∀{pre F:List a0m} {st:St},(∀p,p∈pre->May p j)->(j.o.op.kl= .m-> ∀r,r∈F-> ∀p,p∈pre->e6o r p)->
 (j.o.op.kl= .m->pre.Pairwise e6o)->evR (Ae P A ro E) base F (pre++j::post) st K->b1f (Ae P A ro E) base F j st fun st1=>evR (Ae P A ro E) base F (pre++post) st1 K:=by
 intro pre
 induction pre with
 |nil=>
  intro F st _ _ _ hk;refine b1m (AI _) (fun st hk=> ?_) hk;refine d1d (fun _ h=>h) ?_ hk;unfold a8e;split
  ·exact .cons _ (AI _)
  ·exact AI _
 |cons p pre ih=>
  intro F st hm hF hp hk;have hk:b1f (Ae P A ro E) base F p st fun st1=>b1f (Ae P A ro E) base (a8e p F) j st1 fun st2=>evR (Ae P A ro E) base (a8e p F) (pre++post) st2 K:=by
   refine b1m (AI _) (fun st hk=> ?_) hk;refine ih (fun q hq=>hm q (AL _ hq)) (fun hj r hr q hq=> ?_) (fun hj=>(AF.1 (hp hj)).2) hk;unfold a8e at hr;split at hr
   ·rcases AP.1 hr with rfl|hr
    ·exact (AF.1 (hp hj)).1 q hq
    ·exact hF hj r hr q (AL _ hq)
   ·exact hF hj r hr q (AL _ hq)
  by_cases hj:j.o.op.kl= .m
  ·exact e4b (hm p (by simp)) hj (fun r hr=>hF hj r hr p (by simp)) hk
  ·exact d3j (hm p (by simp)) hj hk
end
theorem Sim.at {w:AX}{S:Nat->Prop}{ρ:BA}{h:List a0f}(s:Sim w S ρ h){l:Nat}(hl:l<h.length)(hρl:ρ l=Ac)(o:Obj)(ao:a0f)(C:Nat)
 (ho: ∀w':AX,w'.heap=w.heap.push o->a0z w' S ρ w.heap.size C ao):
 Sim {w with heap:=w.heap.push o} S (fun m=>if m=l then AB (AB w.heap.size,C) else ρ m) (h.set l ao)/\
  Ext w S ρ {w with heap:=w.heap.push o} S (fun m=>if m=l then AB (AB w.heap.size,C) else ρ m):=by
 have hold: ∀b,b<w.heap.size->(w.heap.push o)[b]? =w.heap[b]? :=fun b hb=>by rw[Ap,if_neg (by omega)]
 have hρ: ∀m p,ρ m=AB p->(if m=l then AB (AB w.heap.size,C) else ρ m)=AB p:=by intro m p hm;rw[if_neg (fun e=>by subst e;simp[hρl] at hm)];exact hm
 refine⟨⟨fun b hb=> ?_,fun m ob C' hm=> ?_,fun m m' b C1 C2 h1 h2=> ?_,fun m b C' ao' hm hao hf=> ?_⟩,⟨rfl,⟨rfl,AU _⟩,rfl,by simp,fun _ h=>h,fun b hb=>hold b (s.sblk b hb),fun _ h=> .inl h,fun b hb _=>hold b hb,fun m b C' hm=> ?_⟩⟩
 ·have:=s.sblk b hb;simp;omega
 ·by_cases e:m=l
  ·rw[if_pos e] at hm;cases hm;refine⟨ao,by simp[e,hl],?_⟩;show a0z _ _ _ _ _ _;exact (ho {w with heap:=w.heap.push o} rfl).mono (fun _ h=>h) (fun _ _=>rfl) hρ rfl
  ·rw[if_neg e] at hm;obtain⟨o',h1,h2⟩:=s.obj m ob C' hm;refine⟨o',by rw[Ao (Ne.symm e)];exact h1,?_⟩;cases ob with
   |none=>exact h2
   |some b=>exact a0z.mono (fun _ h=>h) (fun b hb=>hold b (s.sblk b hb)) hρ (hold b (s.blk hm)) h2
 ·by_cases e1:m=l<;>by_cases e2:m'=l
  ·rw[e1,e2]
  ·rw[if_pos e1] at h1;rw[if_neg e2] at h2;cases h1;have:=s.blk h2;omega
  ·rw[if_neg e1] at h1;rw[if_pos e2] at h2;cases h2;have:=s.blk h1;omega
  ·rw[if_neg e1] at h1;rw[if_neg e2] at h2;exact s.inj m m' b C1 C2 h1 h2
 ·by_cases e:m=l
  ·rw[if_pos e] at hm;cases hm;intro hs;have:=s.sblk _ hs;omega
  ·rw[if_neg e] at hm;rw[Ao (Ne.symm e)] at hao;exact s.own m b C' ao' hm hao hf
 ·by_cases e:m=l
  ·rw[if_pos e] at hm;cases hm;exact .inl (AU _)
  ·rw[if_neg e] at hm;exact .inr ⟨m,C',hm⟩
section
variable {P:Program} {A:Ann} {ro:Option Nat} {E:Ent} {c:Nat} {o:Ag} {io:IOp} {st:St}
 {a:A9} {w:AX} {S:Nat->Prop} {ρ:BA} {l:Nat} {K:AV->a0f->Prop}
def d6l (P:Program)(o:Ag)(a:A9)(w:AX)(S:Nat->Prop)(ρ:BA)(l:Nat)(K:AV->a0f->Prop):Prop:=
 ∃v oo C x ob,(Av a.eval o).run P w= .ok (.value v) {w with heap:=w.heap.push oo}/\K x ob/\(∀w':AX,w'.heap=w.heap.push oo->a0z w' S ρ w.heap.size C ob)/\
  ∀(w':AX) (S':Nat->Prop) (ρ':BA),ρ' l=AB (AB w.heap.size,C)->VR w' S' ρ' x v
theorem d6s {t:Ak}(hop:o.op= .alloc t)(hc:a0y P c o=AB io)(hk:a4a (Ae P A ro E) l io st K):d6l P o a w S ρ l K:=by
 simp[a0y,hop,AA] at hc;obtain⟨zs,hz,rfl⟩:=hc;obtain⟨i,z,hi,hz0,hd⟩:=a5f hz;obtain⟨hl,hv⟩:=a4y hd;simp only[a4a,a5m] at hk;refine⟨.pointer (AB ⟨w.heap.size,0,Ac⟩),.cells z.cells t,0,_,_,?_,hk,fun w' hw'=>⟨z.cells,t,?_,by simp[hl],?_⟩,fun w' S' ρ' h=> .ptr _ 0 _ _ h⟩
 ·simp[Av,hop,Instr.alloc,newVar,A5,a3m hi hz0,Ax]
 ·rw[hw'];simp
 ·intro j x u hx hu;simp at hx;obtain⟨y,hy,rfl⟩:=hx;exact .d (hv _ _ j y u hy hu)
theorem e8t {t:Ak}{X:A8}(hop:o.op= .box t X)(hc:a0y P c o=AB io)(hk:a4a (Ae P A ro E) l io st K)(hr:As E st a w S ρ):d6l P o a w S ρ l K:=by
 simp[a0y,hop,AA] at hc;obtain⟨x,hx,rfl⟩:=hc;have h0:=a0t hr.ts hx;simp only[a4a] at hk;split at hk
 ·rename_i h1;obtain⟨hl,hv⟩:=a7d h0 h1;refine⟨.pointer (AB ⟨w.heap.size,0,Ac⟩),.cells (a.eval X).cells t,0,_,_,?_,hk,fun w' hw'=>⟨(a.eval X).cells,t,?_,hl.symm,?_⟩,fun w' S' ρ' h=> .ptr _ 0 _ _ h⟩
  ·simp[Av,hop,Instr.box,newVar,A5,Ax]
  ·rw[hw'];simp
  ·intro j y u hy hu;refine (hv j y u hy hu).mono (fun _ h=>h) (fun b hb=> ?_) (fun _ _ h=>h);rw[hw',Ap,if_neg];have:=hr.sim.sblk b hb;omega
 ·exact hk.elim
theorem d8t {t:Ak}(hop:o.op= .makeMap t Ac){wide:Bool}{ks:List IntKind}(hk:a4a (Ae P A ro E) l (.mkmap wide ks) st K):d6l P o a w S ρ l K:=by simp only[a4a] at hk;refine⟨.map (AB w.heap.size),.map #[] 0,0,_,_,?_,hk,fun w' hw'=>⟨#[],0,by rw[hw'];simp,⟨rfl,by simp,by simp,fun k=>rfl,by simp⟩⟩,fun w' S' ρ' h=> .map _ _ _ h⟩;simp[Av,hop,Instr.makeMap]
theorem c2e {t:Ak}(hop:o.op= .makeMap t Ac){wide:Bool}{ks:List IntKind}(hk:a4a (Ae P A ro E) l (.mkmapv wide ks) st K):d6l P o a w S ρ l K:=by simp only[a4a] at hk;refine⟨.map (AB w.heap.size),.map #[] 0,0,_,_,?_,hk,fun w' hw'=>⟨#[],0,by rw[hw'];simp,⟨rfl,by simp,by simp,by simp,by simp⟩,⟨rfl,rfl⟩,by simp⟩,fun w' S' ρ' h=> .map _ _ _ h⟩;simp[Av,hop,Instr.makeMap]
theorem b7z {t:Ak}{N M:A8}(hop:o.op= .makeSlice t N M)(hNM:a.eval N=a.eval M){e:Ak}(he:P.underlying t=AB (.slice e)){sz b:Nat}{zs:List DV}(hsz:a1x P e=AB sz)
 (hz:a5d P e=AB zs) (hb:a5j P e=AB b) (hzl:zs.length=sz) (hb':b<=250) {x:a0h} (hx:a0g N=AB x)
 (hk:a4a (Ae P A ro E) l (.mkslice sz zs b x) st K) (hr:As E st a w S ρ):d6l P o a w S ρ l K:=by
 obtain⟨hn0,hszr⟩:=a1s hsz;obtain⟨i,z,hi,hz0,hd⟩:=a5f hz;obtain⟨i',hi',hbi⟩:=b4v hb;rw[hi] at hi';cases hi';have h0:=a0t hr.ts hx;simp only[a4a] at hk;obtain⟨n,hn,hk⟩:=a6l h0 hk;obtain⟨h1,h2,hk⟩:(0<=n.val)/\(n.val<=(big:Nat))/\_:=hk;rw[a0o] at hk;simp only[big] at h2;obtain⟨hl,hv⟩:=a4y hd;have hw:IntKind.i64.wrap n.val=n.val:=b3n h1 (by omega);have hnn:((n.val.toNat:Nat):Int)=n.val:=Int.toNat_of_nonneg h1;have hbn:((b:Nat):Int)*n.val<=281474976710656:=by
  have hb0:(0:Int)<=(b:Int):=Int.natCast_nonneg _;have hb1:(b:Int)<=250:=by omega
  have h3:=Int.mul_le_mul_of_nonneg_right hb1 h1;omega
 refine⟨.slice (AB ⟨w.heap.size,0,Ac⟩) n.val.toNat n.val.toNat,.cells ((Am (n.val.toNat*sz)).map (z.cells[· % z.cells.size]!)) e,n.val.toNat,_,_,?_,hk,
  fun w' hw'=>⟨(Am (n.val.toNat*sz)).map (z.cells[· % z.cells.size]!),e,by rw[hw'];simp,by simp,AU _,fun i hi=>by rw[show (Ae P A ro E).rep n.val.toNat zs i=zs from if_pos hi];exact⟨hzl,fun j y u hy hu=>a2r hd hzl _ S w' i hi j y u hy hu⟩⟩,
  fun w' S' ρ' h=> .msl _ _ Ac _ Aa (AB w.heap.size) n.val.toNat _ _ h (by simp) (by simp) (by simp)⟩
 have hti:(typeInfo e).run P w= .ok i w:=by simp[typeInfo,hi]
 simp only[Av,hop,<-hNM,hn,Instr.makeSlice,Sem.run_bind,run_underlying he,Aq,asInt,asIntOf,Sem.run_pure,hti,hw,hbi];rw[if_neg (by
  simp only[AR,decide_eq_true_eq];omega)]
 simp only[Aq,Sem.run_bind,run_askRoom,hszr];have r0: ∀f:Nat->Value,(Am 0).map f= #[]:=fun f=>by apply A4;simp
 by_cases hm:n.val.toNat*sz=0
 ·simp[hm,A5,r0]
 ·simp[hm,A5,a3m hi hz0]
theorem e1o {t e:Ak}{ps:Array (Nat×A8)}(hop:o.op= .buildSlice t 0 ps)(hps:ps.toList=[])(ht:P.underlying t=AB (.slice e)){sz:Nat}(hsz:a1x P e=AB sz)
 (hk:a4a (Ae P A ro E) l (.bnew sz) st K):d6l P o a w S ρ l K:=by
 simp only[a4a] at hk;refine⟨.slice (AB ⟨w.heap.size,0,Ac⟩) 0 0,.cells #[] e,0,_,_,d0l hop hps ht hsz,hk,fun w' hw'=>⟨#[],e,by rw[hw'];simp,by simp,AU _,fun i hi=>by omega⟩,
  fun w' S' ρ' h=> .msl _ _ Ac _ Aa (AB w.heap.size) 0 _ _ h (by simp) (by simp) (by simp)⟩
end
section
variable {P:Program} {A:Ann} {ro:Option Nat} {E:Ent} {c:Nat} {o:Ag} {io:IOp} {st:St}
 {a:A9} {w:AX} {S:Nat->Prop} {ρ:BA} {l:Nat} {K:AV->a0f->Prop}
section
variable {Q:Exit->A9->AX->Prop}
theorem Rel.put (r:As E st a w S ρ)(dst:Option Nat){x:AV}{v:Value}(hv:VR w S ρ x v):As E (st.put dst x) (a.put dst v) w S ρ:=
 r.step (Chg.refl r.sim) dst hv
theorem Rel.setb (r:As E st a w S ρ){j:Nat}{b:Bool}(h:a1a st.ts j=AB (.d (.bool b))):As E (st.setb j b) a w S ρ/\a.tmps[j]? =AB (.bool b):=by
 rw[a0i] at h;have hlt:=(AH.1 h).1;have hlt':j<a.tmps.size:=by rw[<-r.ts.1];exact hlt
 have hv:=r.ts.2 j _ a.tmps[j] h (by simp[hlt']);have hb:=hv.bool;have hj:a.tmps[j]? =AB (.bool b):=by rw[<-hb];simp[hlt']
 refine⟨?_,hj⟩;have:=r.put (AB j) hv;have e:a.put (AB j) a.tmps[j]=a:=by
  cases a with
  |mk tmps defers=>
   simp only[Act.put];congr 1;apply A4;have hj':j<tmps.toList.length:=by simpa using hlt'
   simp only[Array.toList_setIfInBounds];rw[show tmps[j]=tmps.toList[j] by simp];exact List.set_getElem_self hj'
 rw[e] at this;exact this
theorem b1v {ops:Array Ag}{tmps:Array Value}{j d:Nat}{oj:Ag}(h:ops[j]? =AB oj)(hd:oj.dst=AB d):Ab ops tmps j=match tmps[d]? with|some (.bool b)=>AB b|_=>Ac:=by simp[Ab,h,hd];rfl
end
theorem i2d {base lim:Nat}: ∀{pg:List Nat},h6l.go base lim pg=AJ-> ∀l,l∈pg->l<base\/lim<=l:=by
 intro pg
 induction pg with
 |nil=>intro _ l h;cases h
 |cons x pg ih=>
  intro h l hl;simp only[h6l.go] at h;split at h
  ·rename_i hx;rcases AP.1 hl with rfl|hl
   ·exact .inl (by simpa [A6] using hx)
   ·exact ih h l hl
  ·split at h
   ·rename_i hx;rcases AP.1 hl with rfl|hl
    ·exact .inr (AY hx)
    ·exact ih h l hl
   ·cases h
theorem h8q {base s:Nat}{pg:List Nat}(h:h6l base s pg=AJ): ∀l,l∈pg->l<base\/base+s<=l:=by
 unfold h6l at h;split at h
 ·intro l _;omega
 ·exact fun l hl=>i2d h l hl
theorem d6w {f:a0h}{as:List a0h}{m:Mode}:(IOp.call f as m).kl≠ .a:=by cases m<;>simp[IOp.kl]
theorem c0p (hc:b7f P c o=AB io)(hkl:io.kl= .a)(hk:a4a (Ae P A ro E) l io st K)(hr:As E st a w S ρ):d6l P o a w S ρ l K/\ ∀c,o.op≠ .defer c:=by
 unfold b7f at hc;split at hc
 case h_2=>cases hc;cases hkl
 rename_i io' hc1;cases hc;have hc:=hc1;have hc0:=hc;unfold a0y at hc;split at hc
 case h_7 t n ps heq=>
  simp only[AE,AA,AG] at hc;obtain⟨e,he,sz,hsz,zs,hz,hc⟩:=hc;split at hc
  ·rename_i hcond;simp only[AA] at hc;obtain⟨l,hl,hc⟩:=hc;split at hc
   ·split at hc
    ·cases hc;cases hkl
    ·cases hc
   split at hc
   ·split at hc
    ·cases hc;cases hkl
    ·cases hc
   split at hc
   ·rename_i hn;split at hc
    ·rename_i hle;cases hc;obtain⟨rfl,_⟩:=hn;have hps:ps.toList=[]:=by
      have hle:l=[]:=by simpa using hle
      subst hle;cases hp:ps.toList with
      |nil=>rfl
      |cons q qs=>rw[hp] at hl;simp[AA] at hl
     exact⟨e1o heq hps (a0n he) hsz hk,fun c h=>by rw[heq] at h;cases h⟩
    ·cases hc
   split at hc
   ·split at hc
    ·cases hc;cases hkl
    ·cases hc
   ·split at hc
    ·cases hc;cases hkl
    ·cases hc;cases hkl
  ·cases hc
 case h_4 heq=>exact⟨d6s heq hc0 hk,fun c h=>by rw[heq] at h;cases h⟩
 case h_5 heq=>exact⟨e8t heq hc0 hk hr,fun c h=>by rw[heq] at h;cases h⟩
 case h_15 t heq=>
  simp only[AE,AA,AG,AD] at hc;obtain⟨⟨k,e⟩,hm,⟨wide,ks⟩,hk0,hc⟩:=hc;split at hc
  ·cases hc;exact⟨c2e heq hk,fun c h=>by rw[heq] at h;cases h⟩
  split at hc
  ·cases hc;exact⟨d8t heq hk,fun c h=>by rw[heq] at h;cases h⟩
  ·cases hc;exact⟨c2e heq hk,fun c h=>by rw[heq] at h;cases h⟩
 case h_16 t N M heq=>
  simp only[AE,AA] at hc;obtain⟨e,he,sz,hsz,zs,hz,b,hb,x,hx,hc⟩:=hc;split at hc
  ·split at hc
   ·rename_i i j hcond;cases hc;exact⟨b7z heq (by rw[hcond.1]) (a0n he) hsz hz hb hcond.2.1 hcond.2.2 hx hk hr,fun c h=>by rw[heq] at h;cases h⟩
   ·cases hc
  ·split at hc
   ·rename_i i j hcond;cases hc;exact⟨b7z heq (by rw[hcond.1]) (a0n he) hsz hz hb hcond.2.1 hcond.2.2 hx hk hr,fun c h=>by rw[heq] at h;cases h⟩
   ·cases hc
  ·cases hc
 all_goals exfalso
 all_goals try unfold b0f at hc
 all_goals try unfold d6q at hc
 all_goals try simp only[AE,AA,AG,AD] at hc
 all_goals repeat' first
  |(cases hkl;done)
  |(cases hc;done)
  |(subst hc)
  |(obtain⟨_,_,hc⟩:=hc)
  |(split at hc)
  |(simp only[AA,AD] at hc)
  |(unfold c0x at hkl;split at hkl<;>cases hkl;done)
  |(unfold b6q at hc;simp only[AE,AG] at hc)
  |exact absurd hkl d6w
theorem c4i (hl:OkP P){r base i:Nat}{ops:Array Ag}{d:a0m}{F:List a0m}{K:St->Prop}{next:A9->AX->Prop}{Q:Exit->A9->AX->Prop}(hc:c0z P A r ops i o=AB d.o)(hk:b1f (Ae P A ro E) base F d st K)(hr:As E st a w S ρ)
 (hF:F=[]) (hsl:d.o.op.kl= .a->ρ (base+d.slot)=Ac/\base+d.slot<st.h.length) (hb:E.base<=base)
 (hn: ∀st' a' w' S' ρ',K st'->As E st' a' w' S' ρ'->st.h.length<=st'.h.length->((d.o.op.kl= .m->d.alone=Aa)-> ∀m,base<=m->m<st.h.length->(d.o.op.kl= .m->m<base+d.slot)->(d.o.op.kl= .a->m≠base+d.slot)->ρ' m=ρ m)->next a' w'):
 if AC o (Ab ops a.tmps) then o.wpIn (a3i ro) 0 P a w next Q else (∀f,o.about P w a.eval=AB f->(a3i ro).fn f)/\next (a.put o.dst A3) w:=by
 subst hF;simp only[c0z,AE,AA] at hc;obtain⟨op,hop,hc⟩:=hc;have e0:d.o.dst=o.dst/\d.o.op=op:=by
  split at hc
  ·simp at hc;rw[<-hc];exact⟨rfl,rfl⟩
  ·simp only[AA,AG,AD] at hc;obtain⟨oj,hj,dd,hd,hc⟩:=hc;rw[<-hc];exact⟨rfl,rfl⟩
 obtain⟨e1,e2⟩:=e0;have run:evD (Ae P A ro E) base [] d st K->o.wpIn (a3i ro) 0 P a w next Q:=by
  intro hk;unfold evD at hk;rw[e1,e2] at hk;split at hk
  ·rename_i ha;obtain⟨⟨v,oo,C,x,ob,hrun,hk,hh,hv⟩,hnd⟩:=c0p hop ha hk hr;obtain⟨h1,h2⟩:=hsl (by rw[e2];exact ha);obtain⟨h3,h4⟩:=hr.sim.at h2 h1 oo ob C hh;refine⟨fun f _=>a5w ro f,?_⟩;rw[a5a,Oper.semAt_eq ro a.eval o hnd,hrun];refine hn _ _ _ S (fun m=>if m=base+d.slot then AB (AB w.heap.size,C) else ρ m) hk ?_ (by rw[a6v];simp[St.setH,a0l]) (fun _ m _ hm _ hne=>by rw[if_neg (hne (by rw[e2];exact ha))]);have hvr:VRs {w with heap:=w.heap.push oo} S (fun m=>if m=base+d.slot then AB (AB w.heap.size,C) else ρ m) st.ts a.tmps:=by refine⟨hr.ts.1,fun i y u hy hu=>(hr.ts.2 i y u hy hu).mono h4.mono h4.cell fun m p hm=> ?_⟩;rw[if_neg (fun e=>by subst e;rw[h1] at hm;cases hm)];exact hm
   have r1:As E (st.setH (a2x st.h (base+d.slot) ob)) a {w with heap:=w.heap.push oo} S (fun m=>if m=base+d.slot then AB (AB w.heap.size,C) else ρ m):=by refine⟨hvr,hr.ds.ext h4,by simp only[St.setH,a0l];exact h3,hr.ext.trans h4,fun m hm hnm=> ?_,by simpa [St.setH,a0l] using hr.len⟩;rw[if_neg (by omega)];exact hr.keep m hm hnm
   exact r1.put o.dst (hv _ S _ (by simp))
  ·rename_i hmm;split at hk
   ·refine a6e hl hop hk hr fun x h' pg v w' S' ρ' hk hc hv=> ?_;have rr:=hr.step hc o.dst hv;cases pg with
    |nil=>have rr:As E ((st.setH h').put o.dst x) (a.put o.dst v) w' S' ρ':=rr;have hk:K ((st.setH h').put o.dst x):=hk;exact hn _ _ _ _ _ hk rr (by rw[a6v];exact hc.len) fun _ m _ hm _ _=>hc.low m hm (by simp)
    |cons y pg=>
     simp only at hk;split at hk
     ·rename_i hal;refine hn _ _ _ _ _ hk rr ?_ fun h=> ?_
      ·rw[a6v,(a1r _ _).2];exact hc.len
      ·rw[e2] at h;rw[h hmm] at hal;cases hal
     ·split at hk
      ·rename_i hlt;split at hk
       ·have hk:K ((((st.setH h').purge (y::pg))).put o.dst x):=hk;refine hn _ _ _ _ _ hk rr (by rw[a6v,(a1r _ _).2];exact hc.len) fun _ m hb hm hs _=>hc.low m hm fun hmem=> ?_;have h1:=h8q hlt m hmem;have h2:=hs (by rw[e2];exact hmm);omega
       ·exact hk.elim
      ·exact hk.elim
   ·exact hk.elim
  ·rename_i hrr;split at hk
   ·obtain⟨v0,hk,hd⟩:=b7h hrr hk;have hk:a0a (Ae P A ro E) op st fun v h' pg=>h'=st.h/\pg=[]/\K (st.put o.dst v):=hd (fun _ _ _ _=>rfl) ⟨rfl,rfl,hk⟩;refine a6e hl hop hk hr fun x h' pg v w' S' ρ' hk hc hv=> ?_;obtain⟨rfl,rfl,hk⟩:=hk;exact hn _ _ _ _ _ hk (hr.step hc o.dst hv) (by rw[a6v];exact AU _) fun _ m _ hm _ _=>hc.low m hm (by simp)
   ·exact hk.elim
  ·rename_i h1 h2 h3;have hip:op.kl= .i\/op.kl= .p:=by
    cases hx:op.kl
    ·exact .inl rfl
    ·exact absurd hx h3
    ·exact absurd hx h1
    ·exact .inr rfl
    ·exact absurd hx h2
   obtain⟨v0,hk,hd⟩:=c6f hip hk;have hk:a0a (Ae P A ro E) op st fun v h' pg=>h'=st.h/\pg=[]/\K (st.put o.dst v):=hd ⟨rfl,rfl,hk⟩;refine a6e hl hop hk hr fun x h' pg v w' S' ρ' hk hc hv=> ?_;obtain⟨rfl,rfl,hk⟩:=hk;exact hn _ _ _ _ _ hk (hr.step hc o.dst hv) (by rw[a6v];exact AU _) fun _ m _ hm _ _=>hc.low m hm (by simp)
 have skp:K (st.put o.dst .und)->(∀f,o.about P w a.eval=AB f->(a3i ro).fn f)/\next (a.put o.dst A3) w:=
  fun hk=>⟨fun f _=>a5w ro f,hn _ _ _ S ρ hk (hr.put o.dst .und) (by rw[a6v];exact AU _) fun _ _ _ _ _ _=>rfl⟩
 rw[a4t,e1] at hk;split at hc
 ·rename_i hg;simp at hc;have:gst d.o st.ts=AB AJ:=by simp[gst,<-hc]
  rw[this] at hk;have:AC o (Ab ops a.tmps)=AJ:=by simp[AC,hg]
  rw[if_pos this];exact run hk
 ·rename_i j want hg;simp only[AA,AG,AD] at hc;obtain⟨oj,hj,dd,hd,hc⟩:=hc;have hgs:gst d.o st.ts=match a1a st.ts dd with|some (.d (.bool b))=>AB (b==want)|some .und=>AB Aa|_=>Ac:=by rw[<-hc];rfl
  have hy:=b1v (tmps:=a.tmps) hj hd;rw[hgs] at hk;cases hb:a1a st.ts dd with
  |none=>rw[hb] at hk;exact hk.elim
  |some z=>
   rw[hb] at hk;have hlt:dd<a.tmps.size:=by rw[<-hr.ts.1];rw[a0i] at hb;exact (AH.1 hb).1
   have hv:=hr.ts.2 dd z a.tmps[dd] (by rw[<-a0i];exact hb) (by simp[hlt]);cases z with
   |d x=>
    cases x with
    |bool b=>
     have hbt:a.tmps[dd]? =AB (.bool b):=by rw[<-hv.bool];simp[hlt]
     rw[hbt] at hy;simp only at hy hk;cases hbw:(b==want) with
     |true=>rw[hbw] at hk;rw[if_pos (by simp[AC,hg,hy];simpa using hbw)];exact run hk
     |false=>rw[hbw] at hk;rw[if_neg (by simp[AC,hg,hy];simpa using hbw)];exact skp hk
    |_=>exact hk.elim
   |und=>
    have hu:a.tmps[dd]? =AB A3:=by generalize hx:a.tmps[dd]=v at hv;cases hv;rw[Af hlt,hx]
    rw[hu] at hy;have hy:Ab ops a.tmps j=Ac:=hy;rw[if_neg (by simp[AC,hg,hy])];exact skp hk
   |_=>exact hk.elim
end
theorem a8o {o:a1c}{l:List Nat}(h:c9v o l=Aa): ∀t,o.dst=AB t->t∉l:=by intro t ht hm;unfold c9v at h;rw[ht] at h;simp only at h;rw[a1o.2 hm] at h;cases h
theorem b7j {a b:a1c}(h:c0q a b=Aa): ∀t,a.dst=AB t->b.dst≠AB t:=by intro t ha hb;unfold c0q at h;rw[ha,hb] at h;simp at h
theorem b3o {a b:a0m}(h:c1c a b=AJ):(∀t,b.o.dst=AB t->t∉a.o.uses)/\ ∀t,a.o.dst=AB t->b.o.dst≠AB t:=by simp[c1c] at h;exact⟨a8o h.1,b7j h.2⟩
structure d7t (cl:List (List Nat))(a b:a0m):Prop where
 w:a.watch=AJ->b.watch=AJ->c1c a b=AJ/\(a.o.op.kl= .r->b.o.op.kl= .a->b.slot∈a.av)
 aa:a.o.op.kl= .a->b.o.op.kl= .a->a.slot≠b.slot
 al:a.alone=AJ->b.o.op.kl≠ .a
 ma:a.o.op.kl= .m->b.o.op.kl= .a->b.slot<a.slot
 am:a.o.op.kl= .a->b.o.op.kl= .m->a.slot<b.slot
 o:a.i∈cl.getD b.i []\/(c1c a b=AJ/\e5x a b=AJ)
theorem c5u {cl:List (List Nat)}{a b:a0m}(h:d7c cl a b=AJ):d7t cl a b:=by
 unfold d7c at h;simp only[AO,AR,AS,beq_eq_false_iff_ne,ne_eq,Bool.and_eq_false_iff] at h;obtain⟨⟨⟨⟨⟨h1,h2⟩,h5⟩,h6⟩,h3⟩,h4⟩:=h;refine⟨fun ha hb=> ?_,fun ha hb=> ?_,fun hal hb=> ?_,fun ha hb=> ?_,fun ha hb=> ?_,?_⟩
 ·rcases h1 with h1|h1
  ·rcases h1 with h1|h1
   ·rw[ha] at h1;cases h1
   ·rw[hb] at h1;cases h1
  ·refine⟨h1.1,fun hr hb=> ?_⟩;rcases h1.2 with (h|h)|h
   ·exact absurd hr h
   ·exact absurd hb h
   ·exact a1o.1 h
 ·rcases h2 with h|h
  ·rcases h with h|h
   ·exact absurd hb h
   ·exact absurd ha h
  ·intro e;rw[e] at h;simp at h
 ·rcases h3 with h|h
  ·rw[hal] at h;cases h
  ·exact absurd hb h
 ·rcases h5 with (h|h)|h
  ·exact absurd ha h
  ·exact absurd hb h
  ·exact AY h
 ·rcases h6 with (h|h)|h
  ·exact absurd ha h
  ·exact absurd hb h
  ·exact AY h
 ·rcases h4 with h|h
  ·exact .inl (a1o.1 h)
  ·exact .inr h
theorem d7t.past {cl:List (List Nat)}{a b:a0m}(h:d7t cl a b)(ha:a.watch=AJ)(hb:b.watch=AJ):e6o a b:=by obtain⟨h1,h2⟩:=h.w ha hb;obtain⟨h3,h4⟩:=b3o h1;exact⟨h3,fun t hb ha=>h4 t ha hb,h2⟩
theorem d7t.may {cl:List (List Nat)}{a b:a0m}(h:d7t cl a b)(hn:a.i∉cl.getD b.i [])(hself: ∀t,a.o.dst=AB t->t∉a.o.uses):May a b:=by
 obtain⟨h1,h2⟩:c1c a b=AJ/\e5x a b=AJ:=by
  rcases h.o with h|h
  ·exact absurd h hn
  ·exact h
 obtain⟨h3,h4⟩:=b3o h1;unfold e5x at h2;simp only[AO,AR,AS] at h2;obtain⟨⟨⟨h5,h6⟩,h8⟩,h7⟩:=h2;have hm:b.o.op.kl= .m->a.watch=AJ/\b2l a.i b.bef=Aa:=fun e=>by
  rcases h8 with h8|h8
  ·rw[e] at h8;simp at h8
  ·exact h8
 refine⟨h3,a8o h5,h4,hself,h6,fun e=> ?_,fun e1 e2=> ?_,fun e2=>(hm e2).2,fun e2=>(hm e2).1,fun e1 e2=> ?_,fun e1 e2=> ?_,h.aa⟩
 ·rw[e] at h7;cases h7
 ·rw[e1] at h7;simp only[e2] at h7;exact a1o.1 h7
 ·rw[e1] at h7;simp only[e2] at h7;exact a1o.1 h7
 ·rw[e1] at h7;simp only[e2] at h7;exact a1o.1 h7
def plP (ops:Array Ag)(L:Nat->Prop):List a0m->Prop
 |[]=>True
 |d::ds=>(∀o,ops[d.i]? =AB o-> ∀k,k∈a6u o->L k)/\plP ops (fun k=>L k\/k=d.i) ds
theorem b0c {ops:Array Ag}: ∀{ds:List a0m} {L L':Nat->Prop},(∀k,L k->L' k)->plP ops L ds->plP ops L' ds:=by
 intro ds
 induction ds with
 |nil=>intro _ _ _ _;trivial
 |cons d ds ih=>intro L L' h hp;exact⟨fun o ho k hk=>h k (hp.1 o ho k hk),ih (fun k hk=>hk.imp (h k) id) hp.2⟩
theorem c5j {ops:Array Ag}{j:a0m}{post:List a0m}: ∀{pre:List a0m} {L:Nat->Prop},plP ops L (pre++j::post)->plP ops (fun k=>L k\/k=j.i) (pre++post):=by
 intro pre
 induction pre with
 |nil=>intro L hp;exact hp.2
 |cons d pre ih=>
  intro L hp;refine⟨fun o ho k hk=> .inl (hp.1 o ho k hk),b0c (fun k hk=> ?_) (ih hp.2)⟩;rcases hk with (h|h)|h
  ·exact .inl (.inl h)
  ·exact .inr h
  ·exact .inl (.inr h)
structure d1p (P:Program)(A:Ann)(r:Nat)(ops:Array Ag)(cl:List (List Nat))(listed:Array Bool)(ds:List a0m):Prop where
 size:listed.size=ops.size
 mem: ∀i,i<ops.size->(listed[i]? =AB Aa↔ ∃d,d∈ds/\d.i=i)
 nd:ds.Pairwise (fun a b=>a.i≠b.i)
 comp: ∀d,d∈ds-> ∃o,ops[d.i]? =AB o/\c0z P A r ops d.i o=AB d.o
 pair:ds.Pairwise (d7t cl)
 pl:plP ops (fun k=>listed[k]? =AB AJ) ds
 down: ∀k,listed[k]? =AB AJ-> ∀p,p∈cl.getD k []->listed[p]? =AB AJ
 self: ∀d,d∈ds-> ∀t,d.o.dst=AB t->t∉d.o.uses
theorem a6d {ops:Array Ag}{listed:Array Bool}(hsz:listed.size=ops.size){i:Nat}:i∈Ai .any ops listed↔listed[i]? =AB Aa/\ ∃o,ops[i]? =AB o/\ ∀k,k∈a6u o->listed[k]? =AB AJ:=by
 unfold Ai;simp only[Ad,AZ,AO,AS];have e1: ∀k,listed.getD k Aa=AJ↔listed[k]? =AB AJ:=by
  intro k;simp only[AW];cases listed[k]? with
  |none=>simp
  |some b=>simp
 constructor
 ·rintro⟨hi,h1,h2⟩;have h3:listed[i]? =AB Aa:=by
   simp only[AW] at h1;cases h:listed[i]? with
   |none=>rw[Array.getElem?_eq_none_iff] at h;omega
   |some b=>rw[h] at h1;simp at h1;rw[h1]
  refine⟨h3,ops[i],by simp[hi],fun k hk=> ?_⟩;have ho:ops[i]? =AB ops[i]:=by simp[hi]
  rw[ho] at h2;simp only[Aw,At] at h2;rw[Ar] at h2;simp only[a6u,Aj,Ad] at hk;obtain⟨e,⟨he,hb⟩,rfl⟩:=hk;have:=h2 e (by simpa using he);rw[hb] at this;simp only[Az,A2] at this;exact (e1 _).1 this
 ·rintro⟨h1,o,ho,h2⟩;have hi:i<ops.size:=by rw[<-hsz];exact (AK.1 h1).1
  refine⟨hi,by simp[AW,h1],?_⟩;rw[ho];simp only[Aw,At];rw[Ar];intro e he;cases hb:Region.binds .any e with
  |false=>simp
  |true=>simp only[Az,A2];exact (e1 _).2 (h2 _ (by simp only[a6u,Aj,Ad];exact⟨e,⟨by simpa using he,hb⟩,rfl⟩))
section
variable {P:Program} {A:Ann} {ro:Option Nat} {E:Ent} {base r:Nat} {ops:Array Ag} {cl:List (List Nat)}
theorem d1p.lt {listed:Array Bool}{ds:List a0m}(l:d1p P A r ops cl listed ds){d:a0m}(hd:d∈ds):d.i<ops.size:=by obtain⟨o,ho,_⟩:=l.comp d hd;exact (AK.1 ho).1
theorem d1p.ready {listed:Array Bool}{d:a0m}{ds:List a0m}(l:d1p P A r ops cl listed (d::ds)):d.i∈Ai .any ops listed:=by obtain⟨o,ho,_⟩:=l.comp d (by simp);rw[a6d l.size];exact⟨(l.mem d.i (l.lt (by simp))).2 ⟨d,by simp,rfl⟩,o,ho,l.pl.1 o ho⟩
theorem b5y {listed:Array Bool}{i k:Nat}(hi:i<listed.size):(listed.setIfInBounds i AJ)[k]? =if k=i then AB AJ else listed[k]? :=by
 rw[Array.getElem?_setIfInBounds];by_cases h:k=i
 ·subst h;simp[hi]
 ·rw[if_neg h,if_neg (fun e=>h e.symm)]
theorem d1p.next {listed:Array Bool}{pre post:List a0m}{d:a0m}(l:d1p P A r ops cl listed (pre++d::post))(hcl:a9f ops.toList cl=AJ)(hr:d.i∈Ai .any ops listed):
 d1p P A r ops cl (listed.setIfInBounds d.i AJ) (pre++post):=by
 have hlt:d.i<listed.size:=by rw[l.size];exact l.lt (by simp)
 have hsub:(pre++post).Sublist (pre++d::post):=(AI pre).append (.cons _ (AI _));obtain⟨_,o,ho,hdir⟩:=(a6d l.size).1 hr;have hnd:=An.1 l.nd;have hne: ∀x,x∈pre++post->x.i≠d.i:=by
  intro x hx;rcases AQ.1 hx with hx|hx
  ·exact hnd.2.2 x hx d (by simp)
  ·exact ((AF.1 hnd.2.1).1 x hx).symm
 refine⟨by simp[l.size],fun i hi=> ?_,l.nd.sublist hsub,fun x hx=>l.comp x (hsub.subset hx),l.pair.sublist hsub,?_,fun k hk p hp=> ?_,fun x hx=>l.self x (hsub.subset hx)⟩
 ·rw[b5y hlt];by_cases h:i=d.i
  ·rw[if_pos h];constructor
   ·intro h;cases h
   ·rintro⟨x,hx,rfl⟩;exact absurd h (hne x hx)
  ·rw[if_neg h,l.mem i hi];constructor
   ·rintro⟨x,hx,rfl⟩;refine⟨x,?_,rfl⟩;rcases AQ.1 hx with hx|hx
    ·exact AM _ hx
    ·rcases AP.1 hx with rfl|hx
     ·exact absurd rfl h
     ·exact Al _ hx
   ·rintro⟨x,hx,rfl⟩;exact⟨x,hsub.subset hx,rfl⟩
 ·refine b0c (fun k hk=> ?_) (c5j l.pl);rw[b5y hlt];rcases hk with hk|hk
  ·by_cases h:k=d.i
   ·rw[if_pos h]
   ·rw[if_neg h];exact hk
  ·rw[if_pos hk]
 ·have up: ∀q,listed[q]? =AB AJ->(listed.setIfInBounds d.i AJ)[q]? =AB AJ:=fun q hq=>by
   rw[b5y hlt];split
   ·rfl
   ·exact hq
  rw[b5y hlt] at hk;by_cases h:k=d.i
  ·subst h;have hmem:d.i<ops.size:=l.lt (by simp);unfold a9f at hcl;simp only[AN,AZ] at hcl;have h1:=hcl d.i (by simpa using hmem) p hp;rw[show ops.toList[d.i]? =AB o by rw[AT];exact ho] at h1;simp only[AR,Ay] at h1;rcases h1 with h1|⟨q,hq,h1⟩
   ·exact up p (hdir p (a1o.1 h1))
   ·exact up p (l.down q (hdir q hq) p (a1o.1 h1))
  ·rw[if_neg h] at hk;exact up p (l.down k hk p hp)
theorem c6u {α:Type}{x:α}: ∀{l:List α},x∈l-> ∃pre post,l=pre++x::post:=by
 intro l
 induction l with
 |nil=>intro h;cases h
 |cons y l ih=>
  intro h;rcases AP.1 h with rfl|h
  ·exact⟨[],l,rfl⟩
  ·obtain⟨p,q,rfl⟩:=ih h;exact⟨y::p,q,rfl⟩
theorem d4h (hlay:OkP P){K:St->Prop}{Q:Exit->A9->AX->Prop}(hcl:a9f ops.toList cl=AJ)(hb:E.base<=base)(hn: ∀st a w S ρ,K st->As E st a w S ρ->Q .normal a w):
 ∀(n:Nat) (ds:List a0m) (listed:Array Bool) (st:St) (a:A9) (w:AX) (S:Nat->Prop) (ρ:BA),ds.length=n->d1p P A r ops cl listed ds->evR (Ae P A ro E) base [] ds st K->As E st a w S ρ->
  (∀d,d∈ds->d.o.op.kl= .a->ρ (base+d.slot)=Ac/\base+d.slot<st.h.length)->wpAnyIn (a3i ro) 0 P .any ops Q n listed a w:=by
 intro n
 induction n with
 |zero=>intro ds listed st a w S ρ hlen l hk hr _;have:ds=[]:=List.length_eq_zero_iff.1 hlen;subst this;refine⟨?_,hn st a w S ρ hk hr⟩;refine List.eq_nil_iff_forall_not_mem.2 fun i hi=> ?_;obtain⟨h1,o,ho,_⟩:=(a6d l.size).1 hi;obtain⟨x,hx,_⟩:=(l.mem i (AK.1 ho).1).1 h1;cases hx
 |succ n ih=>
  intro ds listed st a w S ρ hlen l hk hr hsl;refine⟨fun h=> ?_,fun i hi=> ?_⟩
  ·cases ds with
   |nil=>cases hlen
   |cons d ds=>have:=l.ready;rw[h] at this;cases this
  ·obtain⟨h1,o,ho,hdir⟩:=(a6d l.size).1 hi;obtain⟨d,hd,rfl⟩:=(l.mem i (AK.1 ho).1).1 h1;obtain⟨pre,post,rfl⟩:=c6u hd;have hpw:=An.1 l.pair;have hmay: ∀p,p∈pre->May p d:=by
    intro p hp;refine (hpw.2.2 p hp d (by simp)).may (fun hin=> ?_) (l.self p (AM _ hp));have hpl:listed[p.i]? =AB Aa:=(l.mem p.i (l.lt (AM _ hp))).2 ⟨p,AM _ hp,rfl⟩;unfold a9f at hcl;simp only[AN,AZ] at hcl;have h2:=hcl d.i (by simpa using l.lt hd) p.i hin;rw[show ops.toList[d.i]? =AB o by rw[AT];exact ho] at h2;simp only[AR,Ay] at h2;have h3:listed[p.i]? =AB AJ:=by
     rcases h2 with h2|⟨q,hq,h2⟩
     ·exact hdir p.i (a1o.1 h2)
     ·exact l.down q (hdir q hq) p.i (a1o.1 h2)
    rw[hpl] at h3;cases h3
   have hk:=e2s hmay (fun _ r hr=>by cases hr) (fun hj=>hpw.1.imp_of_mem fun {a b} ha hb h=>h.past ((hmay a ha).wt hj) ((hmay b hb).wt hj)) hk;have l':=l.next hcl hi;obtain⟨o',ho',hc⟩:=l.comp d hd;rw[ho] at ho';cases ho';unfold wpOpIn;rw[ho];refine c4i hlay hc hk hr rfl (hsl d hd) hb fun st' a' w' S' ρ' hk' hr' hlen' hρ'=> ?_;refine ih (pre++post) _ st' a' w' S' ρ' (by simp at hlen⊢;omega) l' hk' hr' fun x hx hxa=> ?_;have hx':x∈pre++d::post:=by
    rcases AQ.1 hx with hx|hx
    ·exact AM _ hx
    ·exact Al _ (AL _ hx)
   obtain⟨h4,h5⟩:=hsl x hx' hxa;refine⟨?_,Nat.lt_of_lt_of_le h5 hlen'⟩;rw[hρ' (fun hm=> ?_) _ (Nat.le_add_right _ _) h5 (fun hm=> ?_) (fun ha=> ?_)]
   ·exact h4
   ·rcases AQ.1 hx with hx|hx
    ·exact (hmay x hx).al
    ·have:=(AF.1 hpw.2.1).1 x hx;cases hal:d.alone with
     |false=>rfl
     |true=>exact absurd hxa (this.al hal)
   ·rcases AQ.1 hx with hx|hx
    ·have:=(hpw.2.2 x hx d (by simp)).am hxa hm;omega
    ·have:=((AF.1 hpw.2.1).1 x hx).ma hm hxa;omega
   ·have:x.slot≠d.slot:=by
     rcases AQ.1 hx with hx|hx
     ·exact (hpw.2.2 x hx d (by simp)).aa hxa ha
     ·exact ((AF.1 hpw.2.1).1 x hx).aa ha hxa|>.symm
    omega
end
section
variable {P:Program} {A:Ann} {ro:Option Nat} {E:Ent} {r:Nat} {ops:Array Ag}
theorem c0l: ∀{l:List Ag} {k:Nat} {l':List a1c},a3w P A r ops l k=AB l'-> ∀(i:Nat) (io:a1c),l'[i]? =AB io-> ∃o,l[i]? =AB o/\c0z P A r ops (k+i) o=AB io:=by
 intro l
 induction l with
 |nil=>intro k l' h i io hi;simp[a3w] at h;subst h;simp at hi
 |cons o l ih=>
  intro k l' h i io hi;simp only[a3w,AE,AA,AG,AD] at h;obtain⟨x,hx,xs,hxs,rfl⟩:=h;cases i with
  |zero=>simp at hi;subst hi;exact⟨o,rfl,hx⟩
  |succ i=>simp only[List.getElem?_cons_succ] at hi⊢;obtain⟨o',ho',hc⟩:=ih hxs i io hi;exact⟨o',ho',by rw[show k+(i+1)=k+1+i by omega];exact hc⟩
theorem b6v {l:List Ag}(hl:l=ops.toList): ∀{ds:List a0m} {done:List Nat},b4q l done ds=AJ->ds.Pairwise (fun a b=>a.i≠b.i)/\(∀d,d∈ds->d.i∉done)/\plP ops (fun k=>k∈done) ds:=by
 subst hl;intro ds
 induction ds with
 |nil=>intro done _;exact⟨.nil,by simp,trivial⟩
 |cons d ds ih=>
  intro done h;simp only[b4q,AO,AS] at h;obtain⟨⟨h1,h2⟩,h3⟩:=h;obtain⟨h4,h5,h6⟩:=ih h3;refine⟨AF.2 ⟨fun x hx e=>h5 x hx (by simp[e]),h4⟩,fun x hx=> ?_,fun o ho k hk=> ?_,b0c (fun k hk=> ?_) h6⟩
  ·rcases AP.1 hx with rfl|hx
   ·intro hm;rw[a1o.2 hm] at h2;cases h2
   ·intro hm;exact h5 x hx (AL _ hm)
  ·rw[show ops.toList[d.i]? =AB o by rw[AT];exact ho] at h1;simp only[AN] at h1;exact a1o.1 (h1 k hk)
  ·rcases AP.1 hk with h|h
   ·exact .inr h
   ·exact .inl h
theorem c0c {cl:List (List Nat)}: ∀{ds:List a0m},c2x cl ds=AJ->ds.Pairwise (d7t cl):=by
 intro ds
 induction ds with
 |nil=>intro _;exact .nil
 |cons d ds ih=>intro h;simp only[c2x,AO,AN] at h;exact AF.2 ⟨fun x hx=>c5u (h.1 x hx),ih h.2⟩
theorem b4d {ios:List a1c}{n:Nat}{ds:List a0m}(hios:a3w P A r ops ops.toList 0=AB ios)(h:b0j ops.toList ios=AB (n,ds)):
 ds.length=ops.size/\a9f ops.toList (b4c ops.toList [])=AJ/\d1p P A r ops (b4c ops.toList []) (Array.replicate ops.size Aa) ds/\ ∀d,d∈ds->d.o.op.kl= .a->d.slot<n:=by
 unfold b0j at h;simp only at h;split at h
 ·rename_i hc;obtain⟨h1,h2,h3,h4,h5,h6⟩:=hc;simp only[AD,Prod.mk.injEq] at h;obtain⟨rfl,rfl⟩:=h;obtain⟨h7,_,h8⟩:=b6v rfl h5;simp only[AN,AO,AS,AR] at h6;simp only[AN,AZ] at h2;refine⟨by simpa using h1,h3,⟨by simp,fun i hi=> ?_,h7,fun d hd=> ?_,c0c h4,b0c (fun k hk=>by cases hk) h8,fun k hk=> ?_,fun d hd=>a8o (h6 d hd).1⟩,fun d hd ha=> ?_⟩
  ·constructor
   ·intro _;have:=a1o.1 (h2 i (by simpa using hi));simp only[Aj] at this;exact this
   ·intro _;simp[hi]
  ·have:ios[d.i]? =AB d.o:=by
    unfold d5j at hd;simp only[List.mem_filterMap] at hd;obtain⟨j,_,hj⟩:=hd;split at hj
    ·cases hj
    ·rename_i o ho;simp only[AD] at hj;subst hj;exact ho
   obtain⟨o,ho,hg⟩:=c0l hios d.i d.o this;rw[Nat.zero_add] at hg;exact⟨o,by rw[<-AT];exact ho,hg⟩
  ·rw[Array.getElem?_replicate] at hk;split at hk<;>cases hk
  ·rcases (h6 d hd).2 with h|h
   ·rw[ha] at h;simp at h
   ·exact of_decide_eq_true (by simpa [A6] using h)
 ·cases h
theorem Sim.grow {w:AX}{S:Nat->Prop}{ρ:BA}{h:List a0f}(s:Sim w S ρ h)(m:List a0f):Sim w S ρ (h++m) where
 sblk:=s.sblk
 obj l ob C hl:=by obtain⟨o,h1,h2⟩:=s.obj l ob C hl;exact⟨o,by rw[Ah (AH.1 h1).1];exact h1,h2⟩
 inj:=s.inj
 own l b C o hl ho hf:=by obtain⟨o',h1,_⟩:=s.obj l _ C hl;rw[Ah (AH.1 h1).1] at ho;exact s.own l b C o hl ho hf
theorem d2p {α:Type}(x:α): ∀n,(b8q x n).length=n:=by
 intro n
 induction n with
 |zero=>rfl
 |succ n ih=>simp[b8q,ih]
theorem Rel.drawn {st:St}{a:A9}{w:AX}{S:Nat->Prop}{ρ:BA}(hr:As E st a w S ρ):As E st a {w with drawn:=w.drawn+1} S ρ:=by have k:Chg w S ρ st.h {w with drawn:=w.drawn+1} S ρ st.h []:=(Chg.refl hr.sim).world rfl rfl ⟨rfl,Nat.le_succ _⟩ rfl;exact hr.step k Ac (x:= .any) (v:= .bool AJ) (.any _)
theorem c4p {id:Nat}{n:Nat}{ds:List a0m}{ios:List a1c}(hm:P.follows .mixedOrders=AJ)(hlay:OkP P)(hios:a3w P A id ops ops.toList 0=AB ios)(hd:b0j ops.toList ios=AB (n,ds))
 {Q:Lv->St->Prop} {st:St} (h:ev (Ae P A ro E) (.draw n ds) Q st):AWP P ro E (.region id ops AJ) Q st:=by
 intro a w S ρ hr;obtain⟨h1,h2,h3,h4⟩:=b4d hios hd;refine wpIn_region_any hm ?_;rw[<-h1];simp only[ev] at h;have hr:=hr.drawn;have hb:E.base<=a3q st.h:=by rw[a0u];exact hr.len
 refine d4h hlay (K:=Q .normal) h2 hb (fun st a w S ρ hk hr=>⟨.normal,st,S,ρ,rfl,hk,hr⟩) _ ds _ _ a _ S ρ rfl (by rw[h1];exact h3) h ?_ fun d hd ha=> ?_
 ·refine⟨hr.ts,hr.ds,?_,hr.ext,hr.keep,?_⟩
  ·show Sim _ S ρ (a2u st.h _);rw[a0r];exact hr.sim.grow _
  ·show E.base<=(a2u st.h _).length;rw[a0r,Au];have:=hr.len;omega
 ·refine⟨hr.sim.fresh (by rw[a0u];omega),?_⟩;show _<(a2u st.h _).length;rw[a0r,a0u,Au,d2p];have:=h4 d hd ha;omega
end
section
variable {P:Program} {A:Ann} {ro:Option Nat} {E:Ent} {st:St} {a:A9} {w:AX} {S:Nat->Prop} {ρ:BA} {Q:Exit->A9->AX->Prop}
theorem c0w (hl:OkP P){r:Nat}{ops:Array Ag}{i:Nat}{o:Ag}{io:a1c}{K:St->Prop}{next:A9->AX->Prop}(hc:c0z P A r ops i o=AB io)(hk:c4b (Ae P A ro E) io st K)(hr:As E st a w S ρ)
 (hn: ∀st' a' w' S' ρ',K st'->As E st' a' w' S' ρ'->next a' w'):
 if AC o (Ab ops a.tmps) then o.wpIn (a3i ro) 0 P a w next Q else (∀f,o.about P w a.eval=AB f->(a3i ro).fn f)/\next (a.put o.dst A3) w:=by
 simp only[c0z,AE,AA] at hc;obtain⟨op,hop,hc⟩:=hc;have run: ∀{st:St},As E st a w S ρ->e0g (Ae P A ro E) ⟨o.dst,Ac,op⟩ st K->o.wpIn (a3i ro) 0 P a w next Q:=by intro st hr hk;refine a6e hl hop hk hr fun x h' pg v w' S' ρ' hk hc hv=> ?_;exact hn _ _ _ S' ρ' hk (hr.step hc o.dst hv)
 have skp: ∀{st:St},As E st a w S ρ->K (st.put o.dst .und)->(∀f,o.about P w a.eval=AB f->(a3i ro).fn f)/\next (a.put o.dst A3) w:=
  fun hr hk=>⟨fun f _=>a5w ro f,hn _ _ _ S ρ hk (hr.put o.dst .und)⟩
 split at hc
 ·rename_i hg;simp at hc;subst hc;have:AC o (Ab ops a.tmps)=AJ:=by simp[AC,hg]
  rw[if_pos this];exact run hr hk
 ·rename_i j want hg;simp only[AA,AG,AD] at hc;obtain⟨oj,hj,d,hd,rfl⟩:=hc;simp only[c4b] at hk;have hy:=b1v (tmps:=a.tmps) hj hd;split at hk
  ·rename_i b hb;obtain⟨hr',hbt⟩:=hr.setb hb;rw[hbt] at hy;simp only at hy;cases b with
   |true=>
    simp only at hk;cases want with
    |true=>rw[if_pos (by simp[AC,hg,hy])];exact run hr' hk
    |false=>rw[if_neg (by simp[AC,hg,hy])];exact skp hr' hk
   |false=>
    simp only at hk;cases want with
    |true=>rw[if_neg (by simp[AC,hg,hy])];exact skp hr' hk
    |false=>rw[if_pos (by simp[AC,hg,hy])];exact run hr' hk
  ·rename_i hb;rw[a0i] at hb;have hlt':d<a.tmps.size:=by rw[<-hr.ts.1];exact (AH.1 hb).1
   have hv:=hr.ts.2 d _ a.tmps[d] hb (by simp[hlt']);have hu:a.tmps[d]? =AB A3:=by generalize hx:a.tmps[d]=v at hv;cases hv;rw[Af hlt',hx]
   rw[hu] at hy;have hy:Ab ops a.tmps j=Ac:=hy;rw[if_neg (by simp[AC,hg,hy])];exact skp hr hk
  ·exact hk.elim
theorem c1b (hl:OkP P){r:Nat}{ops:Array Ag}{K:St->Prop}(hn: ∀st' a' w' S' ρ',K st'->As E st' a' w' S' ρ'->Q .normal a' w'): ∀(l:List Ag) (i:Nat) (l':List a1c),ops.toList.drop i=l->a3w P A r ops l i=AB l'->
 ∀{st:St} {a:A9} {w:AX} {S:Nat->Prop} {ρ:BA},d2r (Ae P A ro E) l' st K->As E st a w S ρ->A7 (a3i ro) 0 P ops Q (List.range' i l.length) a w:=by
 intro l
 induction l with
 |nil=>intro i l' hd hc st a w S ρ hk hr;simp[a3w] at hc;subst hc;simp only[List.length_nil,List.range'_zero,A7];exact hn _ _ _ _ _ hk hr
 |cons o l ih=>
  intro i l' hd hc st a w S ρ hk hr;simp only[a3w,AE,AA,AG,AD] at hc;obtain⟨io,hio,ls,hls,rfl⟩:=hc;have hoi:ops[i]? =AB o:=by
   have:(ops.toList.drop i)[0]? =AB o:=by rw[hd];rfl
   simpa using this
  have hd':ops.toList.drop (i+1)=l:=by rw[<-List.drop_drop,hd];rfl
  simp only[List.length_cons,List.range'_succ,A7,hoi];exact c0w hl hio hk hr fun st' a' w' S' ρ' hk' hr'=>ih (i+1) ls hd' hls hk' hr'
theorem a4x (hm:P.follows .mixedOrders=AJ)(hlay:OkP P): ∀(c:Code) (ic:a0c),comp P A c=AB ic-> ∀{Q:Lv->St->Prop} {st:St},ev (Ae P A ro E) ic Q st->AWP P ro E c Q st:=by
 intro c
 induction c with
 |skip=>intro ic hc Q st h a w S ρ hr;simp[comp] at hc;subst hc;exact wpIn_skip ⟨.normal,st,S,ρ,rfl,h,hr⟩
 |region id ops draw=>
  intro ic hc Q st h a w S ρ hr;cases draw with
  |false=>simp[comp,AA] at hc;obtain⟨l,hl,rfl⟩:=hc;refine wpIn_region ?_;rw[List.range_eq_range'];have:=c1b hlay (P:=P) (A:=A) (ro:=ro) (E:=E) (Q:=c7n E Q) (ops:=ops) (K:=fun st=>Q .normal st) (fun st' a' w' S' ρ' hk hr'=>⟨.normal,st',S',ρ',rfl,hk,hr'⟩) ops.toList 0 l rfl hl h hr;simpa using this
  |true=>simp[comp,AA] at hc;obtain⟨l,hl,n,ds,hd,rfl⟩:=hc;exact c4p hm hlay hl hd h a w S ρ hr
 |seq x y ihx ihy=>
  intro ic hc Q st h a w S ρ hr;simp[comp,AA] at hc;obtain⟨ix,hx,iy,hy,rfl⟩:=hc;refine wpIn_seq (wpIn_mono (ihx ix hx h a w S ρ hr) fun e a' w' hp=> ?_);obtain⟨lv,st',S',ρ',h1,h2,h3⟩:=hp;cases lv with
  |normal=>cases e<;>simp[a9d] at h1;exact ihy iy hy h2 a' w' S' ρ' h3
  |exit i=>cases e<;>simp[a9d] at h1;subst h1;exact⟨_,st',S',ρ',rfl,h2,h3⟩
  |ret=>cases e<;>simp[a9d] at h1;exact⟨_,st',S',ρ',rfl,h2,h3⟩
 |cond cx x y ihx ihy=>
  intro ic hc Q st h a w S ρ hr;simp[comp,AA] at hc;obtain⟨c',hc',ix,hx,iy,hy,rfl⟩:=hc;simp only[ev] at h;split at h
  ·rename_i b hb;have hv:=a0t hr.ts hc';rw[hb] at hv;have hset: ∀b',b=b'->As E (st.setc c' b') a w S ρ:=by
    rintro b' rfl;cases c' with
    |c v=>exact hr
    |t j=>
     simp only[opd] at hb;cases hg:a1a st.ts j with
     |none=>simp[hg] at hb
     |some v=>simp[hg] at hb;subst hb;exact (hr.setb hg).1
   cases b with
   |true=>exact wpIn_cond_true hv.bool (ihx ix hx h a w S ρ (hset _ rfl))
   |false=>exact wpIn_cond_false hv.bool (ihy iy hy h a w S ρ (hset _ rfl))
  ·exact h.elim
 |block id x ih=>
  intro ic hc Q st h a w S ρ hr;simp[comp,AA] at hc;obtain⟨ix,hx,rfl⟩:=hc;refine wpIn_block (wpIn_mono (ih ix hx h a w S ρ hr) fun e a' w' hp=> ?_);obtain⟨lv,st',S',ρ',h1,h2,h3⟩:=hp;cases lv with
  |normal=>cases e<;>simp[a9d] at h1;exact⟨_,st',S',ρ',rfl,h2,h3⟩
  |exit i=>
   cases e<;>simp[a9d] at h1;subst h1;simp only[c3t] at h2;simp only[Exit.inBlock];split at h2
   ·rename_i hi;have:=Nat.eq_of_beq_eq_true hi;subst this;rw[if_pos rfl];exact⟨_,st',S',ρ',rfl,h2,h3⟩
   ·rename_i hi;rw[if_neg (fun e=>by subst e;simp at hi)];exact⟨_,st',S',ρ',rfl,h2,h3⟩
  |ret=>cases e<;>simp[a9d] at h1;exact⟨_,st',S',ρ',rfl,h2,h3⟩
 |loop x ih=>intro ic hc Q st h;simp[comp,AA] at hc;obtain⟨ix,hx,rfl⟩:=hc;exact h x hx
 |rangeFunc f ps x y ihx ihy=>intro ic hc Q st h;simp[comp,AA] at hc;obtain⟨f',hf,ix,hx,iy,hy,rfl⟩:=hc;exact h f ps x y hf rfl hx hy
 |exit id=>intro ic hc Q st h a w S ρ hr;simp[comp] at hc;subst hc;exact wpIn_exit ⟨_,st,S,ρ,rfl,h,hr⟩
 |scope x ih=>intro ic hc Q st h a w S ρ hr;simp[comp,AA] at hc;obtain⟨ix,hx,rfl⟩:=hc;obtain⟨htop,h⟩:(ro=Ac)/\_:=h;subst htop;have h1:=ih ix hx h a w S ρ hr;refine wpIn_wide.2 (wp_scope_straight (wp_mono (wpIn_wide.1 h1) fun e a' w' hp=> ?_));obtain⟨lv,st',S',ρ',h1,h2,h3⟩:=hp;cases e<;>simp[a9d] at h1<;>exact⟨lv,st',S',ρ',by simp[a9d,h1],h2,h3⟩
 |label l=>intro ic hc Q st h a w S ρ hr;simp[comp] at hc;subst hc;exact wpIn_label ⟨.normal,st,S,ρ,rfl,h,hr⟩
 |goto l=>intro ic hc;simp[comp] at hc
 |ret=>intro ic hc Q st h a w S ρ hr;simp[comp] at hc;subst hc;exact wpIn_ret ⟨_,st,S,ρ,rfl,h,hr⟩
 |refuse why=>intro ic hc;simp[comp] at hc
end
end Go.Vf
