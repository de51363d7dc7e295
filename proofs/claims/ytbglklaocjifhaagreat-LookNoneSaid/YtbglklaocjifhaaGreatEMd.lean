/- Parts of the proof: Md. Conditions: none. -/
import Derived.Test.YtbglklaocjifhaaGreatEMc
import Derived.Maps.Keyed
import Derived.DeepKeys4
import Derived.WideShapes4
import Derived.DeepKeys
import Derived.Lib.Overlaps
open Option renaming bind_eq_some_iff->AA,bind_eq_bind->AC,pure_def->AD,some->AE,none->A5,map_some->BS
open Option.some renaming injEq->AB,inj->Be
open List renaming getElem?_append_right->AF,getElem?_eq_some_iff->AG,getElem?_append_left->AH,getElem?_set_self->AK,length_append->AM,getElem?_set_ne->AP,getElem?_eq_getElem->AY,length_take->Ad,mem_of_getElem?->Ak,pairwise_map->Ao,mem_or_eq_of_mem_set->Ar,getElem?_cons_zero->Au,ext_getElem?->Av,append_assoc->Aw,getElem?_toArray->Az,replicate->A7,pairwise_cons->A8,getElem?_drop->A9,getElem?_take_of_lt->BB,length_drop->BC,getElem?_cons_succ->BD,pairwise_append->BK,zipWith->BP,getElem?_map->BQ,length_map->BW,mapM_cons->BZ,length_eq_zero_iff->Bc,map_set->Bf,getElem_of_mem->Bk,size_toArray->Bm,take_length->Bo,drop_zero->Bt
open Go renaming run_underlying->AI,Value->AN,MapEntry->AR,IntKind->AS,execOp->AW,TypeId->AZ,Operand->Aj,info_of_underlying->Ax,laidOutB->BN,storeCells->BV,run_storeCells_at->BX,World->Bb,Program->Bd,resolve->Bw,zeroValue->Bx,invoke->B2,Addr->B4,goInt->B5,keyOf->B7,Field->B8
open Go.MapKept renaming run_getObj_map->AJ,run_setObj_map->Ab
open Nat renaming eq_of_beq_eq_true->AL,mul_le_mul_right->AU,le_refl->Aa,add_mul->Ah,add_sub_cancel_left->BE,zero_add->BF,succ_mul->BG,add_zero->BH,div_lt_iff_lt_mul->Bh,min_le_right->Bp,div_add_mod->Bs,mul_comm->By,mul_one->B0,mod_lt->B3
open Array renaming getElem?_setIfInBounds_ne->AO,getElem?_toList->AQ,toList_push->Ae,length_toList->Af,getElem?_eq_some_iff->Ap,toList_modify->A3,getElem?_push->A4,ext'->A6,range->BA
open Go.Result renaming andThen->AT,andThen_ok->BM
open Go.Builtin renaming append_->AX,lenOf->Ay,clear_->BI,copy_->BY,firstCells->Bg,zeroCells->Bi
open Go.Vf renaming keyOf->Ac,std->BL,Yld->Bj,Rel->Br
open Go.Value renaming formed->Ag,cells->A2,int->BR,agg->Bz
open Bool renaming true->Ai,false->Am,false_eq_true->An,and_eq_true->BU,and_self->Bv
open Ne renaming symm->Al
open Go.ChangeMaps renaming modify_eq_set->Aq
open Int renaming toNat_of_nonneg->As
open Go.Instr renaming mapUpdate->At,lookup->BO,findKey->Ba,mapEntry->Bq,sliceAt->Bu
open Go.Op renaming equalIn->BJ,eqFields->Bl,eqItems->Bn,equal->B6
set_option linter.unusedSimpArgs false
set_option linter.unusedVariables false
namespace Go.Vf
open Go
theorem c7h {α β:Type}{f:α->Option β}: ∀{l:List α},(∀x,x∈l-> ∃y,f x=AE y)-> ∃ys,l.mapM f=AE ys:=by
 intro l
 induction l with
 |nil=>intro _;exact⟨[],rfl⟩
 |cons x l ih=>intro h;obtain⟨y,hy⟩:=h x (by simp);obtain⟨ys,hys⟩:=ih fun z hz=>h z (by simp[hz]);exact⟨y::ys,by simp[BZ,hy,hys]⟩
def c1q (ks:List AS)(cs:List AN)(off:Nat):Prop:= ∀(i:Nat) (k:AS),ks[i]? =AE k-> ∃n,cs[off+i]? =AE (.int k n)/\(Lit.int k n).wf=Ai
theorem c6x {α:Type}(l:List α): ∀(n i j:Nat),i<n->j<l.length->((A7 n l).flatten)[i*l.length+j]? =l[j]? :=by
 intro n
 induction n with
 |zero=>intro i j hi;omega
 |succ n ih=>
  intro i j hi hj;simp only[List.replicate_succ,List.flatten_cons];cases i with
  |zero=>rw[AH (by omega)];simp
  |succ i=>rw[AF (by rw[BG];omega),<-ih i j (by omega) hj];congr 1;rw[BG];omega
theorem b9o {cs:List AN}{off sz i:Nat}(hi:i<sz):((cs.drop off).take sz)[i]? =cs[off+i]? :=by rw[BB hi,A9]
section
variable {P:Bd}
theorem c6i (m:Nat): ∀(n:Nat) (t:AZ) (ks:List AS),b9c P n t=AE ks-> ∀(cs:List AN),cs.length=ks.length->c1q ks cs 0-> ∃L,P.keyLits (n+m) t cs=AE L:=by
 intro n
 induction n with
 |zero=>intro t ks h;simp[b9c] at h
 |succ n ih=>
  intro t ks h cs hl hc;rw[show n+1+m=(n+m)+1 by omega];have sub: ∀{e:AZ} {ks':List AS} {off:Nat},b9c P n e=AE ks'->ks'.length=P.cellsOf e->off+ks'.length<=cs.length->c1q ks' cs off-> ∃L,P.keyLits (n+m) e ((cs.drop off).take (P.cellsOf e))=AE L:=by intro e ks' off he hlen hle hi;refine ih e ks' he _ (by rw[<-hlen,Ad,BC];omega) fun i k hk=> ?_;obtain⟨x,hx,hw⟩:=hi i k hk;refine⟨x,?_,hw⟩;rw[BF,b9o (by rw[<-hlen];exact (AG.1 hk).1)];exact hx
  simp only[b9c] at h;unfold Program.keyLits;split at h
  ·rename_i k hu;split at h
   ·simp at h;subst h;obtain⟨x,hx,hw⟩:=hc 0 k rfl
    match cs,hl with
    |[c],_=>simp at hx;subst hx;simp only[hu];exact⟨_,by rw[if_pos (by simp[hw])]⟩
   ·cases h
  ·rename_i fs hu;simp only[AC,AA] at h;obtain⟨ks',hf,h⟩:=h;split at h
   ·rename_i hcond;simp at h;subst h;have key: ∀(l:List B8) (off:Nat) (ks0:List AS),a9y P (b9c P n) l off=AE ks0->off+ks0.length<=cs.length->c1q ks0 cs off-> ∃Ls,(l.mapM fun f=>P.keyLits (n+m) f.type ((cs.drop f.offset).take (P.cellsOf f.type)))=AE Ls:=by
     intro l
     induction l with
     |nil=>intro off ks0 _ _ _;exact⟨[],rfl⟩
     |cons f l ihl=>
      intro off ks0 h hle hi;simp only[a9y,AC,AA] at h;obtain⟨k1,h1,h⟩:=h;split at h
      ·rename_i hc1;simp only[AA,AD,AB] at h;obtain⟨k2,h2,rfl⟩:=h;simp only[AM] at hle;obtain⟨L,hL⟩:=sub h1 hc1.2 (off:=off) (by omega) (fun i k hk=>hi i k (by rw[AH (AG.1 hk).1];exact hk));obtain⟨Ls,hLs⟩:=ihl (off+k1.length) k2 h2 (by omega) (fun i k hk=>by
        rw[Nat.add_assoc];exact hi (k1.length+i) k (by rw[AF (by omega),BE];exact hk))
       exact⟨L::Ls,by simp[BZ,hc1.1,hL,hLs]⟩
      ·cases h
    obtain⟨Ls,hLs⟩:=key fs.toList 0 ks' hf (by omega) hc;simp only[hu];rw[if_pos ⟨by rw[hl];exact hcond.1,hcond.2⟩,hLs];exact⟨_,rfl⟩
   ·cases h
  ·rename_i nn e hu;simp only[AC,AA] at h;obtain⟨ks',hf,h⟩:=h;split at h
   ·rename_i hcond;simp at h;subst h;have hlen:(A7 nn ks').flatten.length=nn*ks'.length:=by simp
    have: ∃Ls,((List.range nn).mapM fun i=>P.keyLits (n+m) e ((cs.drop (i*P.cellsOf e)).take (P.cellsOf e)))=AE Ls:=by
     refine c7h fun i hi=> ?_;have hi:i<nn:=by simpa using hi
     refine sub hf hcond.1 ?_ fun j k hk=> ?_
     ·rw[hl,hlen,<-hcond.1];have:(i+1)*ks'.length<=nn*ks'.length:=AU _ hi;rw[BG] at this;exact this
     ·have hj:=(AG.1 hk).1;obtain⟨x,hx,hw⟩:=hc (i*ks'.length+j) k (by rw[c6x ks' nn i j hi hj];exact hk);rw[<-hcond.1];exact⟨x,by rw[BF] at hx;exact hx,hw⟩
    obtain⟨Ls,hLs⟩:=this;simp only[hu];rw[if_pos (by rw[hl,hlen,hcond.1];exact hcond.2),hLs];exact⟨_,rfl⟩
   ·cases h
  ·cases h
theorem d2x {n:Nat}{t:AZ}{ks:List AS}(h:b9c P n t=AE ks):ks.length=P.cellsOf t:=by
 cases n with
 |zero=>simp[b9c] at h
 |succ n=>
  simp only[b9c] at h;split at h
  ·split at h
   ·rename_i hc;simp at h;subst h;exact hc.symm
   ·cases h
  ·simp only[AC,AA] at h;obtain⟨ks',hf,h⟩:=h;split at h
   ·rename_i hc;simp at h;subst h;exact hc.1
   ·cases h
  ·simp only[AC,AA] at h;obtain⟨ks',hf,h⟩:=h;split at h
   ·rename_i hc;simp at h;subst h;simp[hc.1,hc.2]
   ·cases h
  ·cases h
theorem c4q {ks:List AS}{ns:List Int}{cs:List AN}(hl:ns.length=ks.length)(hc:cs=BP BR ks ns)(hw: ∀(i:Nat) (k:AS) (n:Int),ks[i]? =AE k->ns[i]? =AE n->k.wrap n=n):
 cs.length=ks.length/\c1q ks cs 0:=by
 subst hc;refine⟨by simp[hl],fun i k hk=> ?_⟩;have hi:=(AG.1 hk).1;have hn:ns[i]? =AE ns[i]:=AY (by omega);refine⟨ns[i],?_,?_⟩
 ·rw[BF,List.getElem?_zipWith,hk,hn]
 ·have:=WideShapes.wf_wrap k ns[i];rw[hw i k ns[i] hk hn] at this;exact this
theorem a7q (hl:BN P=Ai){t:AZ}{wide:Bool}{ks:List AS}(h:c5c P t=AE (wide,ks)):
 Maps.Keyed P t/\(∀v,a1m wide ks v-> ∃l,B7 P t v=AE l)/\
  (wide=Ai->P.keyTypeAt 20 t=Ai/\(match P.underlying t with|some (.array _ _)|some (.struct _)=>Ai|_=>Am)=Ai):=by
 simp only[c5c,AC,AA] at h;obtain⟨ks',hf,h⟩:=h;have wideCase:P.keyTypeAt 20 t=Ai/\P.keyType t=Ai/\t<P.types.size->(match P.underlying t with|some (.array _ _)|some (.struct _)=>Ai|_=>Am)=Ai->wide=Ai->ks'=ks->
  Maps.Keyed P t/\(∀v,a1m wide ks v-> ∃l,B7 P t v=AE l)/\(wide=Ai->P.keyTypeAt 20 t=Ai/\(match P.underlying t with|some (.array _ _)|some (.struct _)=>Ai|_=>Am)=Ai):=by
  rintro⟨h1,h2,h3⟩ hw rfl rfl;refine⟨Maps.Keyed.of_law (deep_law_laid hl (m:=20) (by omega) h3 h1 hw),fun v hv=> ?_,fun _=>⟨h1,hw⟩⟩;obtain⟨hs,ns,hn,hc,hr⟩:=hv;simp only[if_true] at hs;obtain⟨cs,rfl⟩:=hs;obtain⟨h5,h6⟩:=c4q hn hc hr;obtain⟨L,hL⟩:=c6i (P:=P) 0 (P.types.size+1) t ks' hf _ h5 h6;have hfm:(Bz cs).formed P t=Ai:=by
   simp only[Ag];have hsz:cs.size=P.cellsOf t:=by
    have h7:cs.size=ks'.length:=by rw[<-h5];rfl
    rw[h7];exact d2x hf
   split at hw
   ·rename_i hu;rw[hu];simp[hsz]
   ·rename_i hu;rw[hu];simp[hsz]
   ·cases hw
  refine⟨.string (keyBytes L),?_⟩;unfold B7;split at hw
  ·rename_i hu;rw[hu];simp only[h2,hfm,Bv,if_true,hL,BS]
  ·rename_i hu;rw[hu];simp only[h2,hfm,Bv,if_true,hL,BS]
  ·cases hw
 split at h
 ·rename_i k hu;simp only[AD,AB,Prod.mk.injEq] at h;obtain⟨rfl,rfl⟩:=h;refine⟨Maps.int_keyed hu,fun v hv=> ?_,fun h=>by cases h⟩;obtain⟨hs,ns,hn,hc,hr⟩:=hv;simp only[b9c,hu] at hf;split at hf
  ·simp at hf;subst hf;obtain⟨k',n,rfl⟩:=by simpa using hs
   match ns,hn with
   |[n'],_=>simp[A2] at hc;obtain⟨rfl,rfl⟩:=hc;refine⟨_,Maps.keyOf_int_mk hu ?_⟩;have:=WideShapes.wf_wrap k' n;rw[hr 0 k' n rfl rfl] at this;exact this
  ·cases hf
 ·rename_i fs hu;split at h
  ·rename_i hc;simp only[AD,AB,Prod.mk.injEq] at h;exact wideCase (by simpa using hc) (by rw[hu]) h.1.symm h.2
  ·cases h
 ·rename_i n e hu;split at h
  ·rename_i hc;simp only[AD,AB,Prod.mk.injEq] at h;exact wideCase (by simpa using hc) (by rw[hu]) h.1.symm h.2
  ·cases h
 ·cases h
theorem b3j {ks:List AS}{ns:List Int}(hl:ns.length=ks.length):(BP BR ks ns).mapM KC.ofValue=AE (ns.map KC.i):=by
 induction ks generalizing ns with
 |nil=>cases ns with
  |nil=>rfl
  |cons n ns=>simp at hl
 |cons k ks ih=>cases ns with
  |nil=>simp at hl
  |cons n ns=>simp[BZ,KC.ofValue,ih (by simpa using hl)]
theorem a1m.key {wide:Bool}{ks:List AS}{v:AN}(h:a1m wide ks v): ∃ns:List Int,ns.length=ks.length/\v.cells.toList=BP BR ks ns/\Ac v=AE (ns.map KC.i):=by obtain⟨_,ns,h1,h2,_⟩:=h;exact⟨ns,h1,h2,by rw[Ac,h2];exact b3j h1⟩
theorem a1m.inj {wide:Bool}{ks:List AS}{v v':AN}(h:a1m wide ks v)(h':a1m wide ks v')(he:Ac v=Ac v'):v=v':=by
 obtain⟨ns,h1,h2,h3⟩:=h.key;obtain⟨ns',h1',h2',h3'⟩:=h'.key;rw[h3,h3'] at he;have hi:ns=ns':=by
  have:ns.map KC.i=ns'.map KC.i:=by simpa using he
  exact (List.map_inj_right (fun a b hab=>by cases hab;rfl)).1 this
 subst hi;have hc:v.cells=v'.cells:=by apply A6;rw[h2,h2']
 have hs:=h.1;have hs':=h'.1;cases wide with
 |true=>
  obtain⟨cs,rfl⟩:=by simpa using hs
  obtain⟨cs',rfl⟩:=by simpa using hs'
  simp[A2] at hc;rw[hc]
 |false=>
  obtain⟨k,n,rfl⟩:=by simpa using hs
  obtain⟨k',n',rfl⟩:=by simpa using hs'
  simpa [A2] using hc
theorem b2y {wide:Bool}{ks:List AS}{x:AN}{kc:List KC}(hx:a1m wide ks x)(hk:Ac x=AE kc): ∀{es:List AR},(∀e,e∈es->a1m wide ks e.key)->es.Pairwise (fun a b=>a.key≠b.key)-> ∀{e:AR} {n:Int},e∈es->e.key=x->e.val= .int .i64 n->
 a7b kc es=AE n:=by
 intro es
 induction es with
 |nil=>intro _ _ e n he;cases he
 |cons e0 es ih=>
  intro hs hnd e n he hkx hv;have hnd:=A8.1 hnd;unfold a7b;rcases List.mem_cons.1 he with rfl|he
  ·rw[hkx,hk,if_pos rfl,hv]
  ·rw[if_neg (fun h=> ?_)]
   ·exact ih (fun e he=>hs e (by simp[he])) hnd.2 he hkx hv
   ·have:=(hs e0 (by simp)).inj hx (by rw[h,hk]);exact hnd.1 e he (by rw[this,hkx])
theorem b3b {wide:Bool}{ks:List AS}{x:AN}{kc:List KC}(hx:a1m wide ks x)(hk:Ac x=AE kc): ∀{es:List AR},(∀e,e∈es->a1m wide ks e.key)->(∀e,e∈es->e.key≠x)->a7b kc es=A5:=by
 intro es
 induction es with
 |nil=>intro _ _;rfl
 |cons e0 es ih=>
  intro hs hne;unfold a7b;rw[if_neg (fun h=> ?_)]
  ·exact ih (fun e he=>hs e (by simp[he])) fun e he=>hne e (by simp[he])
  ·exact hne e0 (by simp) ((hs e0 (by simp)).inj hx (by rw[h,hk]))
theorem c5w {x:AN}{kc:List KC}(hk:Ac x=AE kc){v:Int}{born:Nat}: ∀{es:List AR},(∀e,e∈es-> ∃m,e.val= .int .i64 m)->a7b kc es=A5-> ∀k,a7b k (es++[⟨x,.int .i64 v,born⟩])=if k=kc then AE v else a7b k es:=by
 intro es
 induction es with
 |nil=>
  intro _ _ k;simp only[List.nil_append,a7b,hk,AB];by_cases h:kc=k
  ·rw[if_pos h,if_pos h.symm]
  ·rw[if_neg h,if_neg (Al h)]
 |cons e es ih=>
  intro hv hn k;obtain⟨m,hm⟩:=hv e (by simp);simp only[List.cons_append,a7b] at hn⊢;by_cases h:Ac e.key=AE k
  ·rw[if_pos h,if_pos h];by_cases hc:k=kc
   ·subst hc;rw[if_pos h,hm] at hn;cases hn
   ·rw[if_neg hc]
  ·rw[if_neg h,if_neg h];refine ih (fun e he=>hv e (by simp[he])) ?_ k;by_cases hc:Ac e.key=AE kc
   ·rw[if_pos hc,hm] at hn;cases hn
   ·rw[if_neg hc] at hn;exact hn
theorem c7y {x:AN}{kc:List KC}{wide:Bool}{ks:List AS}(hx:a1m wide ks x)(hk:Ac x=AE kc){v:Int}{e':AR}(he':e'.key=x)(hv':e'.val= .int .i64 v):
 ∀{es:List AR} {j:Nat} {e:AR},(∀e,e∈es->a1m wide ks e.key)->es.Pairwise (fun a b=>a.key≠b.key)->es[j]? =AE e->e.key=x-> ∀k,a7b k (es.set j e')=if k=kc then AE v else a7b k es:=by
 intro es
 induction es with
 |nil=>intro j e _ _ h;simp at h
 |cons e0 es ih=>
  intro j e hs hnd hj hkx k;have hnd:=A8.1 hnd;cases j with
  |zero=>
   simp only[Au,AB] at hj;subst hj;simp only[List.set_cons_zero,a7b,he',hk,hkx,hv',AB];by_cases h:kc=k
   ·rw[if_pos h,if_pos h.symm]
   ·rw[if_neg h,if_neg h,if_neg (Al h)]
  |succ j=>
   simp only[BD] at hj;have hmem:=Ak hj;simp only[List.set_cons_succ,a7b];by_cases h:Ac e0.key=AE k
   ·rw[if_pos h,if_pos h,if_neg];intro hc;subst hc;have:=(hs e0 (by simp)).inj hx (by rw[h,hk]);exact hnd.1 e hmem (by rw[this,hkx])
   ·rw[if_neg h,if_neg h];exact ih (fun e he=>hs e (by simp[he])) hnd.2 hj hkx k
def a6s (es:List AR)(keys:List (List KC)):Prop:=keys.length=es.length/\ ∀(i:Nat) (e:AR) (k:List KC),es[i]? =AE e->keys[i]? =AE k->Ac e.key=AE k
theorem a6s.tail {e:AR}{es:List AR}{k:List KC}{keys:List (List KC)}(h:a6s (e::es) (k::keys)):Ac e.key=AE k/\a6s es keys:=
 ⟨h.2 0 e k rfl rfl,by simpa using h.1,fun i e' k' he hk=>h.2 (i+1) e' k' (by simpa using he) (by simpa using hk)⟩
theorem d5n {wide:Bool}{ks:List AS}{x:AN}{kc:List KC}(hx:a1m wide ks x)(hk:Ac x=AE kc)(y:AV): ∀{es:List AR} {keys:List (List KC)} {vals:List AV},a6s es keys->(∀e,e∈es->a1m wide ks e.key)->(∀e,e∈es->e.key≠x)->
 b1j kc keys vals=A5/\c7m kc y keys vals=A5:=by
 intro es
 induction es with
 |nil=>intro keys vals ha _ _;have:keys=[]:=Bc.1 ha.1;subst this;cases vals<;>exact⟨rfl,rfl⟩
 |cons e es ih=>
  intro keys vals ha hs hne;cases keys with
  |nil=>have:=ha.1;simp at this
  |cons k keys=>
   obtain⟨h1,h2⟩:=ha.tail;cases vals with
   |nil=>exact⟨rfl,rfl⟩
   |cons v vals=>have hkk: ¬k=kc:=fun h=>hne e (by simp) ((hs e (by simp)).inj hx (by rw[h1,hk,h]));obtain⟨i1,i2⟩:=ih (vals:=vals) h2 (fun e he=>hs e (by simp[he])) fun e he=>hne e (by simp[he]);rw[b1j,c7m,if_neg hkk,if_neg hkk,i1,i2];exact⟨rfl,rfl⟩
theorem d5g {wide:Bool}{ks:List AS}{x:AN}{kc:List KC}(hx:a1m wide ks x)(hk:Ac x=AE kc)(y:AV): ∀{es:List AR} {keys:List (List KC)} {vals:List AV} {j:Nat} {e:AR},a6s es keys->vals.length=es.length->(∀e,e∈es->a1m wide ks e.key)->
 es.Pairwise (fun a b=>a.key≠b.key)->es[j]? =AE e->e.key=x->(∃v,vals[j]? =AE v/\b1j kc keys vals=AE v)/\c7m kc y keys vals=AE (vals.set j y):=by
 intro es
 induction es with
 |nil=>intro keys vals j e _ _ _ _ h;simp at h
 |cons e0 es ih=>
  intro keys vals j e ha hl hs hnd hj hkx;have hnd:=A8.1 hnd;cases keys with
  |nil=>have:=ha.1;simp at this
  |cons k keys=>
   obtain⟨h1,h2⟩:=ha.tail;cases vals with
   |nil=>simp at hl
   |cons v vals=>
    cases j with
    |zero=>
     simp only[Au,AB] at hj;subst hj;have hkk:k=kc:=by rw[hkx,hk] at h1;exact (Be h1).symm
     refine⟨⟨v,rfl,by rw[b1j,if_pos hkk]⟩,by rw[c7m,if_pos hkk];rfl⟩
    |succ j=>simp only[BD] at hj;have hmem:=Ak hj;have hkk: ¬k=kc:=fun h=>hnd.1 e hmem ((hs e0 (by simp)).inj (hs e (by simp[hmem])) (by rw[h1,hkx,hk,h]));obtain⟨⟨v',i1,i2⟩,i3⟩:=ih (vals:=vals) h2 (by simpa using hl) (fun e he=>hs e (by simp[he])) hnd.2 hj hkx;refine⟨⟨v',by simpa using i1,by rw[b1j,if_neg hkk];exact i2⟩,?_⟩;rw[c7m,if_neg hkk,i3];rfl
theorem c8e {wide:Bool}{ks:List AS}{x:AN}{kc:List KC}(hx:a1m wide ks x)(hk:Ac x=AE kc): ∀{es:List AR} {keys:List (List KC)} (n:Nat),a6s es keys->(∀e,e∈es->a1m wide ks e.key)->(∀e,e∈es->e.key≠x)->
 c9t kc keys n=A5:=by
 intro es
 induction es with
 |nil=>intro keys n ha _ _;have:keys=[]:=Bc.1 ha.1;subst this;rfl
 |cons e es ih=>
  intro keys n ha hs hne;cases keys with
  |nil=>have:=ha.1;simp at this
  |cons k keys=>obtain⟨h1,h2⟩:=ha.tail;have hkk: ¬k=kc:=fun h=>hne e (by simp) ((hs e (by simp)).inj hx (by rw[h1,hk,h]));rw[c9t,if_neg hkk];exact ih (n+1) h2 (fun e he=>hs e (by simp[he])) fun e he=>hne e (by simp[he])
theorem c7o {wide:Bool}{ks:List AS}{x:AN}{kc:List KC}(hx:a1m wide ks x)(hk:Ac x=AE kc): ∀{es:List AR} {keys:List (List KC)} {j:Nat} {e:AR} (n:Nat),a6s es keys->(∀e,e∈es->a1m wide ks e.key)->
 es.Pairwise (fun a b=>a.key≠b.key)->es[j]? =AE e->e.key=x->c9t kc keys n=AE (n+j):=by
 intro es
 induction es with
 |nil=>intro keys j e n _ _ _ h;simp at h
 |cons e0 es ih=>
  intro keys j e n ha hs hnd hj hkx;have hnd:=A8.1 hnd;cases keys with
  |nil=>have:=ha.1;simp at this
  |cons k keys=>
   obtain⟨h1,h2⟩:=ha.tail;cases j with
   |zero=>
    simp only[Au,AB] at hj;subst hj;have hkk:k=kc:=by rw[hkx,hk] at h1;exact (Be h1).symm
    rw[c9t,if_pos hkk];rfl
   |succ j=>simp only[BD] at hj;have hmem:=Ak hj;have hkk: ¬k=kc:=fun h=>hnd.1 e hmem ((hs e0 (by simp)).inj (hs e (by simp[hmem])) (by rw[h1,hkx,hk,h]));rw[c9t,if_neg hkk,ih (n+1) h2 (fun e he=>hs e (by simp[he])) hnd.2 hj hkx];congr 1;omega
section
variable {A:Ann} {ro:Option Nat} {E:Ent} {w:Bb} {S:Nat->Prop} {ρ:Rho}
theorem c3a: ∀{ks:List AS} {cs:List AV} {vs:List AN} {K:List KC->Prop},cs.length=vs.length->(∀(i:Nat) (x:AV) (v:AN),cs[i]? =AE x->vs[i]? =AE v->VR w S ρ x v)->a4f (BL P A ro E) ks cs K->
 ∃ns:List Int,ns.length=ks.length/\vs=BP BR ks ns/\(∀(i:Nat) (k:AS) (n:Int),ks[i]? =AE k->ns[i]? =AE n->k.wrap n=n)/\K (ns.map KC.i):=by
 intro ks
 induction ks with
 |nil=>
  intro cs vs K hl hv hk;cases cs with
  |nil=>cases vs with
   |nil=>exact⟨[],rfl,rfl,by simp,hk⟩
   |cons v vs=>simp at hl
  |cons c cs=>exact hk.elim
 |cons k ks ih=>
  intro cs vs K hl hv hk;cases cs with
  |nil=>exact hk.elim
  |cons c cs=>
   cases vs with
   |nil=>simp at hl
   |cons v vs=>
    cases c with
    |d x=>
     cases x with
     |int k' x=>
      simp only[a4f] at hk;split at hk
      ·rename_i hc;subst hc;obtain⟨ns,h1,h2,h3,h4⟩:=ih (by simpa using hl) (fun i x v hx hv'=>hv (i+1) x v (by simpa using hx) (by simpa using hv')) hk.2;have h0:=(hv 0 (.d (.int k x)) v (by simp) (by simp)).int;refine⟨x.val::ns,by simp[h1],by simp[h0,h2],fun i k' n hk' hn=> ?_,h4⟩;cases i with
       |zero=>simp at hk' hn;subst hk';subst hn;exact hk.1
       |succ i=>exact h3 i k' n (by simpa using hk') (by simpa using hn)
      ·exact hk.elim
     |_=>exact hk.elim
    |_=>exact hk.elim
theorem a7u {wide:Bool}{ks:List AS}{x:AV}{v:AN}{K:List KC->Prop}(hv:VR w S ρ x v)(hk:a2z (BL P A ro E) wide ks x K): ∃kc,a1m wide ks v/\Ac v=AE kc/\K kc:=by
 have one: ∀{x:AV} {v:AN},VR w S ρ x v->a4f (BL P A ro E) ks [x] K->wide=Am-> ∃kc,a1m wide ks v/\Ac v=AE kc/\K kc:=by
  intro x1 v1 hv1 hk1 hw;subst hw;obtain⟨ns,h1,h2,h3,h4⟩:=c3a (cs:=[x1]) (vs:=[v1]) rfl (fun i x' v' hx hv'=>by
   cases i with
   |zero=>simp at hx hv';subst hx;subst hv';exact hv1
   |succ i=>simp at hx) hk1
  match ks,ns,h1 with
  |[],[],_=>simp at h2
  |[k],[n],_=>simp at h2;subst h2;exact⟨_,⟨⟨k,n,rfl⟩,[n],rfl,rfl,h3⟩,rfl,h4⟩
  |k::k'::ks,n::n'::ns,_=>simp at h2
 cases x with
 |agg cs=>
  simp only[a2z] at hk;split at hk
  ·rename_i hw;subst hw;cases hv with
   |agg _ vs hl hvs=>obtain⟨ns,h1,h2,h3,h4⟩:=c3a (vs:=vs.toList) (by simpa using hl) (fun i x v hx hv=>hvs i x v hx (by rw[<-AQ];exact hv)) hk;have hsh:a1m Ai ks (.agg vs):=⟨⟨vs,rfl⟩,ns,h1,h2,h3⟩;exact⟨_,hsh,by rw[Ac];show vs.toList.mapM _=_;rw[h2];exact b3j h1,h4⟩
  ·exact hk.elim
 |_=>
  simp only[a2z] at hk;split at hk
  ·exact hk.elim
  ·rename_i hw;exact one hv hk (by simpa using hw)
end
end
section
variable {P:Bd} {A:Ann} {ro:Option Nat} {E:Ent} {c:Nat} {o:Oper} {io:IOp} {st:St} {K:AV->List a0f->List Nat->Prop}
 {a:Act} {w:Bb} {S:Nat->Prop} {ρ:Rho}
theorem d2s (hl:BN P=Ai){t kt et:AZ}{M X Y:Aj}(hop:o.op= .mapUpdate t M X Y)(ht:P.underlying t=AE (.map kt et)){wide:Bool}{ks:List AS}(hk0:c5c P kt=AE (wide,ks))
 {m x y:a0h} (hm:a0g M=AE m) (hx:a0g X=AE x) (hy:a0g Y=AE y) (hk:a0a (BL P A ro E) (.mapupd wide ks m x y) st K) (hr:Br E st a w S ρ):Bj P o a w S ρ st.h K:=by
 have h0:=a0t hr.ts hm;have h1:=a0t hr.ts hx;have h2:=a0t hr.ts hy;simp only[a0a] at hk;split at hk
 ·rename_i l e1;rw[e1] at h0;split at hk
  ·rename_i wide' ks' n f hlg;split at hk
   ·rename_i hc;obtain⟨rfl,rfl⟩:=hc;generalize hv:a.eval M=v at h0;cases h0 with
    |map _ b C hρ=>
     obtain⟨kc,hsh,hkey,hk⟩:=a7u h1 hk;obtain⟨q,hq,hk⟩:=a6l h2 hk;obtain⟨oo,ho,hh⟩:=hr.sim.obj l _ C hρ;have hlg':=hlg;rw[a0i] at hlg';rw[hlg'] at ho;cases ho;obtain⟨es,clock,hb,mr⟩:=hh;obtain⟨KK,hks,_⟩:=a7q hl hk0;obtain⟨lx,hlx⟩:=hks _ hsh;have fin: ∀{es':Array AR} {clock':Nat},(At t (.map (AE b)) (a.eval X) (a.eval Y)).run P w= .ok () {w with heap:=w.heap.setIfInBounds b (.map es' clock')}->
      g2l wide ks es'.toList ((BL P A ro E).mcnt f kc n) ((BL P A ro E).mset f kc q.val)->Bj P o a w S ρ st.h K:=by
      intro es' clock' hrun hmr;have hbl:b<w.heap.size:=(Ap.1 hb).1;refine⟨undef,{w with heap:=w.heap.setIfInBounds b (.map es' clock')},.und,_,[],S,ρ,.inr ⟨?_,rfl⟩,hk,?_,.und⟩
      ·simp[AW,hop,hv,hrun,AT]
      ·rw[a0l];refine Chg.set hr.sim hρ hlg' rfl rfl ⟨rfl,Aa _⟩ rfl (by simp) (fun k hne=>by simp[AO (Al hne)]) ⟨es',clock',by simp[hbl],hmr⟩
     rcases KK.find w hlx es.toList (fun e he=>hks _ (mr.keys e he)) with⟨h3,h4⟩|⟨j,e,h3,h4,h5⟩
     ·have hnone:=b3b hsh hkey mr.keys h4;refine fin (es':=es.push ⟨a.eval X,a.eval Y,clock⟩) (clock':=clock+1) ?_ ⟨?_,fun e he=> ?_,fun e he=> ?_,fun k=> ?_,?_⟩
      ·simp[At,AI ht,AJ hb,KK.check w Am hlx,h3,Ab _ hb,AT]
      ·have:f kc=A5:=by rw[<-mr.find];exact hnone
       simp[BL,this,<-mr.len]
      ·simp at he;rcases he with he|rfl
       ·exact mr.keys e (by simpa using he)
       ·exact hsh
      ·simp at he;rcases he with he|rfl
       ·exact mr.vals e (by simpa using he)
       ·exact⟨_,hq⟩
      ·rw[Ae,hq,c5w hkey mr.vals hnone,mr.find];rfl
      ·rw[Ae];refine BK.2 ⟨mr.nd,by simp,fun e he e' he'=> ?_⟩;simp at he';subst he';exact h4 e he
     ·have hj:es[j]? =AE e:=by simpa using h4
      have hmem:=Ak h4;have hlist:(es.modify j (fun e'=>{e' with key:=a.eval X,val:=a.eval Y})).toList=es.toList.set j {e with key:=a.eval X,val:=a.eval Y}:=by rw[A3,Aq _ _ _ _ h4]
      refine fin (es':=es.modify j (fun e'=>{e' with key:=a.eval X,val:=a.eval Y})) (clock':=clock) ?_ ⟨?_,fun e' he=> ?_,fun e' he=> ?_,fun k=> ?_,?_⟩
      ·simp[At,AI ht,AJ hb,KK.check w Am hlx,h3,hj,h5,KK.stays w hlx,Ab _ hb,AT]
      ·obtain⟨q0,hq0⟩:=mr.vals e hmem;have:f kc=AE q0:=by rw[<-mr.find];exact b2y hsh hkey mr.keys mr.nd hmem h5 hq0
       rw[hlist];simp[BL,this,<-mr.len]
      ·rw[hlist] at he;rcases Ar he with he|rfl
       ·exact mr.keys e' he
       ·exact hsh
      ·rw[hlist] at he;rcases Ar he with he|rfl
       ·exact mr.vals e' he
       ·exact⟨_,hq⟩
      ·rw[hlist,c7y hsh hkey rfl hq mr.keys mr.nd h4 h5,mr.find];rfl
      ·rw[hlist];have e3:(es.toList.set j {e with key:=a.eval X,val:=a.eval Y}).map (·.key)=es.toList.map (·.key):=by
        rw[Bf];refine Av fun i=> ?_;by_cases hi:i=j
        ·subst hi;have hlt:=(AG.1 h4).1;rw[AK (by simpa using hlt),BQ,h4];simp[h5]
        ·rw[AP (Al hi)]
       refine (Ao (f:=fun e:AR=>e.key) (R:=fun x y=>x≠y)).1 ?_;rw[e3];exact (Ao (f:=fun e:AR=>e.key) (R:=fun x y=>x≠y)).2 mr.nd
   ·exact hk.elim
  ·exact hk.elim
 ·exact hk.elim
theorem b8o (hl:BN P=Ai){t kt et:AZ}{M X Y:Aj}(hop:o.op= .mapUpdate t M X Y)(ht:P.underlying t=AE (.map kt et)){wide:Bool}{ks:List AS}(hk0:c5c P kt=AE (wide,ks))
 {m x y:a0h} (hm:a0g M=AE m) (hx:a0g X=AE x) (hy:a0g Y=AE y) (hk:a0a (BL P A ro E) (.mapupdv wide ks m x y) st K) (hr:Br E st a w S ρ):Bj P o a w S ρ st.h K:=by
 have h0:=a0t hr.ts hm;have h1:=a0t hr.ts hx;have h2:=a0t hr.ts hy;simp only[a0a] at hk;split at hk
 ·rename_i l e1;rw[e1] at h0;split at hk
  ·rename_i wide' ks' keys vals hlg;split at hk
   ·rename_i hc;obtain⟨rfl,rfl⟩:=hc;generalize hv:a.eval M=v at h0;cases h0 with
    |map _ b C hρ=>
     obtain⟨kc,hsh,hkey,hk⟩:=a7u h1 hk;obtain⟨oo,ho,hh⟩:=hr.sim.obj l _ C hρ;have hlg':=hlg;rw[a0i] at hlg';rw[hlg'] at ho;cases ho;obtain⟨es,clock,hb,mr,⟨hsz,hck⟩,hvs⟩:=hh;obtain⟨KK,hks,_⟩:=a7q hl hk0;obtain⟨lx,hlx⟩:=hks _ hsh;have hat:a6s es.toList keys:=⟨mr.len,mr.at'⟩;have hvl:vals.length=es.toList.length:=by rw[<-hsz];simp
     have fin: ∀{es':Array AR} {clock':Nat} {keys':List (List KC)} {vals':List AV},(At t (.map (AE b)) (a.eval X) (a.eval Y)).run P w= .ok () {w with heap:=w.heap.setIfInBounds b (.map es' clock')}->
      g2b wide ks es'.toList keys'->es'.size=vals'.length->clock'=es'.size->(∀(i:Nat) (x:AV) (e:AR),vals'[i]? =AE x->es'[i]? =AE e->VR w S ρ x e.val)->K .und (a2x st.h l (.mapv wide ks keys' vals')) []->Bj P o a w S ρ st.h K:=by
      intro es' clock' keys' vals' hrun hmr hsz' hck' hvs' hk;have hbl:b<w.heap.size:=(Ap.1 hb).1;have hnS: ¬S b:=hr.sim.own l b C _ hρ hlg' rfl;refine⟨undef,{w with heap:=w.heap.setIfInBounds b (.map es' clock')},.und,_,[],S,ρ,.inr ⟨?_,rfl⟩,hk,?_,.und⟩
      ·simp[AW,hop,hv,hrun,AT]
      ·rw[a0l];refine Chg.set hr.sim hρ hlg' rfl rfl ⟨rfl,Aa _⟩ rfl (by simp) (fun k hne=>by simp[AO (Al hne)]) ⟨es',clock',by simp[hbl],hmr,⟨hsz',hck'⟩,fun i x e hx he=>(hvs' i x e hx he).mono (fun _ h=>h) (fun k hkS=> ?_) fun _ _ h=>h⟩;have hne:k≠b:=fun e=>hnS (e▸hkS);simp[AO (Al hne)]
     rcases KK.find w hlx es.toList (fun e he=>hks _ (mr.shape e he)) with⟨h3,h4⟩|⟨j,e,h3,h4,h5⟩
     ·obtain⟨_,hnone⟩:=d5n hsh hkey (opd st.ts y) (vals:=vals) hat mr.shape h4;rw[hnone] at hk;simp only[a0r] at hk;refine fin (es':=es.push ⟨a.eval X,a.eval Y,clock⟩) (clock':=clock+1) ?_ ⟨?_,fun e he=> ?_,fun i e k he hk'=> ?_,?_,fun i e he=> ?_⟩ ?_ (by simp[hck]) (fun i x e hx he=> ?_) hk
      ·simp[At,AI ht,AJ hb,KK.check w Am hlx,h3,Ab _ hb,AT]
      ·have:=mr.len;simp;simpa using this
      ·simp at he;rcases he with he|rfl
       ·exact mr.shape e (by simpa using he)
       ·exact hsh
      ·rw[Ae] at he;have hlen:=mr.len;by_cases hi:i<es.toList.length
       ·rw[AH hi] at he;rw[AH (by omega)] at hk';exact mr.at' i e k he hk'
       ·rw[AF (by omega)] at he;rw[AF (by omega),hlen] at hk';cases hd:i-es.toList.length with
        |zero=>rw[hd] at he hk';simp at he hk';subst he;subst hk';exact hkey
        |succ d=>rw[hd] at he;simp at he
      ·rw[Ae];refine BK.2 ⟨mr.nd,by simp,fun e he e' he'=> ?_⟩;simp at he';subst he';exact h4 e he
      ·rw[Ae] at he;by_cases hi:i<es.toList.length
       ·rw[AH hi] at he;exact mr.born i e he
       ·rw[AF (by omega)] at he;cases hd:i-es.toList.length with
        |zero=>
         rw[hd] at he;simp at he;subst he;have:es.toList.length=es.size:=by simp
         show clock=i;omega
        |succ d=>rw[hd] at he;simp at he
      ·simp[hsz]
      ·by_cases hi:i<vals.length
       ·rw[AH hi] at hx;rw[A4,if_neg (by omega)] at he;exact hvs i x e hx he
       ·rw[AF (by omega)] at hx;cases hd:i-vals.length with
        |zero=>rw[hd] at hx;rw[A4,if_pos (by omega)] at he;simp at hx he;subst hx;subst he;exact h2
        |succ d=>rw[hd] at hx;simp at hx
     ·obtain⟨_,hsome⟩:=d5g hsh hkey (opd st.ts y) (vals:=vals) hat hvl mr.shape mr.nd h4 h5;rw[hsome] at hk;have hj:es[j]? =AE e:=by simpa using h4
      have hlist:(es.modify j (fun e'=>{e' with key:=a.eval X,val:=a.eval Y})).toList=es.toList.set j {e with key:=a.eval X,val:=a.eval Y}:=by rw[A3,Aq _ _ _ _ h4]
      refine fin (es':=es.modify j (fun e'=>{e' with key:=a.eval X,val:=a.eval Y})) (clock':=clock) ?_ ⟨?_,fun e' he=> ?_,fun i e' k he hk'=> ?_,?_,fun i e' he=> ?_⟩ ?_ (by simpa using hck) (fun i x e' hx he=> ?_) hk
      ·simp[At,AI ht,AJ hb,KK.check w Am hlx,h3,hj,h5,KK.stays w hlx,Ab _ hb,AT]
      ·rw[hlist];simpa using mr.len
      ·rw[hlist] at he;rcases Ar he with he|rfl
       ·exact mr.shape e' he
       ·exact hsh
      ·rw[hlist] at he;by_cases hi:i=j
       ·subst hi;rw[AK (by simpa using (AG.1 h4).1)] at he;cases he;have:=mr.at' i e k h4 hk';rw[h5] at this;exact this
       ·rw[AP (Al hi)] at he;exact mr.at' i e' k he hk'
      ·rw[hlist];have e3:(es.toList.set j {e with key:=a.eval X,val:=a.eval Y}).map (·.key)=es.toList.map (·.key):=by
        rw[Bf];refine Av fun i=> ?_;by_cases hi:i=j
        ·subst hi;have hlt:=(AG.1 h4).1;rw[AK (by simpa using hlt),BQ,h4];simp[h5]
        ·rw[AP (Al hi)]
       refine (Ao (f:=fun e:AR=>e.key) (R:=fun x y=>x≠y)).1 ?_;rw[e3];exact (Ao (f:=fun e:AR=>e.key) (R:=fun x y=>x≠y)).2 mr.nd
      ·rw[hlist] at he;by_cases hi:i=j
       ·subst hi;rw[AK (by simpa using (AG.1 h4).1)] at he;cases he;exact mr.born i e h4
       ·rw[AP (Al hi)] at he;exact mr.born i e' he
      ·simp[hsz]
      ·have he:(es.toList.set j {e with key:=a.eval X,val:=a.eval Y})[i]? =AE e':=by rw[<-hlist,AQ];simpa only[AQ] using he
       by_cases hi:i=j
       ·subst hi;rw[AK (by simpa using (AG.1 h4).1)] at he;have hjv:i<vals.length:=by have:=(AG.1 h4).1;omega
        rw[AK hjv] at hx;cases he;cases hx;exact h2
       ·rw[AP (Al hi)] at he hx;exact hvs i x e' hx (by simpa using he)
   ·exact hk.elim
  ·exact hk.elim
 ·exact hk.elim
end
inductive IsK:CK->AN->Prop where
 |i (k:AS) (n:Int):IsK (.i k) (.int k n)
 |o (b:Bool):IsK .o (.bool b)
def a3h (ks:List CK)(cs:List AN):Prop:=cs.length=ks.length/\ ∀(i:Nat) (k:CK),ks[i]? =AE k-> ∃v,cs[i]? =AE v/\IsK k v
theorem b8d {P:Bd}{n:Nat}{t:AZ}{ks:List CK}(h:a4l P n t=AE ks):ks.length=P.cellsOf t:=by
 cases n with
 |zero=>simp[a4l] at h
 |succ n=>
  simp only[a4l] at h;split at h
  ·split at h
   ·rename_i hc;simp at h;subst h;exact hc.symm
   ·cases h
  ·split at h
   ·rename_i hc;simp at h;subst h;exact hc.symm
   ·cases h
  ·simp only[AC,AA] at h;obtain⟨ks',hf,h⟩:=h;split at h
   ·rename_i hc;simp at h;subst h;exact hc.1
   ·cases h
  ·simp only[AC,AA] at h;obtain⟨ks',hf,h⟩:=h;split at h
   ·rename_i hc;simp at h;subst h;simp[hc.1,hc.2]
   ·cases h
  ·cases h
theorem d7f {P:Bd}{g:AZ->Option (List AS)}{g':AZ->Option (List CK)}(hg: ∀t ks,g t=AE ks->g' t=AE (ks.map .i)): ∀{fs:List B8} {off:Nat} {ks:List AS},a9y P g fs off=AE ks->a9y P g' fs off=AE (ks.map .i):=by
 intro fs
 induction fs with
 |nil=>intro off ks h;simp[a9y] at h;subst h;rfl
 |cons f fs ih=>
  intro off ks h;simp only[a9y,AC,AA] at h⊢;obtain⟨k1,h1,h⟩:=h;split at h
  ·rename_i hc;simp only[AA,AD,AB] at h;obtain⟨k2,h2,rfl⟩:=h;refine⟨_,hg _ _ h1,?_⟩;simp only[BW];rw[if_pos hc];simp only[AA,AD,AB];exact⟨_,ih h2,by simp⟩
  ·cases h
theorem e3x {P:Bd}: ∀{n:Nat} {t:AZ} {ks:List AS},b9c P n t=AE ks->a4l P n t=AE (ks.map .i):=by
 intro n
 induction n with
 |zero=>intro t ks h;simp[b9c] at h
 |succ n ih=>
  intro t ks h;simp only[b9c] at h;simp only[a4l];split at h
  ·rename_i k hu;split at h
   ·rename_i hc;simp at h;subst h;simp[hu,hc]
   ·cases h
  ·rename_i fs hu;simp only[AC,AA] at h;obtain⟨ks',hf,h⟩:=h;split at h
   ·rename_i hc;simp at h;subst h;rw[hu];simp only[AC,AA];exact⟨_,d7f (fun t ks h=>ih h) hf,by rw[BW,if_pos hc];rfl⟩
   ·cases h
  ·rename_i m e hu;simp only[AC,AA] at h;obtain⟨ks',hf,h⟩:=h;split at h
   ·rename_i hc;simp at h;subst h;rw[hu];simp only[AC,AA];exact⟨_,ih hf,by rw[BW,if_pos hc];simp⟩
   ·cases h
  ·cases h
theorem a3h.cut {ks ks':List CK}{cs:List AN}{off:Nat}(h:a3h ks cs)(hle:off+ks'.length<=cs.length)(hi: ∀i k,ks'[i]? =AE k->ks[off+i]? =AE k):a3h ks' ((cs.drop off).take ks'.length):=by refine⟨by rw[Ad,BC];omega,fun i k hk=> ?_⟩;obtain⟨n,hn⟩:=h.2 (off+i) k (hi i k hk);exact⟨n,by rw[b9o (AG.1 hk).1];exact hn⟩
section
variable {P:Bd} {w:Bb}
theorem d5d {n:Nat}{e:AZ}{ks:List CK}(hf:a4l P n e=AE ks){xs:Array AN}{off:Nat}(hi:a3h ks ((xs.toList.drop off).take ks.length)):
 ∃a,(part e xs off).run P w= .ok a w/\a.formed P e=Ai/\a.cells.toList=(xs.toList.drop off).take ks.length:=by
 have hlen:=b8d hf;cases n with
 |zero=>simp[a4l] at hf
 |succ n=>
  simp only[a4l] at hf;have agg: ∀kd,P.underlying e=AE kd->((∃n e',kd= .array n e')\/(∃fs,kd= .struct fs))-> ∃a,(part e xs off).run P w= .ok a w/\a.formed P e=Ai/\a.cells.toList=(xs.toList.drop off).take ks.length:=by
   intro kd hu hk;obtain⟨i,hi'⟩:=Ax hu;have hl:(xs.extract off (off+P.cellsOf e)).toList=(xs.toList.drop off).take ks.length:=by rw[Array.toList_extract,hlen];simp[List.extract]
   refine⟨.agg (xs.extract off (off+P.cellsOf e)),?_,?_,hl⟩
   ·rcases hk with⟨n,e',rfl⟩|⟨fs,rfl⟩<;>simp[part,isAgg,AI hu,run_sizeOf w hi']
   ·have hs:(xs.extract off (off+P.cellsOf e)).size=P.cellsOf e:=by rw[<-Af,hl,hi.1,hlen]
    rcases hk with⟨n,e',rfl⟩|⟨fs,rfl⟩<;>simp[Ag,hu,hs]
  have leaf: ∀{k:CK} {v:AN},a3h [k] ((xs.toList.drop off).take [k].length)->((xs.toList.drop off).take [k].length)[0]? =AE v->P.plainKey e=Ai->v.formed P e=Ai->v.cells= #[v]->
   ∃a,(part e xs off).run P w= .ok a w/\a.formed P e=Ai/\a.cells.toList=(xs.toList.drop off).take [k].length:=by
   intro k v hi hx hp hfm hcs;have hx2:=hx;rw[b9o (by simp),BH] at hx;have hx':xs[off]? =AE v:=by rw[<-AQ];exact hx
   refine⟨v,run_part_plain w hp hx',hfm,?_⟩;obtain⟨h1,h2⟩:=hi
   match hq:(xs.toList.drop off).take [k].length,h1 with
   |[c],_=>rw[hq] at hx2;simp at hx2;subst hx2;rw[hcs]
  split at hf
  ·rename_i k hu;split at hf
   ·simp at hf;subst hf;obtain⟨v,hx,hk⟩:=hi.2 0 _ rfl;cases hk with
    |i _ x=>exact leaf hi hx (by simp[Program.plainKey,hu]) (by simp[Ag,hu]) rfl
   ·cases hf
  ·rename_i hu;split at hf
   ·simp at hf;subst hf;obtain⟨v,hx,hk⟩:=hi.2 0 _ rfl;cases hk with
    |o x=>exact leaf hi hx (by simp[Program.plainKey,hu]) (by simp[Ag,hu]) rfl
   ·cases hf
  ·rename_i fs hu;exact agg _ hu (.inr ⟨fs,rfl⟩)
  ·rename_i m e' hu;exact agg _ hu (.inl ⟨m,e',rfl⟩)
  ·cases hf
def EqI (P:Bd)(w:Bb)(dd:Nat)(e:AZ)(ks:List CK):Prop:= ∀x y:AN,x.formed P e=Ai->y.formed P e=Ai->a3h ks x.cells.toList->a3h ks y.cells.toList->
 ∃r:Bool,(BJ dd e x y).run P w= .ok r w/\(r=Ai↔x.cells.toList=y.cells.toList)
theorem a7w {α:Type}(l:List α)(off a b:Nat):(l.drop off).take (a+b)=(l.drop off).take a++(l.drop (off+a)).take b:=by rw[List.take_add,List.drop_drop]
theorem b0l {α:Type}{a b c d:List α}(h:a.length=b.length):a++c=b++d↔a=b/\c=d:=
 ⟨fun e=>List.append_inj e h,fun⟨e1,e2⟩=>by rw[e1,e2]⟩
theorem b6z {n dd off:Nat}{e:AZ}{ks:List CK}(hf:a4l P n e=AE ks)(ih:EqI P w dd e ks){xs ys:Array AN}(hx:a3h ks ((xs.toList.drop off).take ks.length))(hy:a3h ks ((ys.toList.drop off).take ks.length)):
 ∃a b r,(part e xs off).run P w= .ok a w/\(part e ys off).run P w= .ok b w/\(BJ dd e a b).run P w= .ok r w/\(r=Ai↔(xs.toList.drop off).take ks.length=(ys.toList.drop off).take ks.length):=by
 obtain⟨a,h1,h2,h3⟩:=d5d hf hx;obtain⟨b,h4,h5,h6⟩:=d5d hf hy;obtain⟨r,h7,h8⟩:=ih a b h2 h5 (by rw[h3];exact hx) (by rw[h6];exact hy);exact⟨a,b,r,h1,h4,h7,by rw[h8,h3,h6]⟩
theorem c5i {n dd:Nat}(xs ys:Array AN): ∀(fs:List B8) (off:Nat) (ks:List CK),a9y P (a4l P n) fs off=AE ks->(∀f,f∈fs->f.name≠ "_" /\ ∀ks',a4l P n f.type=AE ks'->EqI P w dd f.type ks')->
 a3h ks ((xs.toList.drop off).take ks.length)->a3h ks ((ys.toList.drop off).take ks.length)->
 ∃r:Bool,(Bl dd xs ys fs).run P w= .ok r w/\(r=Ai↔(xs.toList.drop off).take ks.length=(ys.toList.drop off).take ks.length):=by
 intro fs
 induction fs with
 |nil=>intro off ks h _ _ _;simp[a9y] at h;subst h;exact⟨Ai,by simp[Bl],by simp⟩
 |cons f fs ih=>
  intro off ks h hall hx hy;simp only[a9y,AC,AA] at h;obtain⟨k1,h1,h⟩:=h;split at h
  ·rename_i hc;simp only[AA,AD,AB] at h;obtain⟨k2,h2,rfl⟩:=h;obtain⟨hn,hp⟩:=hall f (by simp);rw[AM,a7w] at hx hy;have cutL: ∀{zs:List AN},a3h (k1++k2) ((zs.drop off).take k1.length++(zs.drop (off+k1.length)).take k2.length)->a3h k1 ((zs.drop off).take k1.length)/\a3h k2 ((zs.drop (off+k1.length)).take k2.length):=by
    intro zs hz;have hl:=hz.1;have l1:((zs.drop off).take k1.length).length<=k1.length:=by rw[Ad];omega
    have l2:((zs.drop (off+k1.length)).take k2.length).length<=k2.length:=by rw[Ad];omega
    simp only[AM] at hl;refine⟨⟨by omega,fun i k hk=> ?_⟩,⟨by omega,fun i k hk=> ?_⟩⟩
    ·have hi:=(AG.1 hk).1;obtain⟨x,hx⟩:=hz.2 i k (by rw[AH hi];exact hk);rw[AH (by omega)] at hx;exact⟨x,hx⟩
    ·obtain⟨x,hx⟩:=hz.2 (k1.length+i) k (by rw[AF (by omega),BE];exact hk);have e1:((zs.drop off).take k1.length).length=k1.length:=by omega
     rw[AF (by omega),e1,BE] at hx;exact⟨x,hx⟩
   obtain⟨hx1,hx2⟩:=cutL hx;obtain⟨hy1,hy2⟩:=cutL hy;obtain⟨a,b,r,p1,p2,p3,hiff⟩:=b6z h1 (hp k1 h1) hx1 hy1;obtain⟨r',hr',hiff'⟩:=ih (off+k1.length) k2 h2 (fun g hg=>hall g (by simp[hg])) hx2 hy2;rw[AM,a7w,a7w,b0l (by rw[hx1.1,hy1.1])];simp only[Bl,hn,ne_eq,not_false_eq_true,if_true,Sem.run_bind,hc.1,p1,p2,p3,BM];cases r with
   |false=>exact⟨Am,by simp,by simp;intro e;exact absurd (hiff.2 e) (by simp)⟩
   |true=>refine⟨r',by simpa using hr',?_⟩;rw[hiff'];simp[hiff.1 rfl]
  ·cases h
theorem d0r {n dd:Nat}{e:AZ}{ks:List CK}(hf:a4l P n e=AE ks)(ih:EqI P w dd e ks)(xs ys:Array AN): ∀(m off:Nat),
 (∀i,i<m->a3h ks ((xs.toList.drop ((off+i)*ks.length)).take ks.length))->(∀i,i<m->a3h ks ((ys.toList.drop ((off+i)*ks.length)).take ks.length))->
 ∃r:Bool,(Bn dd e ks.length xs ys (List.range' off m)).run P w= .ok r w/\(r=Ai↔(xs.toList.drop (off*ks.length)).take (m*ks.length)=(ys.toList.drop (off*ks.length)).take (m*ks.length)):=by
 intro m
 induction m with
 |zero=>intro off _ _;exact⟨Ai,by simp[Bn],by simp⟩
 |succ m ihm=>
  intro off hx hy;have h0x:=hx 0 (by omega);have h0y:=hy 0 (by omega);rw[BH] at h0x h0y;obtain⟨a,b,r,p1,p2,p3,hiff⟩:=b6z hf ih h0x h0y;obtain⟨r',hr',hiff'⟩:=ihm (off+1) (fun i hi=>by have:=hx (i+1) (by omega);rwa [show off+(i+1)=off+1+i by omega] at this) (fun i hi=>by have:=hy (i+1) (by omega);rwa [show off+(i+1)=off+1+i by omega] at this);have e1:(m+1)*ks.length=ks.length+m*ks.length:=by rw[BG];omega
  have e2:(off+1)*ks.length=off*ks.length+ks.length:=by rw[BG]
  rw[e1,a7w,a7w,b0l (by rw[h0x.1,h0y.1]),<-e2];simp only[List.range'_succ,Bn,Sem.run_bind,p1,p2,p3,BM];cases r with
  |false=>exact⟨Am,by simp,by simp;intro e;exact absurd (hiff.2 e) (by simp)⟩
  |true=>refine⟨r',by simpa using hr',?_⟩;rw[hiff'];simp[hiff.1 rfl]
end
section
variable {P:Bd} {A:Ann} {ro:Option Nat} {E:Ent} {c:Nat} {o:Oper} {io:IOp} {st:St} {K:AV->List a0f->List Nat->Prop}
 {a:Act} {w:Bb} {S:Nat->Prop} {ρ:Rho} {h:List a0f}
theorem b4m (s:Nat)(e e2:Nat->List DV):(BL P A ro E).put s 0 e e2=e:=by funext j;show (if s<=j/\j<s+0 then e2 (j-s) else e j)=e j;rw[if_neg (by omega)]
theorem c0f {l b C sz n' s k:Nat}{e e2:Nat->List DV}{vs:Array AN}{ty:AZ}{new:List AN}(hs:Sim w S ρ h)(hρ:ρ l=AE (AE b,C))(hl:h[l]? =AE (.arr sz n' e))
 (hb:w.heap[b]? =AE (.cells vs ty (0,0))) (hv:vs.size=C*sz) (hC:n'<=C)
 (hold: ∀i,i<n'->(e i).length=sz/\ ∀(j:Nat) (x:DV) (u:AN),(e i)[j]? =AE x->vs[i*sz+j]? =AE u->DVR w S x u) (hsk:s+k<=n') (hn:new.length=k*sz)
 (hrows: ∀i,i<k->(e2 i).length=sz/\ ∀(j:Nat) (x:DV) (u:AN),(e2 i)[j]? =AE x->new[i*sz+j]? =AE u->DVR w S x u):
 Chg w S ρ h (w.setRow b (vs.toList.take (s*sz)++new++vs.toList.drop (s*sz+new.length)).toArray) S ρ (h.set l (.arr sz n' ((BL P A ro E).put s k e e2))) []:=by
 obtain⟨s1,s2,s3,s4,s5,s6⟩:=a7p (cs:=(vs.toList.take (s*sz)++new++vs.toList.drop (s*sz+new.length)).toArray) hb;have hS: ∀m,S m->(w.setRow b (vs.toList.take (s*sz)++new++vs.toList.drop (s*sz+new.length)).toArray).heap[m]? =w.heap[m]? :=
  fun m hm=>s6 m (fun e=>hs.own l b C _ hρ hl rfl (e▸hm))
 have h1:(s+k)*sz<=C*sz:=AU _ (by omega);rw[Ah] at h1;have hsize:((vs.toList.take (s*sz)++new++vs.toList.drop (s*sz+new.length)).toArray).size=C*sz:=by simp only[Bm,AM,Ad,BC,Af];omega
 refine Chg.set hs hρ hl rfl s1 s2 s3 s4 s6 ⟨_,ty,s5,hsize,hC,fun i hi=> ?_⟩;show (if s<=i/\i<s+k then e2 (i-s) else e i).length=sz/\ ∀(j:Nat) (x:DV) (u:AN),(if s<=i/\i<s+k then e2 (i-s) else e i)[j]? =AE x->_;have htl:(vs.toList.take (s*sz)).length=s*sz:=by rw[Ad,Af];omega
 by_cases hin:s<=i/\i<s+k
 ·rw[if_pos hin];have hi2:i-s<k:=by omega
  refine⟨(hrows _ hi2).1,fun j x u hx hu=> ?_⟩;have hj:j<sz:=by have:=(AG.1 hx).1;rw[(hrows _ hi2).1] at this;exact this
  have h7:(i-s+1)*sz<=k*sz:=AU _ (by omega);rw[Ah] at h7;have h8:i*sz=s*sz+(i-s)*sz:=by rw[<-Ah];congr 1;omega
  simp only[Az] at hu;rw[Aw,AF (by omega),AH (by omega),htl,show i*sz+j-s*sz=(i-s)*sz+j by omega] at hu;exact DVR.mono (w:=w) (fun _ h=>h) hS ((hrows _ hi2).2 j x u hx hu)
 ·rw[if_neg hin];refine⟨(hold i hi).1,fun j x u hx hu=> ?_⟩;have hj:j<sz:=by have:=(AG.1 hx).1;rw[(hold i hi).1] at this;exact this
  have hg:vs[i*sz+j]? =AE u:=by
   simp only[Az] at hu;by_cases hlt:i<s
   ·have h7:(i+1)*sz<=s*sz:=AU _ (by omega);rw[Ah] at h7;rw[Aw,AH (by omega),BB (by omega)] at hu;simpa using hu
   ·have h7:(s+k)*sz<=i*sz:=AU _ (by omega);rw[Ah] at h7;rw[AF (by rw[AM];omega),A9,AM,htl,hn,show s*sz+k*sz+(i*sz+j-(s*sz+k*sz))=i*sz+j by omega] at hu;simpa using hu
  exact DVR.mono (w:=w) (fun _ h=>h) hS ((hold i hi).2 j x u hx hg)
theorem Els.front {sz n k:Nat}{e:Nat->List DV}{aa:Option B4}{cap:Nat}(h:Els w S sz n e aa cap)(hk:k<=n):Els w S sz k e aa cap:=by
 by_cases h0:k=0
 ·exact .inl h0
 ·rcases h with h|⟨b,off,h1,h2,h3⟩
  ·omega
  ·exact .inr ⟨b,off,h1,by omega,fun i hi=>h3 i (by omega)⟩
theorem c0k {sz n k:Nat}{e:Nat->List DV}{aa:Option B4}{cap:Nat}(he:Els w S sz n e aa cap)(hk:k<=n):
 ∃new:Array AN,(Bg sz k (.slice aa n cap)).run P w= .ok new w/\new.size=k*sz/\(∀v,v∈new.toList->0<sz->v.oneCell'=Ai)/\
  ∀i,i<k->(e i).length=sz/\ ∀(j:Nat) (x:DV) (u:AN),(e i)[j]? =AE x->new.toList[i*sz+j]? =AE u->DVR w S x u:=by
 obtain⟨new,h1,h2,h3,h4⟩:=a1y (P:=P) (he.front hk) (fun _ _ _=>trivial);refine⟨new,?_,h2,fun v hv hn0=> ?_,fun i hi=>⟨h3 i hi,fun j x u hx hu=>h4 i hi j x u hx (by simpa using hu)⟩⟩
 ·cases aa<;>exact h1
 ·obtain⟨q,hq,rfl⟩:=Bk hv;have hq2:q<k*sz:=by simpa [h2] using hq
  have hi:q/sz<k:=(Bh hn0).2 hq2;have hj:q % sz<sz:=B3 _ hn0;have hx:(e (q/sz))[q % sz]? =AE ((e (q/sz))[q % sz]'(by rw[h3 _ hi];exact hj)):=AY _;refine DVR.one (h4 (q/sz) hi (q % sz) _ new.toList[q] hx ?_);rw[show q/sz*sz+q % sz=q by rw[By];exact Bs q sz];simp at hq;simp[hq]
theorem b6m {sz:Nat}{x:AV}{v:AN}{K:Nat->Nat->(Nat->List DV)->Prop}(hs:Sim w S ρ h)(h1:VR w S ρ x v)(hk:a8b (BL P A ro E) sz h x K):
 ∃sz n e a cap,K sz n e/\v= .slice a n cap/\Els w S sz n e a cap:=by
 unfold a8b at hk;split at hk
 ·exact⟨sz,0,_,A5,0,hk,h1.nil,.inl rfl⟩
 ·cases h1 with
  |d hd=>
   cases hd with
   |raw _ _=>exact⟨sz,0,_,_,_,hk,rfl,.inl rfl⟩
 ·exact b4z hs h1 hk
theorem d7q {l sz n n' s0:Nat}{s:Option Nat}{f:Bool}{e:Nat->List DV}{v:AN}(hs:Sim w S ρ h)(h0:VR w S ρ (.msl l sz s n f) v)(hl:h[l]? =AE (.arr sz n' e))(hs0:s0=s.getD 0)(hle:s0+n<=n'):
 ∃aa cap,v= .slice aa n cap/\n<=cap/\(f=Am->n'<=s0+cap)/\((n'=0\/cap=0)\/ ∃b C vs ty,ρ l=AE (AE b,C)/\aa=AE ⟨b,s0*sz,A5⟩/\w.heap[b]? =AE (.cells vs ty (0,0))/\vs.size=C*sz/\n'<=C/\
  ∀i,i<n'->(e i).length=sz/\ ∀(j:Nat) (x:DV) (u:AN),(e i)[j]? =AE x->vs[i*sz+j]? =AE u->DVR w S x u):=by
 subst hs0;cases h0 with
 |msl _ _ _ _ _ ob C cap aa hρ hc hcap ha=>
  obtain⟨oo,h1,h2⟩:=hs.obj l ob C hρ;rw[hl] at h1;cases h1;have hn:n<=cap:=by rw[hcap];split<;>omega
  have hC:n'<=C:=by
   cases ob with
   |none=>obtain⟨_,sz2,e2,h3|h3⟩:=h2<;>cases h3;omega
   |some b=>obtain⟨vs,ty,h3,h4,h5,h6⟩:=h2;exact h5
  refine⟨aa,cap,rfl,hn,fun hf=>by subst hf;simp at hcap;omega,?_⟩;by_cases h0:cap=0
  ·exact .inl (.inr h0)
  ·cases ob with
   |none=>obtain⟨_,sz2,e2,h3|h3⟩:=h2<;>cases h3;exact .inl (.inl rfl)
   |some b=>obtain⟨vs,ty,h3,h4,h5,h6⟩:=h2;exact .inr ⟨b,C,vs,ty,hρ,by simpa using ha (by omega),h3,h4,h5,h6⟩
theorem b5s {l:Nat}{oo:a0f}(hl:h[l]? =AE oo):h.set l oo=h:=by obtain⟨h1,h2⟩:=AG.1 hl;rw[<-h2];exact List.set_getElem_self h1
theorem b3f (s:Option Nat):c2c s=s.getD 0:=by cases s<;>rfl
theorem c5b {t u e e':AZ}{X Y:Aj}(hop:o.op= .call {callee:= .builtin .append,args:= #[X,Y],argTypes:= #[t,u]})
 (ht:P.underlying t=AE (.slice e)) (hu:P.underlying u=AE (.slice e')) {sz:Nat} (hsz:a1x P e=AE sz)
 {x y:a0h} (hx:a0g X=AE x) (hy:a0g Y=AE y) (hk:a0a (BL P A ro E) (.appendIn sz x y) st K) (hr:Br E st a w S ρ):Bj P o a w S ρ st.h K:=by
 have h0:=a0t hr.ts hx;have h1:=a0t hr.ts hy;simp only[a0a] at hk;have run: ∀r w',(AX #[t,u] o.type #[a.eval X,a.eval Y]).run P w= .ok r w'->(AW a.eval o).run P w= .ok (.value r) w':=by intro r w' h;simp[AW,hop,Bw,B2,builtin,h]
 have run: ∀r w',(AX #[t,u] t #[a.eval X,a.eval Y]).run P w= .ok r w'->(AW a.eval o).run P w= .ok (.value r) w':=run;revert h0 h1 hk run;generalize opd st.ts x=p;generalize opd st.ts y=q;generalize a.eval X=v;generalize a.eval Y=v2;intro hk h0 h1 run;unfold a4o at hk;obtain⟨sz2,m,e2,a2,cap2,hk2,hv2,he2⟩:=b6m hr.sim h1 hk;clear hk;subst hv2;obtain⟨hn0,hszr⟩:=a1s hsz;split at hk2
 ·rename_i hs2;have hs2:=AL hs2;subst hs2;split at hk2
  ·rename_i l sz' s n;split at hk2
   ·rename_i hs1;have hs1:=AL hs1;subst hs1;simp only[a0i,a0l,a3n] at hk2;split at hk2
    ·rename_i sz'' n' e1 hl;split at hk2
     ·rename_i hs3;have hs3:=AL hs3;subst hs3;obtain⟨hle,hk⟩:(s.getD 0+n+m<=n')/\K (.msl l sz s (n+m) Am) (st.h.set l (.arr sz n' ((BL P A ro E).put (s.getD 0+n) m e1 e2))) []:=hk2;obtain⟨aa,cap,hv,hnc,hcap,hblk⟩:=d7q hr.sim h0 hl rfl (by omega);have hcap:=hcap rfl;subst hv;obtain⟨new,hnew,hn1,hn2,hn3⟩:=c0k (P:=P) he2 (Aa m);have vr:VR w S ρ (.msl l sz s (n+m) Am) (.slice aa (n+m) cap):=by
       cases h0 with
       |msl _ _ _ _ _ ob C _ _ hρ hc hcap2 ha=>exact .msl l sz s (n+m) Am ob C cap aa hρ (by simp at hcap2;omega) (by simpa using hcap2) ha
      by_cases hm:m=0
      ·subst hm;rw[b4m,b5s hl] at hk;refine .same hr.sim (run _ _ ?_) hk vr;have hnil:new.toList=[]:=by
        have:new.size=0:=by omega
        simpa using this
       cases aa with
       |none=>simp[AX,AI ht,AI hu,hszr,Ay,hnew,hnc]
       |some pa=>simp[AX,AI ht,AI hu,hszr,Ay,hnew,hnil,BV,hnc]
      ·rcases hblk with (h2|h2)|⟨b,C,vs,ty,hρ,rfl,hb,hvs,hC,hold⟩
       ·omega
       ·omega
       ·have hCs:(s.getD 0+n+m)*sz<=C*sz:=AU _ (by omega);rw[Ah,Ah] at hCs;have hrun:=a5o (P:=P) (b:=b) (off:=s.getD 0*sz) (n:=n) (cap:=cap) ht hu hsz (by omega) hnew hb (by rw[hvs,hn1];omega) (fun v hv=>hn2 v hv hn0);have k:=c0f (P:=P) (A:=A) (ro:=ro) (E:=E) (s:=s.getD 0+n) (k:=m) (new:=new.toList) hr.sim hρ hl hb hvs hC hold (by omega) (by simpa using hn1) hn3;rw[Ah] at k;exact⟨_,_,_,_,[],S,ρ,.inl (run _ _ hrun),hk,k,vr.mono k.ext.mono k.ext.cell (fun m p hm=>hm)⟩
     ·exact hk2.elim
    ·exact hk2.elim
   ·exact hk2.elim
  ·exact hk2.elim
 ·exact hk2.elim
theorem d7b {e:Nat->List DV}: ∀{k:Nat} {l:List AV},b2m e k=AE l->l.length=k/\ ∀i,i<k-> ∃x,e i=[x]/\l[i]? =AE (.d x):=by
 intro k
 induction k with
 |zero=>intro l h;simp[b2m] at h;subst h;simp
 |succ k ih=>
  intro l h;simp only[b2m] at h;split at h
  ·rename_i l' hl';split at h
   ·rename_i x hx;simp only[AB] at h;obtain⟨h1,h2⟩:=ih hl';subst h;rw[a0r];refine⟨by simp[h1],fun i hi=> ?_⟩;by_cases hik:i<k
    ·obtain⟨y,hy,hl⟩:=h2 i hik;exact⟨y,hy,by rw[AH (by omega)];exact hl⟩
    ·have:i=k:=by omega
     subst this;exact⟨x,hx,by rw[AF (by omega),h1];simp⟩
   ·cases h
  ·cases h
theorem e4m {t u e:AZ}{X Y:Aj}(hop:o.op= .call {callee:= .builtin .copy,args:= #[X,Y],argTypes:= #[t,u]})
 (ht:P.underlying t=AE (.slice e)) {sz:Nat} (hsz:a1x P e=AE sz)
 {x y:a0h} (hx:a0g X=AE x) (hy:a0g Y=AE y) (hk:a0a (BL P A ro E) (.copy sz x y) st K) (hr:Br E st a w S ρ):Bj P o a w S ρ st.h K:=by
 have h0:=a0t hr.ts hx;have h1:=a0t hr.ts hy;obtain⟨cs,hex⟩:=a2d (a:=a) hop;simp only[a0a] at hk;have run: ∀r w',(BY #[t,u] o.type #[a.eval X,a.eval Y]).run P w= .ok r w'->(AW a.eval o).run P w= .ok (.value r) w':=by intro r w' h;rw[hex];simp[builtin,h]
 revert h0 h1 hk run;generalize opd st.ts x=p;generalize opd st.ts y=q;generalize a.eval X=v;generalize a.eval Y=v2;intro hk h0 h1 run;unfold a5z at hk;obtain⟨sz2,m,e2,a2,cap2,hk2,hv2,he2⟩:=b6m hr.sim h1 hk;clear hk;subst hv2;obtain⟨hn0,hszr⟩:=a1s hsz;have main: ∀(aa:Option B4) (n cap:Nat) (new:Array AN) (w':Bb),v= .slice aa n cap->(Bg sz (min n m) (.slice a2 m cap2)).run P w= .ok new w->
  (match aa with|some pa=>(BV pa new.toList).run P w= .ok () w'|none=>w'=w)->(AW a.eval o).run P w= .ok (.value (.int .i64 (min n m:Nat))) w':=by
  intro aa n cap new w' hv hnew hst;subst hv;refine run _ _ ?_;have hmin:Nat.min m n=min n m:=Nat.min_comm m n;cases aa with
  |none=>simp only at hst;subst hst;simp[BY,AI ht,hszr,Ay,hmin,hnew,B5]
  |some pa=>simp only at hst;simp[BY,AI ht,hszr,Ay,hmin,hnew,hst,B5]
 split at hk2
 ·rename_i hs2;have hs2:=AL hs2;subst hs2;split at hk2
  ·rename_i l sz' s n f;split at hk2
   ·rename_i hs1;have hs1:=AL hs1;subst hs1;simp only[a0i,a0l,a3n,b3f] at hk2;split at hk2
    ·rename_i sz'' n' e1 hl;split at hk2
     ·rename_i hs3;have hs3:=AL hs3;subst hs3;obtain⟨hle,hk⟩:(s.getD 0+n<=n')/\K (.d (.int .i64 (.v (min n m:Nat)))) (st.h.set l (.arr sz n' ((BL P A ro E).put (s.getD 0) (min n m) e1 e2))) []:=hk2;obtain⟨aa,cap,hv,hnc,_,hblk⟩:=d7q hr.sim h0 hl rfl hle;obtain⟨new,hnew,hn1,hn2,hn3⟩:=c0k (P:=P) (k:=min n m) he2 (Bp _ _);by_cases hm:min n m=0
      ·rw[hm,b4m,b5s hl] at hk;have hnil:new.toList=[]:=by
        have:new.size=0:=by rw[hn1,hm];simp
        simpa using this
       have hrun:=main aa n cap new w hv hnew (by cases aa<;>simp[hnil,BV]);rw[hm] at hrun;exact .same hr.sim hrun hk (.d (.int .i64 (.v ((0:Nat):Int))))
      ·rcases hblk with (h2|h2)|⟨b,C,vs,ty,hρ,rfl,hb,hvs,hC,hold⟩
       ·omega
       ·omega
       ·have hCs:(s.getD 0+min n m)*sz<=C*sz:=AU _ (by omega);rw[Ah] at hCs;have hst:=BX (P:=P) b (s.getD 0*sz) ty new.toList 0 vs w hb (by simp[hvs,hn1];omega) (fun v hv=>hn2 v hv hn0);simp only[BH] at hst;have hrun:=main _ n cap new _ hv hnew hst;have k:=c0f (P:=P) (A:=A) (ro:=ro) (E:=E) (s:=s.getD 0) (k:=min n m) (new:=new.toList) hr.sim hρ hl hb hvs hC hold (by omega) (by simpa using hn1) hn3;exact⟨_,_,_,_,[],S,ρ,.inl hrun,hk,k,.d (.int .i64 (.v _))⟩
     ·exact hk2.elim
    ·exact hk2.elim
   ·exact hk2.elim
  ·rename_i l off n;split at hk2
   ·rename_i hs1;have hs1:=AL hs1;subst hs1;simp only[a0i,a0l] at hk2;split at hk2
    ·rename_i cs0 hl;split at hk2
     ·rename_i newA hnewA;split at hk2
      ·rename_i cs' hcs';have hk:K (.d (.int .i64 (.v (min n m:Nat)))) (st.h.set l (.var cs')) []:=hk2;have hnewA:b2m e2 (min n m)=AE newA:=hnewA;obtain⟨r1,r2⟩:=d7b hnewA;obtain⟨p1,p2⟩:=b5h _ _ _ _ hcs';obtain⟨new,hnew,hn1,hn2,hn3⟩:=c0k (P:=P) (k:=min n m) he2 (Bp _ _);cases h0 with
       |vsl _ _ _ b C cap hρ hcap=>
        obtain⟨oo,h2,h3⟩:=hr.sim.obj l _ C hρ;rw[hl] at h2;cases h2;obtain⟨vs,ty,hb,hvs,hold⟩:=h3;rw[B0] at hn1;have hst:=BX (P:=P) b off ty new.toList 0 vs w hb (by simp[hvs,hn1];omega) (fun v hv=>hn2 v hv hn0);simp only[BH] at hst;have hrun:=main _ n cap new _ rfl hnew hst;obtain⟨s1,s2,s3,s4,s5,s6⟩:=a7p (cs:=(vs.toList.take off++new.toList++vs.toList.drop (off+new.toList.length)).toArray) hb;have hS: ∀m,S m->(w.setRow b (vs.toList.take off++new.toList++vs.toList.drop (off+new.toList.length)).toArray).heap[m]? =w.heap[m]? :=
         fun m hm=>s6 m (fun e=>hr.sim.own l b C _ hρ hl rfl (e▸hm))
        have hnl:new.toList.length=min n m:=by simpa using hn1
        have k:=Chg.set hr.sim hρ hl rfl s1 s2 s3 s4 s6 (o':= .var cs') ⟨_,ty,s5,?_,fun i x u hx hu=> ?_⟩
        ·exact⟨_,_,_,_,[],S,ρ,.inl hrun,hk,k,.d (.int .i64 (.v _))⟩
        ·rw[p2];simp only[Bm,AM,Ad,BC,Af];omega
        ·rw[p2] at hx;simp only[Az] at hu;have htl:(vs.toList.take off).length=off:=by rw[Ad,Af];omega
         have htc:(cs0.take off).length=off:=by rw[Ad];omega
         by_cases h1:i<off
         ·rw[Aw,AH (by omega),BB h1] at hx hu;exact (hold i x u hx (by simpa using hu)).mono (fun _ h=>h) hS (fun _ _ h=>h)
         ·by_cases h2:i<off+min n m
          ·rw[Aw,AF (by omega),AH (by omega),htc] at hx;rw[Aw,AF (by omega),AH (by omega),htl] at hu;obtain⟨y,hy1,hy2⟩:=r2 (i-off) (by omega);rw[hy2] at hx;cases hx;exact .d (((hn3 (i-off) (by omega)).2 0 y u (by rw[hy1];rfl) (by simpa using hu)).mono (fun _ h=>h) hS)
          ·rw[AF (by rw[AM];omega),A9,AM,htc,r1,show off+min n m+(i-(off+min n m))=i by omega] at hx;rw[AF (by rw[AM];omega),A9,AM,htl,hnl,show off+min n m+(i-(off+min n m))=i by omega] at hu;exact (hold i x u hx (by simpa using hu)).mono (fun _ h=>h) hS (fun _ _ h=>h)
      ·exact hk2.elim
     ·exact hk2.elim
    ·exact hk2.elim
   ·exact hk2.elim
  ·exact hk2.elim
 ·exact hk2.elim
end
theorem c5h:(b1b== "runtime.NumGoroutine")=Am:=by decide
structure OkP (P:Bd):Prop where
 laid:BN P=Ai
 ovl: ∀(f:FuncId) (fn:Func),P.funcs[f]? =AE fn->fn.body.isNone=Ai->fn.name=b1b->
  Extern.findNext fn=A5/\ ∃tS tR e,Extern.find fn=AE (Extern.SlicesOverlaps.overlaps #[tS,tS] #[tR])/\P.underlying tS=AE (.slice e)/\ ∀w,(sizeOf e).run P w= .ok 1 w
section
variable {P:Bd} {A:Ann} {ro:Option Nat} {E:Ent} {c:Nat} {o:Oper} {io:IOp} {st:St} {K:AV->List a0f->List Nat->Prop}
 {a:Act} {w:Bb} {S:Nat->Prop} {ρ:Rho} {h:List a0f}
theorem d7d {t e:AZ}{X:Aj}(hop:o.op= .call {callee:= .builtin .clear,args:= #[X],argTypes:= #[t]})(ht:P.underlying t=AE (.slice e)){sz:Nat}{zs:List DV}(hsz:a1x P e=AE sz)
 (hz:a5d P e=AE zs) (hzl:zs.length=sz) {x:a0h} (hx:a0g X=AE x) (hk:a0a (BL P A ro E) (.clear sz zs x) st K) (hr:Br E st a w S ρ):Bj P o a w S ρ st.h K:=by
 have h0:=a0t hr.ts hx;obtain⟨cs,hex⟩:=a2d (a:=a) hop;obtain⟨hn0,hszr⟩:=a1s hsz;obtain⟨i,z,hi,hz0,hd⟩:=a5f hz;obtain⟨d1,d2⟩:=a4y hd;simp only[a0a] at hk;split at hk
 ·rename_i l sz' s n f e1;rw[e1] at h0;split at hk
  ·rename_i hs1;have hs1:=AL hs1;subst hs1;simp only[a0i,a0l,a3n,b3f] at hk;split at hk
   ·rename_i sz'' n' e2 hl;split at hk
    ·rename_i hs3;have hs3:=AL hs3;subst hs3;obtain⟨hle,hk⟩:(s.getD 0+n<=n')/\K .any (st.h.set l (.arr sz n' ((BL P A ro E).put (s.getD 0) n e2 ((BL P A ro E).rep n zs)))) []:=hk;obtain⟨aa,cap,hv,hnc,_,hblk⟩:=d7q hr.sim h0 hl rfl hle;have run: ∀w',(BI #[t] o.type #[a.eval X]).run P w= .ok (.tuple #[]) w'->(AW a.eval o).run P w= .ok (.value (.tuple #[])) w':=by intro w' h;rw[hex];simp[builtin,h]
     rw[hv] at run;by_cases hn:n=0
     ·subst hn;rw[b4m,b5s hl] at hk;refine .same hr.sim (run _ ?_) hk (.any _);cases aa<;>simp[BI,AI ht]
     ·rcases hblk with (h2|h2)|⟨b,C,vs,ty,hρ,rfl,hb,hvs,hC,hold⟩
      ·omega
      ·omega
      ·have hCs:(s.getD 0+n)*sz<=C*sz:=AU _ (by omega);rw[Ah] at hCs;have hzc:z.cells.size=sz:=by rw[<-d1,hzl]
       have hnew:Bi z.cells n=(BA (n*sz)).map (z.cells[· % z.cells.size]!):=by simp[Bi,hzc]
       have hrows: ∀i',i'<n->((BL P A ro E).rep n zs i').length=sz/\ ∀(j:Nat) (x:DV) (u:AN),((BL P A ro E).rep n zs i')[j]? =AE x->((BA (n*sz)).map (z.cells[· % z.cells.size]!)).toList[i'*sz+j]? =AE u->DVR w S x u:=by intro i' hi';rw[show (BL P A ro E).rep n zs i'=zs from if_pos hi'];exact⟨hzl,fun j x u hx hu=>a2r hd hzl n S w i' hi' j x u hx (by rw[AQ] at hu;exact hu)⟩
       have hone: ∀v,v∈((BA (n*sz)).map (z.cells[· % z.cells.size]!)).toList->v.oneCell'=Ai:=by
        intro v hv;obtain⟨q,hq,rfl⟩:=Bk hv;have hq2:q<n*sz:=by simpa using hq
        have hi2:q/sz<n:=(Bh hn0).2 hq2;have hj:q % sz<sz:=B3 _ hn0;have hx:zs[q % sz]? =AE (zs[q % sz]'(by rw[hzl];exact hj)):=AY _;refine DVR.one (a2r hd hzl n S w (q/sz) hi2 (q % sz) _ _ hx ?_);rw[show q/sz*sz+q % sz=q by rw[By];exact Bs q sz];rw[<-AQ];exact AY hq
       have hst:=BX (P:=P) b (s.getD 0*sz) ty ((BA (n*sz)).map (z.cells[· % z.cells.size]!)).toList 0 vs w hb (by simp[hvs];omega) hone;simp only[BH] at hst;have hrun: ∀w2,(BV ⟨b,s.getD 0*sz,A5⟩ ((BA (n*sz)).map (z.cells[· % z.cells.size]!)).toList).run P w= .ok () w2->(BI #[t] o.type #[.slice (AE ⟨b,s.getD 0*sz,A5⟩) n cap]).run P w= .ok (.tuple #[]) w2:=by intro w2 h;obtain⟨n0,rfl⟩: ∃n0,n=n0+1:=⟨n-1,by omega⟩;simp only[BI];simp only[Az,Au,Sem.run_bind,AI ht,BM,a3m hi hz0,hnew,h,Sem.run_pure]
       have k:=c0f (P:=P) (A:=A) (ro:=ro) (E:=E) (s:=s.getD 0) (k:=n) hr.sim hρ hl hb hvs hC hold (by omega) (by simp) hrows;exact⟨_,_,_,_,[],S,ρ,.inl (run _ (hrun _ hst)),hk,k,.any _⟩
    ·exact hk.elim
   ·exact hk.elim
  ·exact hk.elim
 ·exact hk.elim
theorem c7b {op:BinOp}{t t' e:AZ}{X:Aj}{neg:Bool}(hop:o.op= .binOp op t X (.const (.slice A5 0 0)) t')(hneg:op=if neg then .neq else .eql)(ht:P.underlying t=AE (.slice e))
 {x:a0h} (hx:a0g X=AE x) (hk:a0a (BL P A ro E) (.isnil neg x) st K) (hr:Br E st a w S ρ):Bj P o a w S ρ st.h K:=by
 have h0:=a0t hr.ts hx;have eqr: ∀(aa:Option B4) (n cap:Nat),(B6 t (.slice aa n cap) (.slice A5 0 0)).run P w= .ok aa.isNone w:=by
  intro aa n cap;have gen: ∀d,(BJ (d+1) t (.slice aa n cap) (.slice A5 0 0)).run P w= .ok aa.isNone w:=fun d=>by cases aa<;>simp[BJ,AI ht]
  exact gen 9999
 have fin: ∀(aa:Option B4) (n cap:Nat) (b:Bool),a.eval X= .slice aa n cap->b=(if neg then !aa.isNone else aa.isNone)->K (.d (.bool b)) st.h []->Bj P o a w S ρ st.h K:=by
  intro aa n cap b hv hb hk;refine .same hr.sim (v:= .bool b) ?_ hk (.d (.bool b));subst hb hneg;have hc:a.eval (.const (.slice A5 0 0))= .slice A5 0 0:=rfl;cases neg with
  |true=>simp only[if_true] at hop⊢;simp[AW,hop,hv,hc,a1q (P:=P) (w:=w) (u:= .slice aa n cap) rfl,binOp,eqr]
  |false=>simp only[An,if_false] at hop⊢;simp[AW,hop,hv,hc,a1q (P:=P) (w:=w) (u:= .slice aa n cap) rfl,binOp,eqr]
 simp only[a0a] at hk;split at hk
 ·rename_i e1;rw[e1] at h0;refine fin A5 0 0 _ h0.nil ?_ hk;cases neg<;>rfl
 ·rename_i sz n ee e1;rw[e1] at h0;obtain⟨hn,hk⟩:(0<n)/\_:=hk;generalize hv:a.eval X=v at h0;cases h0 with
  |d hd=>
   cases hd with
   |sl0 sz e aa cap=>omega
   |sl sz n e b off cap f hb hc hl hv' hr'=>refine fin _ _ _ _ hv ?_ hk;cases neg<;>rfl
 ·rename_i sz n ee e1;rw[e1] at h0;obtain⟨hn,hk⟩:(0<n)/\_:=hk;generalize hv:a.eval X=v at h0;cases h0 with
  |dfs _ _ _ aa hd=>
   cases hd with
   |sl0 sz e aa cap=>omega
   |sl sz n e b off cap f hb hc hl hv' hr'=>refine fin _ _ _ _ hv ?_ hk;cases neg<;>rfl
 ·rename_i l sz s n f e1;rw[e1] at h0;obtain⟨hn,hk⟩:(0<n)/\_:=hk;generalize hv:a.eval X=v at h0;cases h0 with
  |msl _ _ _ _ _ ob C cap aa hρ hc hcap ha=>
   have hcp:0<cap:=by rw[hcap];split<;>omega
   have haa:=ha hcp;cases ob with
   |none=>obtain⟨oo,h1,h2⟩:=hr.sim.obj l _ C hρ;have:=h2.1;omega
   |some b=>subst haa;refine fin _ _ _ _ hv ?_ hk;cases neg<;>rfl
 ·rename_i n c e1;rw[e1] at h0;generalize hv:a.eval X=v at h0;cases h0 with
  |d hd=>
   cases hd with
   |raw _ _=>refine fin A5 n c _ hv ?_ hk;cases neg<;>rfl
 ·rename_i aa n c e1;rw[e1] at h0;generalize hv:a.eval X=v at h0;cases h0 with
  |d hd=>
   cases hd with
   |raw _ _=>refine fin (AE aa) n c _ hv ?_ hk;cases neg<;>rfl
 ·exact hk.elim
theorem d2d {t e:AZ}{X:Aj}{LO HI:Option Aj}(hop:o.op= .slice t X LO HI A5)(ht:P.underlying t=AE (.slice e)){sz:Nat}(hsz:a1x P e=AE sz)
 {x:a0h} {lo hi:Option a0h} (hx:a0g X=AE x) (hlo:a1z LO=AE lo) (hhi:a1z HI=AE hi)
 (hk:a0a (BL P A ro E) (.slicex sz x lo hi) st K) (hr:Br E st a w S ρ):Bj P o a w S ρ st.h K:=by
 have h0:=a0t hr.ts hx;simp only[a0a] at hk;split at hk
 ·rename_i l sz' s n e1;rw[e1] at h0;split at hk
  ·rename_i hs1;have hs1:=AL hs1;subst hs1;simp only[a0i] at hk;split at hk
   ·rename_i sz'' n' e2 hl;split at hk
    ·rename_i hs3;obtain⟨L,hk1,hL⟩:=a4q hr.ts hlo hk;obtain⟨H,hk2,hH⟩:=a4q hr.ts hhi hk1;clear hk hk1;simp only[a0o,a3n] at hk2;obtain⟨g1,g2,g3,hk⟩:(0<=L.val)/\(L.val<=H.val)/\(s.getD 0+H.val.toNat<=n')/\K (.msl l sz (a6q (BL P A ro E) s L) (H.val.toNat-L.val.toNat) Am) st.h []:=hk2;generalize hv:a.eval X=v at h0;cases h0 with
     |msl _ _ _ _ _ ob C cap aa hρ hc hcap ha=>
      obtain⟨oo,h1,h2⟩:=hr.sim.obj l ob C hρ;rw[hl] at h1;cases h1;have hC:n'<=C:=by
       cases ob with
       |none=>obtain⟨_,sz2,e2,h3|h3⟩:=h2<;>cases h3;omega
       |some b=>obtain⟨vs,ty,h3,h4,h5,h6⟩:=h2;exact h5
      simp at hcap;have hLn:((L.val.toNat:Nat):Int)=L.val:=As g1;have hHn:((H.val.toNat:Nat):Int)=H.val:=As (by omega);have hL':(LO.map a.eval=A5/\L.val.toNat=0)\/LO.map a.eval=AE (.int .i64 (L.val.toNat:Nat)):=by
       rcases hL with⟨h1,h2⟩|h1
       ·left;simp[h1,h2,IX.val]
       ·right;rw[h1,hLn]
      have hH':(HI.map a.eval=A5/\H.val.toNat=n/\(A5:Option AN)=A5)\/HI.map a.eval=AE (.int .i64 (H.val.toNat:Nat)):=by
       rcases hH with⟨h1,h2⟩|h1
       ·left;exact⟨by simp[h1],by simp[h2,IX.val,BL],rfl⟩
       ·right;rw[h1,hHn]
      have hrun:=a3b (w:=w) ht hsz (aa:=aa) (cap:=cap) hL' hH' (.inl ⟨rfl,rfl⟩) (by omega) (by omega) (Aa cap);have run: ∀{r:AN},(Bu t (.slice aa n cap) (LO.map a.eval) (HI.map a.eval) A5).run P w= .ok r w->(AW a.eval o).run P w= .ok (.value r) w:=by intro r h;simp[AW,hop,hv,h]
      refine .same hr.sim (run hrun) hk (.msl l sz _ _ Am ob C _ _ hρ (by rw[a2h];omega) (by rw[a2h];simp;omega) (fun h5=> ?_))
      ·rw[if_neg (by omega),ha (by omega),a2h];cases ob with
       |none=>rfl
       |some b=>simp[a1n,Ah]
    ·exact hk.elim
   ·exact hk.elim
  ·exact hk.elim
 ·exact hk.elim
theorem d8f {t e:AZ}{X H0:Aj}{LO MX:Option Aj}(hop:o.op= .slice t X LO (AE H0) MX)(ht:P.underlying t=AE (.slice e)){sz:Nat}(hsz:a1x P e=AE sz)
 {x:a0h} {lo hi mx:Option a0h} (hx:a0g X=AE x) (hlo:a1z LO=AE lo) (hhi:a1z (AE H0)=AE hi) (hmx:a1z MX=AE mx)
 (hk:a0a (BL P A ro E) (.slchk sz x lo hi mx) st K) (hr:Br E st a w S ρ):Bj P o a w S ρ st.h K:=by
 have h0:=a0t hr.ts hx;simp only[a0a] at hk;have main: ∀(aa:Option B4) (n cap sz':Nat),a.eval X= .slice aa n cap->n<=cap->a4h (BL P A ro E) st.ts sz sz' n lo hi mx (K .any st.h [])->Bj P o a w S ρ st.h K:=by
  intro aa n cap sz' hv hnc hk;have run: ∀{r:AN},(Bu t (.slice aa n cap) (LO.map a.eval) ((AE H0).map a.eval) (MX.map a.eval)).run P w= .ok r w->(AW a.eval o).run P w= .ok (.value r) w:=by intro r h;simp at h;simp[AW,hop,hv,h]
  unfold a4h at hk;split at hk
  ·obtain⟨L,hk1,hL⟩:=a4q hr.ts hlo hk;obtain⟨H,hk2,hH⟩:=a4q hr.ts hhi hk1;obtain⟨M,hk3,hM⟩:=a4q hr.ts hmx hk2;clear hk hk1 hk2;obtain⟨g1,g2,g3,g4,hk⟩:(0<=L.val)/\(L.val<=H.val)/\(H.val<=M.val)/\(M.val<=(n:Int))/\K .any st.h []:=hk3;have hLn:((L.val.toNat:Nat):Int)=L.val:=As g1;have hHn:((H.val.toNat:Nat):Int)=H.val:=As (by omega);have hMn:((M.val.toNat:Nat):Int)=M.val:=As (by omega);have hL':(LO.map a.eval=A5/\L.val.toNat=0)\/LO.map a.eval=AE (.int .i64 (L.val.toNat:Nat)):=by
    rcases hL with⟨h1,h2⟩|h1
    ·left;simp[h1,h2,IX.val]
    ·right;rw[h1,hLn]
   have hH':(AE H0:Option Aj).map a.eval=AE (.int .i64 (H.val.toNat:Nat)):=by
    rcases hH with⟨h1,h2⟩|h1
    ·cases h1
    ·rw[h1,hHn]
   rcases hM with⟨h1,h2⟩|h1
   ·have hrun:=a3b (w:=w) ht hsz (aa:=aa) (len:=n) (cap:=cap) (mv:=MX.map a.eval) hL' (.inr hH') (.inl ⟨by simp[h1],rfl⟩) (by omega) (by omega) (Aa cap);exact .same hr.sim (run hrun) hk (.any _)
   ·have hrun:=a3b (w:=w) ht hsz (aa:=aa) (len:=n) (cap:=cap) (M:=M.val.toNat) (mv:=MX.map a.eval) hL' (.inr hH') (.inr (by rw[h1,hMn])) (by omega) (by omega) (by omega);exact .same hr.sim (run hrun) hk (.any _)
  ·exact hk.elim
 split at hk
 ·rename_i l sz' s n f e1;rw[e1] at h0;generalize hv:a.eval X=v at h0;cases h0 with
  |msl _ _ _ _ _ ob C cap aa hρ hc hcap ha=>exact main _ _ _ _ hv (by rw[hcap];split<;>omega) hk
 ·rename_i sz' n ee e1;rw[e1] at h0;generalize hv:a.eval X=v at h0;cases h0 with
  |d hd=>
   cases hd with
   |sl0 sz e aa cap=>exact main _ _ _ _ hv (Nat.zero_le _) hk
   |sl sz n e b off cap f hb hc hl hv' hr'=>exact main _ _ _ _ hv hc hk
 ·exact hk.elim
theorem e3j {t:AZ}{s:ByteArray}{X:Aj}(hop:o.op= .index t (.const (.string s)) X)(ht:P.underlying t=AE .string){x:a0h}(hx:a0g X=AE x)
 (hk:a0a (BL P A ro E) (.idxs s.data.toList x) st K) (hr:Br E st a w S ρ):Bj P o a w S ρ st.h K:=by
 have h0:=a0t hr.ts hx;simp only[a0a] at hk;split at hk
 ·rename_i k i e1;rw[e1] at h0;rw[a0u] at hk;obtain⟨⟨g1,g2⟩,hk⟩:(0<=i.val/\i.val<(s.data.toList.length:Int))/\K (.d (.int .u8 (.v ((s.data.toList.getD i.val.toNat 0).toNat:Int)))) st.h []:=hk;refine .same hr.sim (v:= .int .u8 ((s.data.toList.getD i.val.toNat 0).toNat:Int)) ?_ hk (.d (.int .u8 (.v _)));have hc:a.eval (.const (.string s))= .string s:=rfl;have hlt:i.val.toNat<s.data.size:=by rw[Af] at g2;omega
  have hg:s[i.val.toNat]? =AE (s.data[i.val.toNat]'hlt):=by have hlt':i.val.toNat<s.size:=hlt;rw[getElem?_pos s i.val.toNat hlt'];rfl
  have hd:s.data.toList.getD i.val.toNat 0=s.data[i.val.toNat]'hlt:=by rw[List.getD_eq_getElem?_getD,AQ,Array.getElem?_eq_getElem hlt];rfl
  rw[hd];simp[AW,hop,hc,h0.int,Instr.index,asIntOf,AI ht,g1,hg]
 ·exact hk.elim
theorem d0l {t e:AZ}{ps:Array (Nat×Aj)}(hop:o.op= .buildSlice t 0 ps)(hps:ps.toList=[])(ht:P.underlying t=AE (.slice e)){sz:Nat}(hsz:a1x P e=AE sz):
 (AW a.eval o).run P w= .ok (.value (.slice (AE ⟨w.heap.size,0,A5⟩) 0 0)) (w.alloc (.cells #[] e)):=by
 obtain⟨hn0,hszr⟩:=a1s hsz;have hps':ps= #[]:=by apply A6;simpa using hps
 have r0: ∀f:Nat->AN,(BA 0).map f= #[]:=fun f=>by apply A6;simp
 simp[AW,hop,hps',Instr.buildSlice,AI ht,hszr,r0,newRow,Instr.fill]
theorem f0s (hok:OkP P){f:FuncId}{fn:Func}(hf:P.funcs[f]? =AE fn)(hb:fn.body.isNone=Ai)(hname:fn.name=b1b){X Y:Aj}{tys:Array AZ}
 (hop:o.op= .call {callee:= .value (.func f),args:= #[X,Y],argTypes:=tys}) {x y:a0h} (hx:a0g X=AE x) (hy:a0g Y=AE y)
 (hk:a0a (BL P A ro E) (.ovl x y) st K) (hr:Br E st a w S ρ):Bj P o a w S ρ st.h K:=by
 have h0:=a0t hr.ts hx;have h1:=a0t hr.ts hy;obtain⟨hn,tS,tR,e,he,ht,hz⟩:=hok.ovl f fn hf hb hname;simp only[a0a] at hk;split at hk
 ·rename_i l sl1 sl2 sl3 sl4 l' sr1 sr2 sr3 sr4 e1 e2;rw[e1] at h0;rw[e2] at h1;split at hk
  ·exact hk.elim
  ·rename_i hne;obtain⟨hla,hlb,hk⟩:(0<sl3)/\(0<sr3)/\_:=hk;simp only[a0i] at hk;split at hk
   ·rename_i n1 ee1 n2 ee2 hl1 hl2;obtain⟨hpos,hk⟩:(0<n2)/\K (.d (.bool Am)) st.h []:=hk;generalize hv1:a.eval X=v1 at h0;generalize hv2:a.eval Y=v2 at h1;cases h0 with
    |msl _ _ _ la _ ob1 C1 cap1 aa1 hρ1 hc1 hcap1 ha1=>
     cases h1 with
     |msl _ _ _ lb _ ob2 C2 cap2 aa2 hρ2 hc2 hcap2 ha2=>
      refine .same hr.sim (v:= .bool Am) ?_ hk (.d (.bool Am));have hcall:(callFunc f #[.slice aa1 sl3 cap1,.slice aa2 sr3 cap2]).run P w= .ok (.value (.bool Am)) w:=by
       rw[run_callFunc_extern hf (by rw[hname];exact c5h) hb hn he];obtain⟨o1,q1,q2⟩:=hr.sim.obj l ob1 C1 hρ1;rw[hl1] at q1;cases q1;obtain⟨o2,q3,q4⟩:=hr.sim.obj l' ob2 C2 hρ2;rw[hl2] at q3;cases q3;have hcp1:0<cap1:=by rw[hcap1];split<;>omega
       have hcp2:0<cap2:=by rw[hcap2];split<;>omega
       cases ob1 with
       |none=>have:=q2.1;omega
       |some b1=>
        cases ob2 with
        |none=>have:=q4.1;omega
        |some b2=>
         obtain⟨vs1,ty1,p1,p2,p3,p4⟩:=q2;obtain⟨vs2,ty2,p5,p6,p7,p8⟩:=q4;have hbne:b1≠b2:=by intro hb12;subst hb12;have:=hr.sim.inj l l' b1 C1 C2 hρ1 hρ2;subst this;simp at hne
         have haa1:=ha1 hcp1;have haa2:=ha2 hcp2;simp only[BS] at haa1 haa2;subst haa1 haa2;rw[Lib.run_overlaps_apart w tS tR e ht 1 hz _ _ sl3 cap1 sr3 cap2 hbne ty1 ty2 vs1.size vs2.size (by simp[World.shape?,p1]) (by simp[World.shape?,p5]) (by rw[p6,B0];omega)
          (by simp[World.frozen?,p1]) (by simp[World.frozen?,p1])]
         rfl
      have hF:a.eval (.func f)= .func (.func f) #[] #[]:=rfl;simp[AW,hop,Bw,hF,Deferred.ofValue,B2,hv1,hv2,hcall]
   ·exact hk.elim
 ·exact hk.elim
end
section
variable {P:Bd} {A:Ann} {ro:Option Nat} {E:Ent} {c:Nat} {o:Oper} {io:IOp} {st:St} {K:AV->List a0f->List Nat->Prop}
 {a:Act} {w:Bb} {S:Nat->Prop} {ρ:Rho} {h:List a0f} {next:Act->Bb->Prop} {Q:Exit->Act->Bb->Prop}
theorem a7e {t k e:AZ}(h:c4t P t=AE (k,e)):P.underlying t=AE (.map k e):=by
 simp[c4t,AA] at h;obtain⟨d,hd,h⟩:=h;split at h
 ·simp at h;obtain⟨rfl,rfl⟩:=h;exact hd
 ·cases h
theorem c0h (d:Nat): ∀(m:Nat) (t:AZ),P.keyTypeAt m t=Ai-> ∀(n:Nat) (ks:List CK),a4l P n t=AE ks->EqI P w (d+m) t ks
 |0,_,h=>by simp[Program.keyTypeAt] at h
 |m+1,t,hk=>by
  intro n ks hf x y fx fy hx hy;cases n with
  |zero=>simp[a4l] at hf
  |succ n=>
   unfold Program.keyTypeAt at hk;simp only[a4l] at hf;split at hf
   ·rename_i q hu;split at hf
    ·simp at hf;subst hf;have one: ∀{z:AN},z.formed P t=Ai->z.cells= #[z]:=by
      intro z hz;cases z<;>first|rfl|(simp[Ag,hu] at hz)
     rw[one fx] at hx;rw[one fy] at hy;obtain⟨x',h1,k1⟩:=hx.2 0 _ rfl;obtain⟨y',h2,k2⟩:=hy.2 0 _ rfl;have h1:AE x=AE x':=h1;have h2:AE y=AE y':=h2;cases h1;cases h2;cases k1 with
     |i _ n1=>
      cases k2 with
      |i _ n2=>refine⟨n1==n2,?_,by simp[A2]⟩;rw[show d+(m+1)=(d+m)+1 from rfl];simp[BJ,AI hu]
    ·cases hf
   ·rename_i hu;split at hf
    ·simp at hf;subst hf;have one: ∀{z:AN},z.formed P t=Ai->z.cells= #[z]:=by
      intro z hz;cases z<;>first|rfl|(simp[Ag,hu] at hz)
     rw[one fx] at hx;rw[one fy] at hy;obtain⟨x',h1,k1⟩:=hx.2 0 _ rfl;obtain⟨y',h2,k2⟩:=hy.2 0 _ rfl;have h1:AE x=AE x':=h1;have h2:AE y=AE y':=h2;cases h1;cases h2;cases k1 with
     |o n1=>
      cases k2 with
      |o n2=>refine⟨n1==n2,?_,by simp[A2]⟩;rw[show d+(m+1)=(d+m)+1 from rfl];simp[BJ,AI hu]
    ·cases hf
   ·rename_i fs hu;simp only[AC,AA] at hf;obtain⟨ks',hff,hf⟩:=hf;split at hf
    ·rename_i hc;simp only[AD,AB] at hf;subst hf;simp only[hu,BU,Bool.not_eq_true'] at hk;cases x<;>simp only[Ag,hu,An] at fx;cases y<;>simp only[Ag,hu,An] at fy;rename_i xs ys;have hfs:P.fieldsOf t=fs:=by simp[Program.fieldsOf,hu]
     have cut: ∀{l:List AN},l.length=ks'.length->(l.drop 0).take ks'.length=l:=fun h=>by rw[Bt,<-h,Bo]
     simp only[A2] at hx hy⊢;obtain⟨r,hr,hiff⟩:=c5i (w:=w) (dd:=d+m) xs ys fs.toList 0 ks' hff (fun f hf=>by
      have:=Array.all_eq_true_iff_forall_mem.1 hk.1.1 f (Array.mem_toList_iff.1 hf);simp only[BU,bne_iff_ne,ne_eq] at this;exact⟨this.1,fun k2 hk2=>c0h d m f.type this.2 n k2 hk2⟩) (by rw[cut hx.1];exact hx) (by rw[cut hy.1];exact hy)
     rw[cut hx.1,cut hy.1] at hiff;exact⟨r,by rw[show d+(m+1)=(d+m)+1 from rfl,run_equalIn_struct w (d+m) t xs ys (by rw[hfs];exact hu) hk.2,hfs];exact hr,hiff⟩
    ·cases hf
   ·rename_i len e hu;simp only[AC,AA] at hf;obtain⟨ks',hfe,hf⟩:=hf;split at hf
    ·rename_i hc;simp only[AD,AB] at hf;subst hf;simp only[hu] at hk;cases x<;>simp only[Ag,hu,An] at fx;cases y<;>simp only[Ag,hu,An] at fy;rename_i xs ys;simp only[A2] at hx hy⊢;have hL:((A7 len ks').flatten).length=len*ks'.length:=by simp
     have hi: ∃i,P.info? e=AE i:=by
      cases n with
      |zero=>simp[a4l] at hfe
      |succ n=>
       simp only[a4l] at hfe;split at hfe
       ·rename_i hue;exact Ax hue
       ·rename_i hue;exact Ax hue
       ·rename_i hue;exact Ax hue
       ·rename_i hue;exact Ax hue
       ·cases hfe
     obtain⟨i,hi⟩:=hi;have sub: ∀{zs:Array AN},a3h (A7 len ks').flatten zs.toList-> ∀i,i<len->a3h ks' ((zs.toList.drop ((0+i)*ks'.length)).take ks'.length):=by intro zs hz i hi;have h1:=hz.1;rw[hL] at h1;have h2:(i+1)*ks'.length<=len*ks'.length:=AU _ (by omega);rw[Ah] at h2;rw[BF];refine hz.cut (by omega) fun j k hj=> ?_;rw[c6x _ _ _ _ hi (AG.1 hj).1];exact hj
     have cut: ∀{zs:Array AN},a3h (A7 len ks').flatten zs.toList->(zs.toList.drop (0*ks'.length)).take (len*ks'.length)=zs.toList:=fun hz=>by have h1:=hz.1;rw[hL] at h1;rw[Nat.zero_mul,Bt,<-h1,Bo]
     obtain⟨r,hr,hiff⟩:=d0r hfe (c0h d m e hk n ks' hfe) xs ys len 0 (sub hx) (sub hy);rw[cut hx,cut hy] at hiff;refine⟨r,?_,hiff⟩;rw[show d+(m+1)=(d+m)+1 from rfl,run_equalIn_array w (d+m) xs ys hu hi,<-hc.1,List.range_eq_range'];exact hr
    ·cases hf
   ·cases hf
theorem e4q {ks:List CK}: ∀{xs ys:List AV} {us vs:List AN} {b:Bool},c6a (BL P A ro E) ks xs ys=AE b->xs.length=us.length->ys.length=vs.length->
 (∀(i:Nat) (x:AV) (v:AN),xs[i]? =AE x->us[i]? =AE v->VR w S ρ x v)->(∀(i:Nat) (x:AV) (v:AN),ys[i]? =AE x->vs[i]? =AE v->VR w S ρ x v)->
 a3h ks us/\a3h ks vs/\(b=Ai↔us=vs):=by
 have mk: ∀{k:CK} {ks:List CK} {z:AN} {ws:List AN},IsK k z->a3h ks ws->a3h (k::ks) (z::ws):=by
  intro k ks z ws hz hw;refine⟨by simp[hw.1],fun i q hq=> ?_⟩;cases i with
  |zero=>simp at hq;subst hq;exact⟨z,rfl,hz⟩
  |succ i=>simp at hq⊢;exact hw.2 i q hq
 induction ks with
 |nil=>
  intro xs ys us vs b h h1 h2 _ _
  match xs,ys,h with
  |[],[],h=>simp[c6a] at h;subst h;cases us<;>simp at h1;cases vs<;>simp at h2;exact⟨⟨rfl,by simp⟩,⟨rfl,by simp⟩,by simp⟩
 |cons k ks ih=>
  intro xs ys us vs b h h1 h2 hx hy;cases k with
  |i k=>
   match xs,ys,us,vs,h,h1,h2 with
   | .d (.int k1 x)::xs,.d (.int k2 y)::ys,u::us,v::vs,h,h1,h2=>
     simp only[c6a] at h;split at h
     ·rename_i hk1;split at h
      ·rename_i hk2;split at h
       ·rename_i b' hb';simp only[AB] at h;obtain⟨i1,i2,i3⟩:=ih hb' (by simpa using h1) (by simpa using h2) (fun i x v hx' hv'=>hx (i+1) x v (by simpa using hx') (by simpa using hv')) (fun i x v hx' hv'=>hy (i+1) x v (by simpa using hx') (by simpa using hv'));have e1:u= .int k x.val:=by rw[hk1];exact (hx 0 _ u rfl rfl).int
        have e2:v= .int k y.val:=by rw[hk2];exact (hy 0 _ v rfl rfl).int
        subst e1 e2;refine⟨mk (.i k _) i1,mk (.i k _) i2,?_⟩;rw[<-h];show ((x.val==y.val)&&b')=Ai↔_;simp[i3]
       ·cases h
      ·cases h
     ·cases h
  |o=>
   match xs,ys,us,vs,h,h1,h2 with
   | .d (.bool x)::xs,.d (.bool y)::ys,u::us,v::vs,h,h1,h2=>
     simp only[c6a] at h;split at h
     ·rename_i b' hb';simp only[AB] at h;obtain⟨i1,i2,i3⟩:=ih hb' (by simpa using h1) (by simpa using h2) (fun i x v hx' hv'=>hx (i+1) x v (by simpa using hx') (by simpa using hv')) (fun i x v hx' hv'=>hy (i+1) x v (by simpa using hx') (by simpa using hv'));have e1:u= .bool x:=(hx 0 _ u rfl rfl).bool;have e2:v= .bool y:=(hy 0 _ v rfl rfl).bool;subst e1 e2;refine⟨mk (.o _) i1,mk (.o _) i2,?_⟩;rw[<-h];show ((x==y)&&b')=Ai↔_;simp[i3]
     ·cases h
theorem e2t {S:Sig}{ks:List AS}: ∀{xs ys:List AV} {b:Bool},d9q S ks xs ys=AE b->c6a S (ks.map .i) xs ys=AE b:=by
 induction ks with
 |nil=>
  intro xs ys b h
  match xs,ys,h with
  |[],[],h=>exact h
 |cons k ks ih=>
  intro xs ys b h
  match xs,ys,h with
  | .d (.int k1 x)::xs,.d (.int k2 y)::ys,h=>
    simp only[d9q] at h;simp only[List.map_cons,c6a];split at h
    ·rename_i hk1;split at h
     ·rename_i hk2;split at h
      ·rename_i b' hb';rw[if_pos hk1,if_pos hk2,ih hb'];exact h
      ·cases h
     ·cases h
    ·cases h
theorem c2v {op:BinOp}{t t':AZ}{X Y:Aj}(hop:o.op= .binOp op t X Y t'){neg:Bool}(hneg:op=if neg then .neq else .eql){ks:List CK}(hk0:d7w P t=AE ks){kd:TypeDesc}(hu:P.underlying t=AE kd)(hkd:(∃n e,kd= .array n e)\/ ∃fs,kd= .struct fs)
 (hg:P.eqGuardType P.depth t=Am)
 {x y:a0h} (hx:a0g X=AE x) (hy:a0g Y=AE y) (hk:a0a (BL P A ro E) (.aeqw neg ks x y) st K) (hr:Br E st a w S ρ):Bj P o a w S ρ st.h K:=by
 have h0:=a0t hr.ts hx;have h1:=a0t hr.ts hy;simp only[a0a] at hk;split at hk
 ·rename_i xs ys e1 e2;rw[e1] at h0;rw[e2] at h1;generalize hv1:a.eval X=v1 at h0;generalize hv2:a.eval Y=v2 at h1;split at hk
  ·rename_i b hb;cases h0 with
   |agg _ us hl1 hc1=>
    cases h1 with
    |agg _ vs hl2 hc2=>
     obtain⟨i1,i2,i3⟩:=e4q (us:=us.toList) (vs:=vs.toList) hb (by simpa using hl1) (by simpa using hl2) (fun i x v hx hv=>hc1 i x v hx (by simpa using hv)) (fun i x v hx hv=>hc2 i x v hx (by simpa using hv));simp only[d7w,AC,AA] at hk0;obtain⟨ks',hf,hk0⟩:=hk0;split at hk0
     ·rename_i hkt;simp only[AD,AB] at hk0;subst hk0;have hlen:=b8d hf;have fm: ∀{zs:Array AN},a3h ks' zs.toList->(Bz zs).formed P t=Ai:=by
       intro zs hz;have:=hz.1;simp only[Af] at this;rcases hkd with⟨n,e,rfl⟩|⟨fs,rfl⟩<;>simp[Ag,hu,this,hlen]
      obtain⟨r,hrun,hiff⟩:=c0h (w:=w) (10000-20) 20 t hkt _ ks' hf (.agg us) (.agg vs) (fm i1) (fm i2) i1 i2;have hrb:r=b:=by
       have:r=Ai↔b=Ai:=by rw[hiff,i3];rfl
       cases r<;>cases b<;>simp_all
      subst hrb;have heq:(B6 t (.agg us) (.agg vs)).run P w= .ok r w:=hrun;have hgd: ∀op,(eqGuard op t X Y (.agg us) (.agg vs)).run P w= .ok () w:=by intro op;have hp:(program:Sem Bd).run P w= .ok P w:=rfl;unfold eqGuard;cases op<;>simp[hp,hg]
      subst hneg;cases neg with
      |true=>simp only[if_true] at hop hk;refine .same hr.sim (v:= .bool (!r)) ?_ hk (.d (.bool _));simp[AW,hop,hv1,hv2,hgd,binOp,heq]
      |false=>simp only[An,if_false] at hop hk;refine .same hr.sim (v:= .bool r) ?_ hk (.d (.bool _));simp[AW,hop,hv1,hv2,hgd,binOp,heq]
     ·cases hk0
  ·exact hk.elim
 ·exact hk.elim
theorem e2u {op:BinOp}{t t':AZ}{X Y:Aj}(hop:o.op= .binOp op t X Y t'){neg:Bool}(hneg:op=if neg then .neq else .eql){fs:Array B8}(hu:P.underlying t=AE (.struct fs))
 (hg:P.eqGuardType P.depth t=Am) {x y:a0h} (hx:a0g X=AE x) (hy:a0g Y=AE y) (hc:b6q P neg t x y=AE io) (hk:a0a (BL P A ro E) io st K) (hr:Br E st a w S ρ):Bj P o a w S ρ st.h K:=by
 unfold b6q at hc;split at hc
 ·rename_i k hk0;cases hc;have hk1:d7w P t=AE (k.2.map .i):=by
   simp only[c5c,AC,AA] at hk0;obtain⟨ks',hf,hk0⟩:=hk0;rw[hu] at hk0;simp only at hk0;split at hk0
   ·rename_i hkt;simp only[AD,AB] at hk0;subst hk0;simp only[d7w,AC,AA];exact⟨_,e3x hf,by rw[if_pos hkt.1];rfl⟩
   ·cases hk0
  refine c2v (A:=A) (ro:=ro) hop hneg hk1 hu (.inr ⟨fs,rfl⟩) hg hx hy ?_ hr;simp only[a0a] at hk⊢;split at hk
  ·rename_i e1 e2;split at hk
   ·rename_i b hb;simp only[e2t hb];exact hk
   ·exact hk.elim
  ·exact hk.elim
 ·simp only[AC,AA,AD,AB] at hc;obtain⟨ks,hk0,rfl⟩:=hc;exact c2v hop hneg hk0 hu (.inr ⟨fs,rfl⟩) hg hx hy hk hr
theorem d1x (hl:BN P=Ai){t kt et:AZ}{M X:Aj}{ok:Bool}(hop:o.op= .lookup t M X ok)(ht:P.underlying t=AE (.map kt et))(hz: ∀w,(Bx et).run P w= .ok (.int .i64 0) w){wide:Bool}{ks:List AS}(hk0:c5c P kt=AE (wide,ks))
 {m x:a0h} (hm:a0g M=AE m) (hx:a0g X=AE x) (hk:a0a (BL P A ro E) (.lookup wide ks ok m x) st K) (hr:Br E st a w S ρ):Bj P o a w S ρ st.h K:=by
 have h0:=a0t hr.ts hm;have h1:=a0t hr.ts hx;simp only[a0a] at hk;split at hk
 ·rename_i l e1;rw[e1] at h0;split at hk
  ·rename_i wide' ks' n f hlg;split at hk
   ·rename_i hc;obtain⟨rfl,rfl⟩:=hc;generalize hv:a.eval M=v at h0;cases h0 with
    |map _ b C hρ=>
     obtain⟨kc,hsh,hkey,hk⟩:=a7u h1 hk;obtain⟨oo,ho,hh⟩:=hr.sim.obj l _ C hρ;rw[<-a0i,hlg] at ho;cases ho;obtain⟨es,clock,hb,mr⟩:=hh;obtain⟨KK,hks,_⟩:=a7q hl hk0;obtain⟨lx,hlx⟩:=hks _ hsh;have hex: ∀{r:Option (Nat×AN)},(Ba kt (a.eval X) es.toList).run P w= .ok r w->
      (AW a.eval o).run P w= .ok (.value (if ok then .tuple #[(r.map (·.2)).getD (.int .i64 0),.bool r.isSome] else (r.map (·.2)).getD (.int .i64 0))) w:=by
      intro r hf;cases r with
      |none=>simp[AW,hop,hv,BO,AI ht,AJ hb,KK.check w _ hlx,hf,hz,AT]
      |some r=>simp[AW,hop,hv,BO,AI ht,AJ hb,KK.check w _ hlx,hf,AT]
     have fin: ∀{r:Option (Nat×AN)} {q:Option Int},(Ba kt (a.eval X) es.toList).run P w= .ok r w->r.map (·.2)=q.map (BR .i64)->f kc=q->Bj P o a w S ρ st.h K:=by
      intro r q hf hq hfq;have hrv:(r.map (·.2)).getD (.int .i64 0)= .int .i64 (q.getD 0):=by rw[hq];cases q<;>rfl
      have hri:r.isSome=q.isSome:=by have:=congrArg Option.isSome hq;simpa using this
      have hex:=hex hf;rw[hrv,hri] at hex;subst hfq;cases ok with
      |true=>
       refine .same hr.sim hex hk (.tuple _ _ rfl fun i x v hx hv=> ?_)
       match i with
       |0=>simp at hx hv;subst hx;subst hv;exact .d (.int .i64 (.v ((f kc).getD 0)))
       |1=>simp at hx hv;subst hx;subst hv;exact .d (.bool (f kc).isSome)
       |i+2=>simp at hx
      |false=>exact .same hr.sim hex hk (.d (.int .i64 (.v ((f kc).getD 0))))
     rcases KK.find w hlx es.toList (fun e he=>hks _ (mr.keys e he)) with⟨h2,h3⟩|⟨j,e,h2,h3,h4⟩
     ·exact fin h2 (q:=A5) rfl (by rw[<-mr.find];exact b3b hsh hkey mr.keys h3)
     ·have he:=Ak h3;obtain⟨q,hq⟩:=mr.vals e he;exact fin h2 (q:=AE q) (by simp[hq]) (by rw[<-mr.find];exact b2y hsh hkey mr.keys mr.nd he h4 hq)
   ·exact hk.elim
  ·exact hk.elim
 ·exact hk.elim
theorem c7f {t:AZ}{z:AV}(h:b8x P t=AE z): ∃v,(∀w,(Bx t).run P w= .ok v w)/\ ∀w S ρ,VR w S ρ z v:=by simp only[b8x,AC,AA] at h;obtain⟨i,hi,v,hv,h⟩:=h;exact⟨v,fun w=>a3m hi hv,fun w S ρ=>d5c h⟩
theorem b7g (hl:BN P=Ai){t kt et:AZ}{M X:Aj}{ok:Bool}(hop:o.op= .lookup t M X ok)(ht:P.underlying t=AE (.map kt et)){z:AV}(hz:b8x P et=AE z){wide:Bool}{ks:List AS}(hk0:c5c P kt=AE (wide,ks))
 {m x:a0h} (hm:a0g M=AE m) (hx:a0g X=AE x) (hk:a0a (BL P A ro E) (.lookupv wide ks ok z m x) st K) (hr:Br E st a w S ρ):Bj P o a w S ρ st.h K:=by
 have h0:=a0t hr.ts hm;have h1:=a0t hr.ts hx;obtain⟨zv,hz1,hz2⟩:=c7f hz;simp only[a0a] at hk;split at hk
 ·rename_i l e1;rw[e1] at h0;split at hk
  ·rename_i wide' ks' keys vals hlg;split at hk
   ·rename_i hc;obtain⟨rfl,rfl⟩:=hc;generalize hv:a.eval M=v at h0;cases h0 with
    |map _ b C hρ=>
     obtain⟨kc,hsh,hkey,hk⟩:=a7u h1 hk;obtain⟨oo,ho,hh⟩:=hr.sim.obj l _ C hρ;rw[<-a0i,hlg] at ho;cases ho;obtain⟨es,clock,hb,mr,⟨hsz,_⟩,hvs⟩:=hh;obtain⟨KK,hks,_⟩:=a7q hl hk0;obtain⟨lx,hlx⟩:=hks _ hsh;have hat:a6s es.toList keys:=⟨mr.len,mr.at'⟩;have hvl:vals.length=es.toList.length:=by rw[<-hsz];simp
     have hex: ∀{r:Option (Nat×AN)},(Ba kt (a.eval X) es.toList).run P w= .ok r w->
      (AW a.eval o).run P w= .ok (.value (if ok then .tuple #[(r.map (·.2)).getD zv,.bool r.isSome] else (r.map (·.2)).getD zv)) w:=by
      intro r hf;cases r with
      |none=>simp[AW,hop,hv,BO,AI ht,AJ hb,KK.check w _ hlx,hf,hz1,AT]
      |some r=>simp[AW,hop,hv,BO,AI ht,AJ hb,KK.check w _ hlx,hf,AT]
     have two: ∀{x:AV} {v:AN} {b:Bool},VR w S ρ x v->VR w S ρ (.tuple [x,.d (.bool b)]) (.tuple #[v,.bool b]):=fun {x v b} h=> .tuple _ _ rfl fun i y u hy hu=>by
      match i with
      |0=>simp at hy hu;subst hy;subst hu;exact h
      |1=>simp at hy hu;subst hy;subst hu;exact .d (.bool b)
      |i+2=>simp at hy
     rcases KK.find w hlx es.toList (fun e he=>hks _ (mr.shape e he)) with⟨h2,h3⟩|⟨j,e,h2,h3,h4⟩
     ·obtain⟨hnone,_⟩:=d5n hsh hkey .any (vals:=vals) hat mr.shape h3;rw[hnone] at hk;have hex:=hex h2;cases ok with
      |true=>exact .same hr.sim hex hk (two (hz2 _ _ _))
      |false=>exact .same hr.sim hex hk (hz2 _ _ _)
     ·obtain⟨⟨v',hv',hsome⟩,_⟩:=d5g hsh hkey .any (vals:=vals) hat hvl mr.shape mr.nd h3 h4;rw[hsome] at hk;have hex:=hex h2;have hvr:=hvs j v' e hv' (by simpa using h3);cases ok with
      |true=>exact .same hr.sim hex hk (two hvr)
      |false=>exact .same hr.sim hex hk hvr
   ·exact hk.elim
  ·exact hk.elim
 ·exact hk.elim
theorem d4b (hl:BN P=Ai){t kt et:AZ}{M X:Aj}(hop:o.op= .mapEntry t M X)(ht:P.underlying t=AE (.map kt et)){z:AV}(hz:b8x P et=AE z){wide:Bool}{ks:List AS}(hk0:c5c P kt=AE (wide,ks))
 {m x:a0h} (hm:a0g M=AE m) (hx:a0g X=AE x) (hk:a0a (BL P A ro E) (.mapent wide ks z m x) st K) (hr:Br E st a w S ρ):Bj P o a w S ρ st.h K:=by
 have h0:=a0t hr.ts hm;have h1:=a0t hr.ts hx;obtain⟨zv,hz1,hz2⟩:=c7f hz;simp only[a0a] at hk;split at hk
 ·rename_i l e1;rw[e1] at h0;split at hk
  ·rename_i wide' ks' keys vals hlg;split at hk
   ·rename_i hc;obtain⟨rfl,rfl⟩:=hc;generalize hv:a.eval M=v at h0;cases h0 with
    |map _ b C hρ=>
     obtain⟨kc,hsh,hkey,hk⟩:=a7u h1 hk;obtain⟨oo,ho,hh⟩:=hr.sim.obj l _ C hρ;have hlg':=hlg;rw[a0i] at hlg';rw[hlg'] at ho;cases ho;obtain⟨es,clock,hb,mr,⟨hsz,hck⟩,hvs⟩:=hh;obtain⟨KK,hks,_⟩:=a7q hl hk0;obtain⟨lx,hlx⟩:=hks _ hsh;have hat:a6s es.toList keys:=⟨mr.len,mr.at'⟩;have hvl:vals.length=es.toList.length:=by rw[<-hsz];simp
     have hbl:b<w.heap.size:=(Ap.1 hb).1;have hnS: ¬S b:=hr.sim.own l b C _ hρ hlg' rfl;have two: ∀{w':Bb} {x:AV} {v:AN} {n:Int},VR w' S ρ x v->VR w' S ρ (.tuple [x,.d (.int .i64 (.v n))]) (.tuple #[v,.int .i64 n]):=fun {w' x v n} h=> .tuple _ _ rfl fun i y u hy hu=>by
      match i with
      |0=>simp at hy hu;subst hy;subst hu;exact h
      |1=>simp at hy hu;subst hy;subst hu;exact .d (.int .i64 (.v n))
      |i+2=>simp at hy
     have hsub: ∀es' clock',∀k,S k->(w.heap.setIfInBounds b (.map es' clock'))[k]? =w.heap[k]? :=fun es' clock' k hkS=>by have hne:k≠b:=fun e=>hnS (e▸hkS);simp[AO (Al hne)]
     rcases KK.find w hlx es.toList (fun e he=>hks _ (mr.shape e he)) with⟨h3,h4⟩|⟨j,e,h3,h4,h5⟩
     ·rw[c8e hsh hkey 0 hat mr.shape h4] at hk;simp only[a0r,a0l,a0u] at hk;have hlk:(BL P A ro E).ofNat keys.length=(clock:Int):=by
       have h6:=mr.len;have h7:es.toList.length=es.size:=by simp
       show (keys.length:Int)=clock;rw[h6,h7,hck]
      rw[hlk] at hk;refine⟨.tuple #[zv,.int .i64 clock],{w with heap:=w.heap.setIfInBounds b (.map (es.push ⟨a.eval X,zv,clock⟩) (clock+1))},_,_,[],S,ρ,.inl ?_,hk,?_,two (hz2 _ _ _)⟩
      ·simp[AW,hop,hv,Bq,AI ht,AJ hb,KK.check w Am hlx,h3,hz1,Ab _ hb,AT,B5]
      ·refine Chg.set hr.sim hρ hlg' rfl rfl ⟨rfl,Aa _⟩ rfl (by simp) (fun k hne=>by simp[AO (Al hne)]) ⟨es.push ⟨a.eval X,zv,clock⟩,clock+1,by simp[hbl],⟨?_,fun e he=> ?_,fun i e k he hk'=> ?_,?_,fun i e he=> ?_⟩,⟨by simp[hsz],by simp[hck]⟩,fun i x e hx he=> ?_⟩
       ·have:=mr.len;simp;simpa using this
       ·simp at he;rcases he with he|rfl
        ·exact mr.shape e (by simpa using he)
        ·exact hsh
       ·rw[Ae] at he;have hlen:=mr.len;by_cases hi:i<es.toList.length
        ·rw[AH hi] at he;rw[AH (by omega)] at hk';exact mr.at' i e k he hk'
        ·rw[AF (by omega)] at he;rw[AF (by omega),hlen] at hk';cases hd:i-es.toList.length with
         |zero=>rw[hd] at he hk';simp at he hk';subst he;subst hk';exact hkey
         |succ d=>rw[hd] at he;simp at he
       ·rw[Ae];refine BK.2 ⟨mr.nd,by simp,fun e he e' he'=> ?_⟩;simp at he';subst he';exact h4 e he
       ·rw[Ae] at he;by_cases hi:i<es.toList.length
        ·rw[AH hi] at he;exact mr.born i e he
        ·rw[AF (by omega)] at he;cases hd:i-es.toList.length with
         |zero=>
          rw[hd] at he;simp at he;subst he;have:es.toList.length=es.size:=by simp
          show clock=i;omega
         |succ d=>rw[hd] at he;simp at he
       ·by_cases hi:i<vals.length
        ·rw[AH hi] at hx;rw[A4,if_neg (by omega)] at he;exact (hvs i x e hx he).mono (fun _ h=>h) (hsub _ _) fun _ _ h=>h
        ·rw[AF (by omega)] at hx;cases hd:i-vals.length with
         |zero=>rw[hd] at hx;rw[A4,if_pos (by omega)] at he;simp at hx he;subst hx;subst he;exact hz2 _ _ _
         |succ d=>rw[hd] at hx;simp at hx
     ·rw[c7o hsh hkey 0 hat mr.shape mr.nd h4 h5] at hk;simp only[BF,a0i] at hk;have hj:es[j]? =AE e:=by simpa using h4
      have hjl:j<vals.length:=by have:=(AG.1 h4).1;omega
      rw[AY hjl] at hk;have hvj:VR w S ρ vals[j] e.val:=hvs j _ e (AY hjl) hj;have hbj:=mr.born j e h4;have hmod:es.modify j (fun e'=>{e' with key:=a.eval X})=es:=by
       apply A6;rw[A3,Aq _ _ _ _ h4];rw[show ({e with key:=a.eval X}:AR)=e by rw[<-h5]];refine Av fun i=> ?_;by_cases hi:i=j
       ·subst hi;rw[AK (AG.1 h4).1,h4]
       ·rw[AP (Al hi)]
      have hid:({w with heap:=w.heap.setIfInBounds b (.map es clock)}:Bb)=w:=by
       have:w.heap.setIfInBounds b (.map es clock)=w.heap:=by
        apply A6;rw[Array.toList_setIfInBounds];refine Av fun i=> ?_;by_cases hi:i=b
        ·subst hi;rw[AK (by simpa using hbl)];simpa using hb.symm
        ·rw[AP (Al hi)]
       rw[this]
      refine .same hr.sim (v:= .tuple #[e.val,.int .i64 j]) ?_ hk (two hvj);have hrun:(AW a.eval o).run P w= .ok (.value (.tuple #[e.val,.int .i64 (e.born:Int)])) {w with heap:=w.heap.setIfInBounds b (.map (es.modify j (fun e'=>{e' with key:=a.eval X})) clock)}:=by simp[AW,hop,hv,Bq,AI ht,AJ hb,KK.check w Am hlx,h3,hj,h5,KK.stays w hlx,Ab _ hb,AT,B5]
      rw[hrun,hmod,hid,hbj]
   ·exact hk.elim
  ·exact hk.elim
 ·exact hk.elim
theorem d8c {t:AZ}{M Y X:Aj}(hop:o.op= .entryStore t M Y X){m y x:a0h}(hm:a0g M=AE m)(hy:a0g Y=AE y)(hx:a0g X=AE x)(hk:a0a (BL P A ro E) (.entst m y x) st K)(hr:Br E st a w S ρ):Bj P o a w S ρ st.h K:=by
 have h0:=a0t hr.ts hm;have h1:=a0t hr.ts hy;have h2:=a0t hr.ts hx;simp only[a0a] at hk;split at hk
 ·rename_i l e1;rw[e1] at h0;split at hk
  ·rename_i wide ks keys vals hlg;generalize hv:a.eval M=v at h0;cases h0 with
   |map _ b C hρ=>
    obtain⟨n,hn,hk⟩:=a6l h1 hk;obtain⟨⟨hn0,hn1⟩,hk⟩:(0<=n.val/\n.val<(a3q vals:Int))/\_:=hk;simp only[a0o,a0l] at hk;rw[a0u] at hn1;obtain⟨j,hjn⟩: ∃j:Nat,n.val=j:=⟨n.val.toNat,by omega⟩;rw[hjn] at hk hn hn1;simp only[Int.toNat_natCast] at hk;obtain⟨oo,ho,hh⟩:=hr.sim.obj l _ C hρ;have hlg':=hlg;rw[a0i] at hlg';rw[hlg'] at ho;cases ho;obtain⟨es,clock,hb,mr,⟨hsz,hck⟩,hvs⟩:=hh;have hbl:b<w.heap.size:=(Ap.1 hb).1;have hnS: ¬S b:=hr.sim.own l b C _ hρ hlg' rfl;have hjl:j<es.size:=by omega
    obtain⟨e,he⟩: ∃e,es.toList[j]? =AE e:=⟨es.toList[j]'(by simpa using hjl),AY _⟩;have hfind:es.findIdx? (fun e=>(e.born:Int)==(j:Int))=AE j:=by
     rw[Array.findIdx?_eq_some_iff_getElem];refine⟨hjl,?_,fun i hi=> ?_⟩
     ·have:=mr.born j es[j] (by simp);simp[this]
     ·have:=mr.born i es[i] (by simp);simp[this];omega
    have hlist:(es.modify j (fun e'=>{e' with val:=a.eval X})).toList=es.toList.set j {e with val:=a.eval X}:=by rw[A3,Aq _ _ _ _ he]
    have hget: ∀i e',(es.toList.set j {e with val:=a.eval X})[i]? =AE e'->(i=j/\e'={e with val:=a.eval X})\/(i≠j/\es.toList[i]? =AE e'):=fun i e' h=>by
     by_cases hi:i=j
     ·subst hi;rw[AK (by simpa using hjl)] at h;cases h;exact .inl ⟨rfl,rfl⟩
     ·rw[AP (Al hi)] at h;exact .inr ⟨hi,h⟩
    refine⟨undef,{w with heap:=w.heap.setIfInBounds b (.map (es.modify j (fun e'=>{e' with val:=a.eval X})) clock)},.und,_,[],S,ρ,.inr ⟨?_,rfl⟩,hk,?_,.und⟩
    ·have hai:(asInt (.int .i64 (j:Int))).run P w= .ok (j:Int) w:=by simp[asInt,asIntOf]
     simp[AW,hop,hv,hn,Instr.entryStore,hai,AJ hb,hfind,Ab _ hb,AT]
    ·refine Chg.set hr.sim hρ hlg' rfl rfl ⟨rfl,Aa _⟩ rfl (by simp) (fun k hne=>by simp[AO (Al hne)]) ⟨es.modify j (fun e'=>{e' with val:=a.eval X}),clock,by simp[hbl],⟨?_,fun e' he'=> ?_,fun i e' k he' hk'=> ?_,?_,fun i e' he'=> ?_⟩,⟨by simp[hsz],by simpa using hck⟩,fun i x e' hx he'=> ?_⟩
     ·rw[hlist];simpa using mr.len
     ·rw[hlist] at he';rcases Ar he' with h|rfl
      ·exact mr.shape e' h
      ·exact mr.shape e (Ak he)
     ·rw[hlist] at he';rcases hget i e' he' with⟨rfl,rfl⟩|⟨_,h⟩
      ·exact mr.at' i e k he hk'
      ·exact mr.at' i e' k h hk'
     ·rw[hlist];have e3:(es.toList.set j {e with val:=a.eval X}).map (·.key)=es.toList.map (·.key):=by
       rw[Bf];refine Av fun i=> ?_;by_cases hi:i=j
       ·subst hi;have hlt:=(AG.1 he).1;rw[AK (by simpa using hlt),BQ,he];rfl
       ·rw[AP (Al hi)]
      refine (Ao (f:=fun e:AR=>e.key) (R:=fun x y=>x≠y)).1 ?_;rw[e3];exact (Ao (f:=fun e:AR=>e.key) (R:=fun x y=>x≠y)).2 mr.nd
     ·rw[hlist] at he';rcases hget i e' he' with⟨rfl,rfl⟩|⟨_,h⟩
      ·exact mr.born i e he
      ·exact mr.born i e' h
     ·have he2:(es.toList.set j {e with val:=a.eval X})[i]? =AE e':=by rw[<-hlist,AQ];simpa only[AQ] using he'
      have hmono: ∀{x:AV} {v:AN},VR w S ρ x v->VR {w with heap:=w.heap.setIfInBounds b (.map (es.modify j (fun e'=>{e' with val:=a.eval X})) clock)} S ρ x v:=fun h=>h.mono (fun _ h=>h) (fun k hkS=>by
       have hne:k≠b:=fun e=>hnS (e▸hkS);simp[AO (Al hne)]) fun _ _ h=>h
      rcases hget i e' he2 with⟨rfl,rfl⟩|⟨hi,h⟩
      ·rw[AK (by omega)] at hx;cases hx;exact hmono h2
      ·rw[AP (Al hi)] at hx;exact hmono (hvs i x e' hx (by simpa using h))
  ·exact hk.elim
 ·exact hk.elim
theorem c4x {t:AZ}{u:Unit}(h:d0f P t=AE u):(Bx t).run P w= .ok (.int .i64 0) w:=by
 simp[d0f,AA] at h;obtain⟨k,hk,h⟩:=h;split at h
 ·simp only[AA] at h;obtain⟨i,hi,h⟩:=h;split at h
  ·rename_i hz;exact a3m hi hz
  ·cases h
 ·cases h
theorem d0d {Sg:Sig}{sz b:Nat}{x y:a0h}{st:St}{K:AV->List a0f->List Nat->Prop}(hk:a0a Sg (.appendP sz b x y) st K):a0a Sg (.append sz b x y Am) st K\/a0a Sg (.appendN sz b x y Am) st K:=by
 simp only[a0a] at hk⊢;split at hk
 ·rename_i e1 e2;right;rw[e1,e2];exact hk
 ·rename_i e1 e2;left;split at hk
  ·rename_i hs;have hs:=AL hs;subst hs;rw[e1,e2];simp only[a2g,a8b,b3s];rw[if_pos (by simp)];exact hk
  ·exact hk.elim
 ·exact hk.elim
theorem b7d {t u e e':AZ}{X Y:Aj}(hop:o.op= .call {callee:= .builtin .append,args:= #[X,Y],argTypes:= #[t,u]})
 (ht:P.underlying t=AE (.slice e)) (hu:P.underlying u=AE (.slice e')) {sz b:Nat} {zs:List DV} (hsz:a1x P e=AE sz) (hb:a5j P e=AE b) (hb':b<=250) (hz:a5d P e=AE zs) (hzl:zs.length=sz)
 {x y:a0h} {mu:Bool} (hx:a0g X=AE x) (hy:a0g Y=AE y) (hk:a0a (BL P A ro E) (.appendN sz b x y mu) st K) (hr:Br E st a w S ρ):Bj P o a w S ρ st.h K:=by
 simp only[a0a] at hk;split at hk
 ·rename_i e1 e2;have h0:=a0t hr.ts hx;have h1:=a0t hr.ts hy;rw[e1] at h0;have run: ∀r w',(AX #[t,u] o.type #[a.eval X,a.eval Y]).run P w= .ok r w'->(AW a.eval o).run P w= .ok (.value r) w':=by intro r w' h;simp[AW,hop,Bw,B2,builtin,h]
  have run: ∀r w',(AX #[t,u] t #[a.eval X,a.eval Y]).run P w= .ok r w'->(AW a.eval o).run P w= .ok (.value r) w':=run;rw[h0.nil] at run;have hv: ∃aa cap,a.eval Y= .slice aa 0 cap:=by
   revert h1 e2;generalize opd st.ts y=q;generalize a.eval Y=v;intro e2 h1;cases h1 with
   |d hd=>
    cases hd with
    |nil=>exact⟨_,_,rfl⟩
    |sl0 sz e a cap=>exact⟨_,_,rfl⟩
    |sl sz n e b off cap f hb hc hl hv hr=>
     cases n with
     |zero=>exact⟨_,_,rfl⟩
     |succ n=>simp[a4d] at e2
    |_=>simp[a4d] at e2
   |dfs sz n e aa hd=>
    cases n with
    |zero=>exact⟨_,_,rfl⟩
    |succ n=>simp[a4d] at e2
   |msl l sz s n f ob C cap aa hρ hc hcap ha=>
    cases n with
    |zero=>exact⟨_,_,rfl⟩
    |succ n=>simp[a4d] at e2
   |_=>simp[a4d] at e2
  obtain⟨aa,cap,hv⟩:=hv;obtain⟨new,hnew,_⟩:=a1y (P:=P) (w:=w) (S:=S) (sz:=sz) (n:=0) (e:=fun _=>[]) (aa:=aa) (cap:=cap) (.inl rfl) (fun _ _ _=>trivial);have hrun:=run _ _ (by rw[hv];exact a5h ht hu hsz hnew);exact .same hr.sim hrun hk (.d .nil)
 ·rename_i sz' e' e1 e2;have h0:=a0t hr.ts hx;have h1:=a0t hr.ts hy;rw[e1] at h0;have run: ∀r w',(AX #[t,u] o.type #[a.eval X,a.eval Y]).run P w= .ok r w'->(AW a.eval o).run P w= .ok (.value r) w':=by intro r w' h;simp[AW,hop,Bw,B2,builtin,h]
  have run: ∀r w',(AX #[t,u] t #[a.eval X,a.eval Y]).run P w= .ok r w'->(AW a.eval o).run P w= .ok (.value r) w':=run;have hv: ∃aa cap,a.eval Y= .slice aa 0 cap:=by
   revert h1 e2;generalize opd st.ts y=q;generalize a.eval Y=v;intro e2 h1;cases h1 with
   |d hd=>
    cases hd with
    |nil=>exact⟨_,_,rfl⟩
    |sl0 sz e a cap=>exact⟨_,_,rfl⟩
    |sl sz n e b off cap f hb hc hl hv hr=>
     cases n with
     |zero=>exact⟨_,_,rfl⟩
     |succ n=>simp[a4d] at e2
    |_=>simp[a4d] at e2
   |dfs sz n e aa hd=>
    cases n with
    |zero=>exact⟨_,_,rfl⟩
    |succ n=>simp[a4d] at e2
   |msl l sz s n f ob C cap aa hρ hc hcap ha=>
    cases n with
    |zero=>exact⟨_,_,rfl⟩
    |succ n=>simp[a4d] at e2
   |_=>simp[a4d] at e2
  obtain⟨aa,cap,hv⟩:=hv;generalize hxv:a.eval X=xv at h0;cases h0 with
  |dfs _ _ _ a0 hd=>
   obtain⟨new,hnew,hn1,_⟩:=a1y (P:=P) (w:=w) (S:=S) (sz:=sz) (n:=0) (e:=fun _=>[]) (aa:=aa) (cap:=cap) (.inl rfl) (fun _ _ _=>trivial);obtain⟨hn0,hszr⟩:=a1s hsz;have hnl:new.toList=[]:=by
    have:new.size=0:=by omega
    simpa using this
   have hrun:(AX #[t,u] t #[.slice a0 0 0,.slice aa 0 cap]).run P w= .ok (.slice a0 0 0) w:=by
    cases a0 with
    |none=>simp[AX,AI ht,AI hu,hszr,Ay,hnew]
    |some pa=>simp[AX,AI ht,AI hu,hszr,Ay,hnew,hnl,BV]
   exact .same hr.sim (run _ _ (by rw[hv,hxv];exact hrun)) hk (.dfs _ _ _ _ hd)
 ·exact b5f hop ht hu hsz hb hb' hz hzl hx hy (mu:=mu) hk hr
theorem a6e (hok:OkP P)(hc:b7f P c o=AE io)(hk:a0a (BL P A ro E) io st K)(hr:Br E st a w S ρ)
 (hn: ∀x h' pg v w' S' ρ',K x h' pg->Chg w S ρ st.h w' S' ρ' h' pg->VR w' S' ρ' x v->next (a.put o.dst v) w'):o.wpIn (a3i ro) 0 P a w next Q:=by
 have fin:(∀c,o.op≠ .defer c)->Bj P o a w S ρ st.h K->o.wpIn (a3i ro) 0 P a w next Q:=fun h1 h2=>h2.wpIn h1 hn
 unfold b7f at hc;split at hc
 case h_2=>cases hc;exact hk.elim
 rename_i io' hc1;cases hc;have hc:=hc1;have hc0:=hc;unfold a0y at hc;split at hc
 ·rename_i X heq;exact fin (by rw[heq];intro c h;cases h) (d5q (.inl heq) hc0 hk hr)
 ·rename_i X heq;exact fin (by rw[heq];intro c h;cases h) (d5q (.inr heq) hc0 hk hr)
 ·rename_i heq;exact fin (by rw[heq];intro c h;cases h) (e4o heq hc0 hk hr)
 ·rename_i heq;exact fin (by rw[heq];intro c h;cases h) (d8p heq hc0 hk hr)
 ·rename_i heq;exact fin (by rw[heq];intro c h;cases h) (f1z heq hc0 hk hr)
 ·rename_i t ps heq;simp only[AC,AA,AD,AB] at hc;obtain⟨zs,hz,b2u,hp,l,hl,rfl⟩:=hc;exact fin (by rw[heq];intro c h;cases h) (d9d heq hz hp (by simpa using hl) hk hr)
 ·rename_i t n ps heq;simp only[AC,AA,AD] at hc;obtain⟨e,he,sz,hsz,zs,hz,hc⟩:=hc;split at hc
  ·rename_i hcond;simp only[AA] at hc;obtain⟨l,hl,hc⟩:=hc;split at hc
   ·rename_i hn;split at hc
    ·rename_i hle;cases hc;obtain⟨rfl,_⟩:=hn;obtain⟨hle,rfl⟩:=hle;have hps:ps.toList=[]:=by
      have hle:l=[]:=by simpa using hle
      subst hle;cases hp:ps.toList with
      |nil=>rfl
      |cons q qs=>rw[hp] at hl;simp[AA] at hl
     have hrun:=d0l (a:=a) (w:=w) heq hps (a0n he) hsz;have k:=Chg.new hr.sim (hr.sim.fresh (Aa _)) (.cells #[] e) (.arrv []) 0 (fun w' hw'=>⟨#[],e,by rw[hw'];simp,by simp,by simp,fun i x v hx=>by simp at hx⟩);simp only[a0a,a0u,a0r] at hk;exact fin (by rw[heq];intro c h;cases h) ⟨_,_,_,_,[],S,_,.inl hrun,hk,k.world (w2:=w.alloc (.cells #[] e)) rfl rfl ⟨rfl,Aa _⟩ rfl,.msl _ 1 A5 0 Am (AE w.heap.size) 0 0 _ (by simp) (by simp) (by simp) (by simp)⟩
    ·cases hc
   split at hc
   ·rename_i hn;split at hc
    ·rename_i hle;cases hc;obtain⟨rfl,_⟩:=hn;have hps:ps.toList=[]:=by
      have hle:l=[]:=by simpa using hle
      subst hle;cases hp:ps.toList with
      |nil=>rfl
      |cons q qs=>rw[hp] at hl;simp[AA] at hl
     have hrun:=d0l (a:=a) (w:=w) heq hps (a0n he) hsz;obtain⟨ρ',c2,hv2⟩:=c9m (C:=0) (n:=0) (es:=fun _=>[]) (vs:= #[]) hr.sim (w2:=w.alloc (.cells #[] e)) rfl rfl ⟨rfl,Aa _⟩ rfl (by simp) (Aa 0) (fun i hi=>by omega);simp only[a0a,a0u,a0r] at hk;exact fin (by rw[heq];intro c h;cases h) ⟨_,_,_,_,[],S,ρ',.inl hrun,hk,c2,hv2⟩
    ·cases hc
   split at hc
   ·rename_i hn;split at hc
    ·rename_i hle;cases hc;obtain⟨rfl,_⟩:=hn;have hps:ps.toList=[]:=by
      have hle:l=[]:=by simpa using hle
      subst hle;cases hp:ps.toList with
      |nil=>rfl
      |cons q qs=>rw[hp] at hl;simp[AA] at hl
     have hrun:=d0l (a:=a) (w:=w) heq hps (a0n he) hsz;obtain⟨ρ',c2,hv2⟩:=c9m (C:=0) (n:=0) (es:=fun _=>[]) (vs:= #[]) hr.sim (w2:=w.alloc (.cells #[] e)) rfl rfl ⟨rfl,Aa _⟩ rfl (by simp) (Aa 0) (fun i hi=>by omega);simp only[a0a,a0u,a0r] at hk;exact fin (by rw[heq];intro c h;cases h) ⟨_,_,_,_,[],S,ρ',.inl hrun,hk,c2,hv2⟩
    ·cases hc
   split at hc
   ·rename_i hn;split at hc
    ·rename_i hle;cases hc;obtain⟨rfl,_⟩:=hn;have hps:ps.toList=[]:=by
      have hle:l=[]:=by simpa using hle
      subst hle;cases hp:ps.toList with
      |nil=>rfl
      |cons q qs=>rw[hp] at hl;simp[AA] at hl
     have hrun:=d0l (a:=a) (w:=w) heq hps (a0n he) hsz;obtain⟨c2,hv2⟩:=c2r (sz:=sz) (C:=0) (n:=0) (es:=fun _=>[]) (vs:= #[]) hr.sim (w2:=w.alloc (.cells #[] e)) rfl rfl ⟨rfl,Aa _⟩ rfl (by simp) (Aa 0) (fun i hi=>by omega);exact fin (by rw[heq];intro c h;cases h) ⟨_,_,_,_,[],_,ρ,.inl hrun,hk,c2,.dfs _ _ _ _ (.sl0 _ _ _ _)⟩
    ·cases hc
   ·split at hc
    ·cases hc;exact fin (by rw[heq];intro c h;cases h) (c3b heq (a0n he) hsz hz hcond.1 hcond.2 (by simpa using hl) (c9n hk) hr)
    ·cases hc;exact fin (by rw[heq];intro c h;cases h) (c3b heq (a0n he) hsz hz hcond.1 hcond.2 (by simpa using hl) hk hr)
  ·cases hc
 ·rename_i heq;exact fin (by rw[heq];intro c h;cases h) (e3w heq hc0 hk hr)
 ·rename_i heq;exact fin (by rw[heq];intro c h;cases h) (d8r heq hc0 hk hr)
 ·rename_i heq;exact fin (by rw[heq];intro c h;cases h) (d1r heq hc0 hk hr)
 ·rename_i op t X Y t' heq;simp only[AC,AA] at hc;obtain⟨d,hd,hc⟩:=hc;split at hc
  ·simp only[AA,AD,AB] at hc;obtain⟨x,hx,y,hy,rfl⟩:=hc;unfold c0x at hk;split at hk
   ·exact fin (by rw[heq];intro c h;cases h) (f2t heq hx hy hk hr)
   ·exact fin (by rw[heq];intro c h;cases h) (g4m heq hx hy hk hr)
  ·simp only[AA,AD,AB] at hc;obtain⟨x,hx,y,hy,rfl⟩:=hc;exact fin (by rw[heq];intro c h;cases h) (e1t heq hd hx hy hk hr)
  ·split at hc
   ·split at hc
    ·cases hc
    rename_i hg;simp only[AA] at hc;obtain⟨x,hx,y,hy,hc⟩:=hc;exact fin (by rw[heq];intro c h;cases h) (e2u heq (neg:=Am) rfl hd (by simpa using hg) hx hy hc hk hr)
   ·split at hc
    ·cases hc
    rename_i hg;simp only[AA] at hc;obtain⟨x,hx,y,hy,hc⟩:=hc;exact fin (by rw[heq];intro c h;cases h) (e2u heq (neg:=Ai) rfl hd (by simpa using hg) hx hy hc hk hr)
   ·cases hc
  ·split at hc
   ·split at hc
    ·cases hc
    rename_i hg;simp only[AA,AD,AB] at hc;obtain⟨k0,hk0,x,hx,y,hy,rfl⟩:=hc;exact fin (by rw[heq];intro c h;cases h) (c2v heq (neg:=Am) rfl hk0 hd (.inl ⟨_,_,rfl⟩) (by simpa using hg) hx hy hk hr)
   ·split at hc
    ·cases hc
    rename_i hg;simp only[AA,AD,AB] at hc;obtain⟨k0,hk0,x,hx,y,hy,rfl⟩:=hc;exact fin (by rw[heq];intro c h;cases h) (c2v heq (neg:=Ai) rfl hk0 hd (.inl ⟨_,_,rfl⟩) (by simpa using hg) hx hy hk hr)
   ·cases hc
  ·split at hc
   ·simp only[AA,AD,AB] at hc;obtain⟨x,hx,rfl⟩:=hc;exact fin (by rw[heq];intro c h;cases h) (c7b heq rfl hd hx hk hr)
   ·simp only[AA,AD,AB] at hc;obtain⟨x,hx,rfl⟩:=hc;exact fin (by rw[heq];intro c h;cases h) (c7b heq rfl hd hx hk hr)
   ·cases hc
  ·cases hc
 ·rename_i heq;exact fin (by rw[heq];intro c h;cases h) (g7l heq hc0 hk hr)
 ·rename_i heq;exact fin (by rw[heq];intro c h;cases h) (e3m heq hc0 hk hr)
 ·rename_i heq;exact fin (by rw[heq];intro c h;cases h) (e1j heq hc0 hk hr)
 ·rename_i t heq;simp only[AC,AA,AD,AB] at hc;obtain⟨⟨k,e⟩,hm,⟨wide,ks⟩,hk0,hc⟩:=hc;split at hc
  ·cases hc;exact fin (by rw[heq];intro c h;cases h) (c3i heq hk hr)
  split at hc
  ·cases hc;exact fin (by rw[heq];intro c h;cases h) (d9g heq hk hr)
  ·cases hc;exact fin (by rw[heq];intro c h;cases h) (c3i heq hk hr)
 ·rename_i t N M heq;simp only[AC,AA] at hc;obtain⟨e,he,sz,hsz,zs,hz,b,hb,x,hx,hc⟩:=hc;split at hc
  ·split at hc
   ·rename_i i j hcond;cases hc;exact fin (by rw[heq];intro c h;cases h) (b8a heq (by rw[hcond.1]) (a0n he) hsz hz hb hcond.2.1 hcond.2.2 hx hk hr)
   ·cases hc
  ·split at hc
   ·rename_i i j hcond;cases hc;exact fin (by rw[heq];intro c h;cases h) (b8a heq (by rw[hcond.1]) (a0n he) hsz hz hb hcond.2.1 hcond.2.2 hx hk hr)
   ·cases hc
  ·cases hc
 ·rename_i t X LO HI MX heq;simp only[AC,AA] at hc;obtain⟨d,hd,hc⟩:=hc;split at hc
  ·simp only[AA] at hc;obtain⟨sz,hsz,hc⟩:=hc;split at hc
   ·split at hc
    ·simp only[AA,AD,AB] at hc;obtain⟨x,hx,lo,hlo,hi,hhi,rfl⟩:=hc;exact fin (by rw[heq];intro c h;cases h) (d2d heq hd hsz hx hlo hhi hk hr)
    ·cases hc
   split at hc
   ·split at hc
    ·simp only[AA,AD,AB] at hc;obtain⟨x,hx,lo,hlo,hi,hhi,mx,hmx,rfl⟩:=hc;exact fin (by rw[heq];intro c h;cases h) (d8f heq hd hsz hx hlo hhi hmx hk hr)
    ·cases hc
   split at hc
   ·cases hc
   ·rename_i hno;simp only[AA,AD,AB] at hc;obtain⟨x,hx,lo,hlo,hi,hhi,mx,hmx,rfl⟩:=hc;refine fin (by rw[heq];intro c h;cases h) (d8l heq hd hsz hx hlo hhi hmx (fun h1=> ?_) hk hr);cases MX with
    |none=>rfl
    |some M=>exact absurd rfl (hno M h1)
  ·simp only[AA] at hc;obtain⟨k1,hu,hc⟩:=hc;split at hc
   ·split at hc
    ·rename_i hk1;subst hk1;simp only[AA,AD,AB] at hc;obtain⟨x,hx,lo,hlo,hi,hhi,rfl⟩:=hc;exact fin (by rw[heq];intro c h;cases h) (d8b heq hd hx hlo hhi hk hr hu)
    ·cases hc
   ·cases hc
  ·cases hc
 ·rename_i heq;exact fin (by rw[heq];intro c h;cases h) (d9h heq hc0 hk hr)
 ·rename_i heq;exact fin (by rw[heq];intro c h;cases h) (d7k heq hc0 hk hr)
 ·rename_i t X I heq;simp only[AC,AA] at hc;obtain⟨d,hd,hc⟩:=hc;split at hc
  ·simp only[AA,AD,AB] at hc;obtain⟨sz,hsz,x,hx,i,hi,rfl⟩:=hc;exact fin (by rw[heq];intro c h;cases h) (d6m heq hd hsz hx hi hk hr)
  ·simp only[AA,AD,AB] at hc;obtain⟨sz,hsz,x,hx,i,hi,rfl⟩:=hc;exact fin (by rw[heq];intro c h;cases h) (d1w heq hd hsz hx hi hk hr)
  ·cases hc
 ·rename_i t M X ok heq;simp only[AC,AA,AD,AB] at hc;obtain⟨⟨k,e⟩,hm,⟨wide,ks⟩,hk0,hc⟩:=hc;split at hc
  ·simp only[AA,AB] at hc;obtain⟨z,hz,m,hm',x,hx,rfl⟩:=hc;exact fin (by rw[heq];intro c h;cases h) (b7g hok.laid heq (a7e hm) hz hk0 hm' hx hk hr)
  split at hc
  ·rename_i hu;simp only[AA,AB] at hc;obtain⟨m,hm',x,hx,rfl⟩:=hc;exact fin (by rw[heq];intro c h;cases h) (d1x hok.laid heq (a7e hm) (fun _=>c4x hu) hk0 hm' hx hk hr)
  ·simp only[AA,AB] at hc;obtain⟨z,hz,m,hm',x,hx,rfl⟩:=hc;exact fin (by rw[heq];intro c h;cases h) (b7g hok.laid heq (a7e hm) hz hk0 hm' hx hk hr)
 ·rename_i t M X Y heq;simp only[AC,AA,AD,AB] at hc;obtain⟨⟨k,e⟩,hm,⟨wide,ks⟩,hk0,hc⟩:=hc;split at hc
  ·simp only[AA,AB] at hc;obtain⟨m,hm',x,hx,y,hy,rfl⟩:=hc;exact fin (by rw[heq];intro c h;cases h) (b8o hok.laid heq (a7e hm) hk0 hm' hx hy hk hr)
  split at hc
  ·simp only[AA,AB] at hc;obtain⟨m,hm',x,hx,y,hy,rfl⟩:=hc;exact fin (by rw[heq];intro c h;cases h) (d2s hok.laid heq (a7e hm) hk0 hm' hx hy hk hr)
  ·simp only[AA,AB] at hc;obtain⟨m,hm',x,hx,y,hy,rfl⟩:=hc;exact fin (by rw[heq];intro c h;cases h) (b8o hok.laid heq (a7e hm) hk0 hm' hx hy hk hr)
 ·rename_i t M X heq;simp only[AC,AA,AD,AB] at hc;obtain⟨⟨k,e⟩,hm,⟨wide,ks⟩,hk0,z,hz,m,hm',x,hx,rfl⟩:=hc;exact fin (by rw[heq];intro c h;cases h) (d4b hok.laid heq (a7e hm) hz hk0 hm' hx hk hr)
 ·rename_i t M Y X heq;simp only[AC,AA,AD,AB] at hc;obtain⟨m,hm',y,hy,x,hx,rfl⟩:=hc;exact fin (by rw[heq];intro c h;cases h) (d8c heq hm' hy hx hk hr)
 ·rename_i t s X heq;simp only[AC,AA] at hc;obtain⟨d,hd,hc⟩:=hc;split at hc
  ·simp only[AA,AD,AB] at hc;obtain⟨x,hx,rfl⟩:=hc;exact fin (by rw[heq];intro c h;cases h) (e3j heq hd hx hk hr)
  ·cases hc
 ·rename_i heq;simp only[AC,AA,AD] at hc;obtain⟨x,hx,hc⟩:=hc;split at hc
  ·cases hc;exact fin (by rw[heq];intro c h;cases h) (c4n heq hx hk hr)
  ·cases hc;exact fin (by rw[heq];intro c h;cases h) (c8n heq hx hk hr)
 ·rename_i k heq;obtain⟨callee,args,tys⟩:=k;simp only at hc;have arr0: ∀{α:Type} {as:Array α} {l:List α},as.toList=l->as=l.toArray:=fun h=>by apply A6;simpa using h
  split at hc
  ·rename_i f;split at hc
   ·rename_i fn hfn;split at hc
    ·rename_i hov;simp only[BU,beq_iff_eq] at hov;split at hc
     ·rename_i X Y h1;rw[arr0 h1] at heq;simp only[AC,AA,AD,AB] at hc;obtain⟨x,hx,y,hy,rfl⟩:=hc;exact fin (by rw[heq];intro c h;cases h) (f0s hok hfn hov.1 hov.2 heq hx hy hk hr)
     ·cases hc
    ·simp only[AC,AA,AD,AB] at hc;obtain⟨as,has,rfl⟩:=hc;exact d5f heq (f:= .c (.fn f [] [])) rfl has hk hr hn
   ·cases hc
  ·simp only[AC,AA,AD,AB] at hc;obtain⟨f,hf,as,has,rfl⟩:=hc;exact d5f heq hf has hk hr hn
  ·have nd: ∀c,o.op≠ .defer c:=by rw[heq];intro c h;cases h
   have arr: ∀{α:Type} {as:Array α} {l:List α},as.toList=l->as=l.toArray:=fun h=>by apply A6;simpa using h
   unfold d6q at hc;split at hc
   ·split at hc
    ·rename_i X t h1 h2;rw[arr h1,arr h2] at heq;simp only[AC,AA] at hc;obtain⟨d,hd,hc⟩:=hc;split at hc
     ·simp only[AA,AD,AB] at hc;obtain⟨x,hx,rfl⟩:=hc;exact fin nd (e9h heq hd hx hk hr)
     ·simp only[AA,AD,AB] at hc;obtain⟨x,hx,rfl⟩:=hc;exact fin nd (e0y heq hd hx hk hr)
     ·cases hc
    ·cases hc
   ·split at hc
    ·rename_i X t h1 h2;rw[arr h1,arr h2] at heq;simp only[AC,AA] at hc;obtain⟨e,he,sz,hsz,zs,hz,hc⟩:=hc;split at hc
     ·rename_i hzl;simp only[AA,AD,AB] at hc;obtain⟨x,hx,rfl⟩:=hc;exact fin nd (d7d heq (a0n he) hsz hz hzl hx hk hr)
     ·cases hc
    ·cases hc
   ·split at hc
    ·rename_i X t h1 h2;rw[arr h1,arr h2] at heq;simp only[AC,AA,AD,AB] at hc;obtain⟨e,he,x,hx,rfl⟩:=hc;exact fin nd (f0a heq (a0n he) hx hk hr)
    ·cases hc
   ·split at hc
    ·rename_i X Y h1;rw[arr h1] at heq;simp only[AC,AA,AD,AB] at hc;obtain⟨x,hx,y,hy,rfl⟩:=hc;exact fin nd (f2j heq hx hy hk hr)
    ·cases hc
   ·split at hc
    ·rename_i X Y h1;rw[arr h1] at heq;simp only[AC,AA,AD,AB] at hc;obtain⟨x,hx,y,hy,rfl⟩:=hc;exact fin nd (f0m heq hx hy hk hr)
    ·cases hc
   ·split at hc
    ·rename_i X Y t u h1 h2;rw[arr h1,arr h2] at heq;simp only[AC,AA] at hc;obtain⟨e,he,e',he',sz,hsz,b,hb,zs,hz,hc⟩:=hc;split at hc
     ·rename_i hcond;split at hc
      ·split at hc
       ·rename_i h1;subst h1;simp only[AA,AD,AB] at hc;obtain⟨x,hx,y,hy,rfl⟩:=hc;exact fin nd (i1k heq (a0n he) (a0n he') hsz hb hcond.2.1 hz hcond.2.2 hx hy hk hr)
       ·cases hc
      split at hc
      ·simp only[AA,AD,AB] at hc;obtain⟨x,hx,y,hy,rfl⟩:=hc;rcases d0d hk with hk|hk
       ·exact fin nd (b5f heq (a0n he) (a0n he') hsz hb hcond.2.1 hz hcond.2.2 hx hy hk hr)
       ·exact fin nd (b7d heq (a0n he) (a0n he') hsz hb hcond.2.1 hz hcond.2.2 hx hy hk hr)
      split at hc
      ·simp only[AA,AD,AB] at hc;obtain⟨x,hx,y,hy,rfl⟩:=hc;exact fin nd (c5b heq (a0n he) (a0n he') hsz hx hy hk hr)
      split at hc
      ·simp only[AA,AD,AB] at hc;obtain⟨x,hx,y,hy,rfl⟩:=hc;exact fin nd (b7d heq (a0n he) (a0n he') hsz hb hcond.2.1 hz hcond.2.2 hx hy hk hr)
      simp only[AA,AD,AB] at hc;obtain⟨x,hx,y,hy,rfl⟩:=hc;exact fin nd (b5f heq (a0n he) (a0n he') hsz hb hcond.2.1 hz hcond.2.2 hx hy hk hr)
     ·cases hc
    ·cases hc
   ·split at hc
    ·rename_i X Y t u h1 h2;rw[arr h1,arr h2] at heq;simp only[AC,AA] at hc;obtain⟨e,he,e',he',sz,hsz,hc⟩:=hc;split at hc
     ·simp only[AA,AD,AB] at hc;obtain⟨x,hx,y,hy,rfl⟩:=hc;exact fin nd (e4m heq (a0n he) hsz hx hy hk hr)
     ·cases hc
    ·cases hc
   ·cases hc
  ·cases hc
 ·cases hc
end
end Go.Vf
