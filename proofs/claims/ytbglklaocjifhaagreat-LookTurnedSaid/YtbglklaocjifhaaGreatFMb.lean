/- The executor's sixth text. Conditions: none. -/
import Derived.OrdersIn
import Derived.KernelRfl
import Derived.Laws.Sem
import GoSem.ClaimKeys
import Derived.Laws.Cells
import Derived.Laws.CopyRow
import Derived.Laws.Rows
import Derived.Laws.Entries
import Derived.ChangeKeysEq
import Derived.RangeFuncCalls
import Derived.RangeFuncLeaves
open Option renaming some->AA,bind_eq_some_iff->AC,none->AD
open List renaming getElem?_eq_some_iff->AB,getElem?_append_left->AI,getElem?_append_right->AQ,getElem?_map->AR,getElem?_set_ne->AU,length_take->Ab,append_assoc->Ac,getElem?_toArray->Ae,getElem?_take_of_lt->Ah,length_append->Ai,range->Ar,getElem?_drop->As,getElem?_eq_getElem->Au,getElem_of_mem->BB,getElem_mem->BE,replicate->BL,getElem?_set_self->BO,getElem?_range->BR,map_cons->Bc
open Go renaming Value->AE,TypeId->AJ,World->AK,run_underlying->AN,IntKind->AS,Program->AW,execOp->AY,Operand->Aa,undef->Av,BinOp->Ay,typeInfo->A4,loadVar->A7,FuncId->A8,start->A9,MapEntry->BG,Addr->BJ,Oper->BN,Deferred->BZ,newRow->Bb,run_storeCells_at->Bd,asIntOf->Be,storeVar->Bl,Act->Bm,run_loadCells->Bn,loadCellsFrom->Bo,Code->Bs,isAgg->Bt
open Bool renaming false->AF,true->AT,and_eq_true->An
open Nat renaming eq_of_beq_eq_true->AG,beq->AH,le_refl->AM,mul_le_mul_right->AO,add_mul->AX,le_trans->Al,add_zero->A3,ble->BA,add_assoc->BC,blt->BK,lt_of_lt_of_le->BU,mod_eq_of_lt->BY,zero_add->Bh,mul_comm->Bi,mul_one->Bj,le_succ->Bk,min->Bv
open Pure renaming pure->AP
open Go.Builtin renaming firstCells->AZ,append_->Ad,nextslicecap->Am,lenOf->BH,zeroCells->BP,growBy->BW
open BitVec renaming ofInt->Af
open Array renaming getElem?_push->Ag,getElem?_eq_some_iff->Aq,getElem?_eq_getElem->At,range->A5,eq_empty_of_size_eq_zero->BD,getD_eq_getD_getElem?->BF,getElem?_append_left->BI,length_toList->BQ
open Go.Result renaming andThen_ok->Aj,andThen->BX
open Go.Sem renaming run_pure->Ak,run_bind->Az
open Go.Op renaming intCmp->Ao,intArith->Aw,unary->Bf,equalIn->Bp,intDiv->Bq
open Go.Instr renaming sureAddr->Ap,indexAt->BM,extract->Ba,field->Bg
open Ne renaming symm->Ax
open Go.Question renaming appendCap->A6,cut->Bu
open Int renaming beq'->BS,natCast_nonneg->BV,tdiv->Br
set_option linter.unusedSimpArgs false
set_option linter.unusedVariables false
namespace Go.Vf
open Go
inductive KC where
 |i (n:Int)
 |o (b:Bool)
 |s (l:List UInt8)
 deriving DecidableEq
inductive IX where
 |v (n:Int)
 |l (n:Int)
def IX.val:IX->Int
 | .v n=>n
 | .l n=>n
inductive DV where
 |int (k:AS) (n:IX)
 |bool (b:Bool)
 |str (l:List UInt8)
 |nil
 |sl (sz n:Nat) (e:Nat->List DV)
 |raw (v:AE)
inductive AV where
 |d (x:DV)
 |any
 |und
 |agg (cs:List AV)
 |tuple (vs:List AV)
 |ptr (l off:Nat)
 |aptr (l sz i off:Nat)
 |dptr (row:List DV) (off:Nat)
 |dfs (sz n:Nat) (e:Nat->List DV)
 |msl (l sz:Nat) (A9:Option Nat) (len:Nat) (full:Bool)
 |vsl (l off n:Nat)
 |map (l:Nat)
 |fn (f:A8) (first cap:List AV)
 |ge (m:Nat)
 |yl (l:Nat)
inductive Lv where
 |normal
 |exit (id:Nat)
 |ret
inductive LSt where
 |ready
 |busy
 |done (lv:Lv)
 |over (lv:Lv)
def Lv.jump:Lv->Option Bs
 | .normal=>AD
 | .exit id=>AA (.exit id)
 | .ret=>AA .ret
def LSt.state:LSt->LoopState
 | .ready=> .ready
 | .busy=> .busy
 | .done _=> .done
 | .over _=> .exhausted
def LSt.pend:LSt->Option Bs
 | .done lv=>lv.jump
 | .over lv=>lv.jump
 |_=>AD
inductive a0f where
 |var (cs:List AV)
 |arr (sz n:Nat) (e:Nat->List DV)
 |frz (sz n:Nat) (e:Nat->List DV)
 |map (wide:Bool) (ks:List AS) (n:Nat) (f:List KC->Option Int)
 |mapv (wide:Bool) (ks:List AS) (keys:List (List KC)) (vals:List AV)
 |loop (s:LSt) (ts:List AV) (ps:List Nat) (code:Bs->Bs->Prop)
 |gone
 |arrv (vals:List AV)
def a0f.frozen:a0f->Bool
 | .frz .. =>AT
 | .gone=>AT
 |_=>AF
abbrev Rho:=Nat->Option (Option Nat×Nat)
inductive DVR (w:AK)(S:Nat->Prop):DV->AE->Prop
 |int (k:AS) (n:IX):DVR w S (.int k n) (.int k n.val)
 |bool (b:Bool):DVR w S (.bool b) (.bool b)
 |str (l:List UInt8):DVR w S (.str l) (.string ⟨l.toArray⟩)
 |nil:DVR w S .nil (.slice AD 0 0)
 |raw (v:AE) (h:v.oneCell'=AT):DVR w S (.raw v) v
 |sl0 (sz:Nat) (e:Nat->List DV) (a:Option BJ) (cap:Nat):DVR w S (.sl sz 0 e) (.slice a 0 cap)
 |sl (sz n:Nat) (e:Nat->List DV) (b off cap:Nat) (f:Nat->Nat->AE) (hb:0<n->S b) (hc:n<=cap)
   (hl: ∀i,i<n->(e i).length=sz)
   (hv: ∀i,i<n-> ∀j,j<sz->w.cell? ⟨b,off+i*sz+j,AD⟩=AA (f i j))
   (hr: ∀i,i<n-> ∀(j:Nat) (x:DV),(e i)[j]? =AA x->DVR w S x (f i j)):DVR w S (.sl sz n e) (.slice (AA ⟨b,off,AD⟩) n cap)
inductive VR (w:AK)(S:Nat->Prop)(ρ:Rho):AV->AE->Prop
 |d {x:DV} {v:AE} (h:DVR w S x v):VR w S ρ (.d x) v
 |any (v:AE):VR w S ρ .any v
 |und:VR w S ρ .und Av
 |agg (cs:List AV) (vs:Array AE) (hl:cs.length=vs.size) (h: ∀(i:Nat) (x:AV) (v:AE),cs[i]? =AA x->vs[i]? =AA v->VR w S ρ x v):VR w S ρ (.agg cs) (.agg vs)
 |tuple (cs:List AV) (vs:Array AE) (hl:cs.length=vs.size) (h: ∀(i:Nat) (x:AV) (v:AE),cs[i]? =AA x->vs[i]? =AA v->VR w S ρ x v):VR w S ρ (.tuple cs) (.tuple vs)
 |ptr (l off b C:Nat) (h:ρ l=AA (AA b,C)):VR w S ρ (.ptr l off) (.pointer (AA ⟨b,off,AD⟩))
 |aptr (l sz i off b C:Nat) (h:ρ l=AA (AA b,C)):VR w S ρ (.aptr l sz i off) (.pointer (AA ⟨b,i*sz+off,AD⟩))
 |dptr (row:List DV) (off b base:Nat) (f:Nat->AE) (hb:S b) (hv: ∀j,j<row.length->w.cell? ⟨b,base+j,AD⟩=AA (f j))
   (hr: ∀(j:Nat) (x:DV),row[j]? =AA x->DVR w S x (f j)):VR w S ρ (.dptr row off) (.pointer (AA ⟨b,base+off,AD⟩))
 |dfs (sz n:Nat) (e:Nat->List DV) (a:Option BJ) (h:DVR w S (.sl sz n e) (.slice a n n)):VR w S ρ (.dfs sz n e) (.slice a n n)
 |msl (l sz:Nat) (A9:Option Nat) (len:Nat) (full:Bool) (ob:Option Nat) (C cap:Nat) (a:Option BJ) (h:ρ l=AA (ob,C)) (hc:A9.getD 0+len<=C)
   (hcap:cap=if full then len else C-A9.getD 0) (ha:0<cap->a=ob.map fun b=>⟨b,A9.getD 0*sz,AD⟩):
   VR w S ρ (.msl l sz A9 len full) (.slice a len cap)
 |vsl (l off n b C cap:Nat) (h:ρ l=AA (AA b,C)) (hc:n<=cap):VR w S ρ (.vsl l off n) (.slice (AA ⟨b,off,AD⟩) n cap)
 |map (l b C:Nat) (h:ρ l=AA (AA b,C)):VR w S ρ (.map l) (.map (AA b))
 |fn (f:A8) (first cap:List AV) (us vs:Array AE) (hl1:first.length=us.size) (h1: ∀(i:Nat) (x:AV) (v:AE),first[i]? =AA x->us[i]? =AA v->VR w S ρ x v)
   (hl:cap.length=vs.size) (h: ∀(i:Nat) (x:AV) (v:AE),cap[i]? =AA x->vs[i]? =AA v->VR w S ρ x v):
   VR w S ρ (.fn f first cap) (.func (.func f) us vs)
 |ge (m:Nat) (n:Int) (h:(m:Int)<=n):VR w S ρ (.ge m) (.int .i64 n)
 |yl (l b C:Nat) (h:ρ l=AA (AA b,C)):VR w S ρ (.yl l) (.func (.yield b) #[] #[])
def KC.ofValue:AE->Option KC
 | .int _ n=>AA (.i n)
 | .bool x=>AA (.o x)
 | .string t=>AA (.s t.data.toList)
 |_=>AD
def keyOf (v:AE):Option (List KC):=v.cells.toList.mapM KC.ofValue
def a7b (k:List KC):List BG->Option Int
 |[]=>AD
 |e::es=>if keyOf e.key=AA k then (match e.val with| .int _ n=>AA n|_=>AD) else a7b k es
def a1m (wide:Bool)(ks:List AS)(v:AE):Prop:=
 (if wide then∃cs,v= .agg cs else∃k n,v= .int k n)/\ ∃ns:List Int,ns.length=ks.length/\v.cells.toList=List.zipWith Value.int ks ns/\
   ∀(i:Nat) (k:AS) (n:Int),ks[i]? =AA k->ns[i]? =AA n->k.wrap n=n
structure g2l (wide:Bool)(ks:List AS)(es:List BG)(n:Nat)(f:List KC->Option Int):Prop where
 len:es.length=n
 keys: ∀e,e∈es->a1m wide ks e.key
 vals: ∀e,e∈es-> ∃m,e.val= .int .i64 m
 find: ∀k,a7b k es=f k
 nd:es.Pairwise (fun a b=>a.key≠b.key)
structure g2b (wide:Bool)(ks:List AS)(es:List BG)(keys:List (List KC)):Prop where
 len:keys.length=es.length
 shape: ∀e,e∈es->a1m wide ks e.key
 at': ∀(i:Nat) (e:BG) (k:List KC),es[i]? =AA e->keys[i]? =AA k->keyOf e.key=AA k
 nd:es.Pairwise (fun a b=>a.key≠b.key)
 born: ∀(i:Nat) (e:BG),es[i]? =AA e->e.born=i
def a0z (w:AK)(S:Nat->Prop)(ρ:Rho)(b C:Nat):a0f->Prop
 | .var cs=> ∃vs ty,w.heap[b]? =AA (.cells vs ty (0,0))/\vs.size=cs.length/\ ∀(i:Nat) (x:AV) (v:AE),cs[i]? =AA x->vs[i]? =AA v->VR w S ρ x v
 | .arr sz n e=> ∃vs ty,w.heap[b]? =AA (.cells vs ty (0,0))/\vs.size=C*sz/\n<=C/\
    ∀i,i<n->(e i).length=sz/\ ∀(j:Nat) (x:DV) (v:AE),(e i)[j]? =AA x->vs[i*sz+j]? =AA v->DVR w S x v
 | .frz sz n e=>S b/\ ∃vs ty fr,w.heap[b]? =AA (.cells vs ty fr)/\vs.size=C*sz/\n<=C/\
    ∀i,i<n->(e i).length=sz/\ ∀(j:Nat) (x:DV) (v:AE),(e i)[j]? =AA x->vs[i*sz+j]? =AA v->DVR w S x v
 | .map wide ks n f=> ∃es clock,w.heap[b]? =AA (.map es clock)/\g2l wide ks es.toList n f
 | .mapv wide ks keys vals=> ∃es clock,w.heap[b]? =AA (.map es clock)/\g2b wide ks es.toList keys/\(es.size=vals.length/\clock=es.size)/\ ∀(i:Nat) (x:AV) (e:BG),vals[i]? =AA x->es[i]? =AA e->VR w S ρ x e.val
 | .loop s ts ps code=> ∃r:Loop,w.heap[b]? =AA (.loop r)/\r.state=s.state/\r.pending=s.pend/\r.params.toList=ps/\code r.assign r.body/\
    r.tmps.size=ts.length/\ ∀(i:Nat) (x:AV) (v:AE),ts[i]? =AA x->r.tmps[i]? =AA v->VR w S ρ x v
 | .gone=>S b
 | .arrv vals=> ∃vs ty,w.heap[b]? =AA (.cells vs ty (0,0))/\vs.size=C/\vals.length<=C/\ ∀(i:Nat) (x:AV) (v:AE),vals[i]? =AA x->vs[i]? =AA v->VR w S ρ x v
def c7g (w:AK)(S:Nat->Prop)(ρ:Rho)(ob:Option Nat)(C:Nat)(o:a0f):Prop:=
 match ob with
 |some b=>a0z w S ρ b C o
 |none=>C=0/\ ∃sz e,o= .arr sz 0 e\/o= .frz sz 0 e
structure Sim (w:AK)(S:Nat->Prop)(ρ:Rho)(h:List a0f):Prop where
 sblk: ∀b,S b->b<w.heap.size
 obj: ∀l ob C,ρ l=AA (ob,C)-> ∃o,h[l]? =AA o/\c7g w S ρ ob C o
 inj: ∀l l' b C C',ρ l=AA (AA b,C)->ρ l'=AA (AA b,C')->l=l'
 own: ∀l b C o,ρ l=AA (AA b,C)->h[l]? =AA o->o.frozen=AF-> ¬S b
theorem k3o {a b c:AK}(h:b.tape=a.tape/\a.drawn<=b.drawn)(k:c.tape=b.tape/\b.drawn<=c.drawn):c.tape=a.tape/\a.drawn<=c.drawn:=⟨k.1.trans h.1,Al h.2 k.2⟩
structure Ext (w:AK)(S:Nat->Prop)(ρ:Rho)(w':AK)(S':Nat->Prop)(ρ':Rho):Prop where
 os:w'.os=w.os
 tape:w'.tape=w.tape/\w.drawn<=w'.drawn
 output:w'.output=w.output
 size:w.heap.size<=w'.heap.size
 mono: ∀b,S b->S' b
 cell: ∀b,S b->w'.heap[b]? =w.heap[b]?
 news: ∀b,S' b->S b\/w.heap.size<=b\/ ∃l C,ρ l=AA (AA b,C)
 frame: ∀b,b<w.heap.size->(∀l C,ρ l≠AA (AA b,C))->w'.heap[b]? =w.heap[b]?
 owned: ∀l b C,ρ' l=AA (AA b,C)->w.heap.size<=b\/ ∃l C,ρ l=AA (AA b,C)
theorem Ext.refl (w:AK)(S:Nat->Prop)(ρ:Rho):Ext w S ρ w S ρ:=
 ⟨rfl,⟨rfl,AM _⟩,rfl,AM _,fun _ h=>h,fun _ _=>rfl,fun _ h=> .inl h,fun _ _ _=>rfl,fun l _ C h=> .inr ⟨l,C,h⟩⟩
theorem Ext.trans {w w' w'':AK}{S S' S'':Nat->Prop}{ρ ρ' ρ'':Rho}(h:Ext w S ρ w' S' ρ')(k:Ext w' S' ρ' w'' S'' ρ''):Ext w S ρ w'' S'' ρ'' where
 os:=k.os.trans h.os
 tape:=⟨k.tape.1.trans h.tape.1,Al h.tape.2 k.tape.2⟩
 output:=k.output.trans h.output
 size:=Al h.size k.size
 mono b hb:=k.mono b (h.mono b hb)
 cell b hb:=(k.cell b (h.mono b hb)).trans (h.cell b hb)
 news b hb:=by
  rcases k.news b hb with h1|h1|⟨l,C,h1⟩
  ·exact h.news b h1
  ·exact .inr (.inl (Al h.size h1))
  ·rcases h.owned l b C h1 with h2|h2
   ·exact .inr (.inl h2)
   ·exact .inr (.inr h2)
 frame b hb hn:=by
  refine (k.frame b (BU hb h.size) fun l C hl=> ?_).trans (h.frame b hb hn);rcases h.owned l b C hl with h2|⟨l',C',h2⟩
  ·omega
  ·exact hn _ _ h2
 owned l b C hl:=by
  rcases k.owned l b C hl with h1|⟨l',C',h1⟩
  ·exact .inl (Al h.size h1)
  ·exact h.owned _ _ _ h1
theorem cell?_congr {w w':AK}{b o:Nat}(h:w'.heap[b]? =w.heap[b]?):w'.cell? ⟨b,o,AD⟩=w.cell? ⟨b,o,AD⟩:=by simp only[World.cell?,h]
theorem cell?_of {w:AK}{b o:Nat}{c:Array AE}{ty:AJ}{fr:Nat×Nat}(h:w.heap[b]? =AA (.cells c ty fr)):w.cell? ⟨b,o,AD⟩=c[o]? :=by simp[World.cell?,h]
theorem DVR.mono {w w':AK}{S S':Nat->Prop}(hS: ∀b,S b->S' b)(hw: ∀b,S b->w'.heap[b]? =w.heap[b]?){x:DV}{v:AE}(h:DVR w S x v):DVR w' S' x v:=by
 induction h with
 |int k n=>exact .int k n
 |bool b=>exact .bool b
 |str l=>exact .str l
 |nil=>exact .nil
 |raw v h=>exact .raw v h
 |sl0 sz e a cap=>exact .sl0 sz e a cap
 |sl sz n e b off cap f hb hc hl hv _ ih=>refine .sl sz n e b off cap f (fun h=>hS b (hb h)) hc hl (fun i hi j hj=> ?_) ih;rw[cell?_congr (hw b (hb (by omega)))];exact hv i hi j hj
theorem VR.mono {w w':AK}{S S':Nat->Prop}{ρ ρ':Rho}(hS: ∀b,S b->S' b)(hw: ∀b,S b->w'.heap[b]? =w.heap[b]?)
 (hρ: ∀l p,ρ l=AA p->ρ' l=AA p) {x:AV} {v:AE} (h:VR w S ρ x v):VR w' S' ρ' x v:=by
 induction h with
 |d h=>exact .d (h.mono hS hw)
 |any v=>exact .any v
 |und=>exact .und
 |agg cs vs hl _ ih=>exact .agg cs vs hl ih
 |tuple cs vs hl _ ih=>exact .tuple cs vs hl ih
 |ptr l off b C h=>exact .ptr l off b C (hρ _ _ h)
 |aptr l sz i off b C h=>exact .aptr l sz i off b C (hρ _ _ h)
 |dptr row off b base f hb hv hr=>refine .dptr row off b base f (hS b hb) (fun j hj=> ?_) (fun j x hx=>(hr j x hx).mono hS hw);rw[cell?_congr (hw b hb)];exact hv j hj
 |dfs sz n e a h=>exact .dfs sz n e a (h.mono hS hw)
 |msl l sz A9 len full ob C cap a h hc hcap ha=>exact .msl l sz A9 len full ob C cap a (hρ _ _ h) hc hcap ha
 |vsl l off n b C cap h hc=>exact .vsl l off n b C cap (hρ _ _ h) hc
 |map l b C h=>exact .map l b C (hρ _ _ h)
 |fn f first cap us vs hl1 _ hl _ ih1 ih=>exact .fn f first cap us vs hl1 ih1 hl ih
 |ge m n h=>exact .ge m n h
 |yl l b C h=>exact .yl l b C (hρ _ _ h)
theorem a0z.mono {w w':AK}{S S':Nat->Prop}{ρ ρ':Rho}(hS: ∀b,S b->S' b)(hw: ∀b,S b->w'.heap[b]? =w.heap[b]?)
 (hρ: ∀l p,ρ l=AA p->ρ' l=AA p) {b C:Nat} (hb:w'.heap[b]? =w.heap[b]?) {o:a0f} (h:a0z w S ρ b C o):a0z w' S' ρ' b C o:=by
 cases o with
 |var cs=>obtain⟨vs,ty,h1,h2,h3⟩:=h;exact⟨vs,ty,hb▸h1,h2,fun i x v hx hv=>(h3 i x v hx hv).mono hS hw hρ⟩
 |arr sz n e=>obtain⟨vs,ty,h1,h2,h3,h4⟩:=h;exact⟨vs,ty,hb▸h1,h2,h3,fun i hi=>⟨(h4 i hi).1,fun j x v hx hv=>((h4 i hi).2 j x v hx hv).mono hS hw⟩⟩
 |frz sz n e=>obtain⟨h0,vs,ty,fr,h1,h2,h3,h4⟩:=h;exact⟨hS b h0,vs,ty,fr,hb▸h1,h2,h3,fun i hi=>⟨(h4 i hi).1,fun j x v hx hv=>((h4 i hi).2 j x v hx hv).mono hS hw⟩⟩
 |map wide ks n f=>obtain⟨es,clock,h1,h2⟩:=h;exact⟨es,clock,hb▸h1,h2⟩
 |mapv wide ks keys vals=>obtain⟨es,clock,h1,h2,h3,h4⟩:=h;exact⟨es,clock,hb▸h1,h2,h3,fun i x e hx he=>(h4 i x e hx he).mono hS hw hρ⟩
 |loop s ts ps code=>obtain⟨r,h1,h2,h3,h4,h5,h6,h7⟩:=h;exact⟨r,hb▸h1,h2,h3,h4,h5,h6,fun i x v hx hv=>(h7 i x v hx hv).mono hS hw hρ⟩
 |gone=>exact hS b h
 |arrv vals=>obtain⟨vs,ty,h1,h2,h3,h4⟩:=h;exact⟨vs,ty,hb▸h1,h2,h3,fun i x v hx hv=>(h4 i x v hx hv).mono hS hw hρ⟩
structure St where
 ts:List AV
 h:List a0f
 mv:List Nat
inductive a0h where
 |t (i:Nat)
 |c (v:AV)
inductive Mode where
 |borrow
 |share
 |raw
 |data
 |fresh
 deriving DecidableEq
def d2j (op:Ay)(k:AS)(a b:Int):Int:=
 match op with
 | .and=>k.wrap (Af k.bits a&&&Af k.bits b).toNat
 | .or=>k.wrap (Af k.bits a|||Af k.bits b).toNat
 | .xor=>k.wrap (Af k.bits a^^^Af k.bits b).toNat
 |_=>k.wrap (Af k.bits a&&& ~~~Af k.bits b).toNat
def c2b (op:Ay)(k:AS)(a b:Int):Int:=
 match op with
 | .shl=>k.wrap (a*2^(Bv b.toNat k.bits))
 |_=>a.fdiv (2^(Bv b.toNat k.bits))
def c6z:Ay->Nat
 | .shl=>1
 | .shr=>1
 | .and=>2
 | .or=>2
 | .xor=>2
 | .andNot=>2
 |_=>0
inductive CK where
 |i (k:AS)
 |o
 deriving DecidableEq
inductive IOp where
 |mv (x:a0h)
 |newnil (sz:Nat)
 |bnew (sz:Nat)
 |pick (c a b:a0h)
 |alloc (zs:List DV)
 |box (x:a0h)
 |build (zs:List DV) (parts:List (Nat×Nat×a0h))
 |bslice (sz len:Nat) (zs:List DV) (parts:List (Nat×a0h)) (mu:Bool)
 |load (agg:Option Nat) (x:a0h)
 |store (sz:Nat) (a x:a0h)
 |nilchk (x:a0h)
 |bin (op:Ay) (x y:a0h)
 |binb (op:Ay) (x y:a0h)
 |aeq (neg:Bool) (ks:List AS) (x y:a0h)
 |un (op:UnOp) (x:a0h)
 |conv (k:AS) (x:a0h)
 |mkfn (f:A8) (first cap:List a0h)
 |mkmap (wide:Bool) (ks:List AS)
 |mkslice (sz:Nat) (zs:List DV) (bytes:Nat) (n:a0h)
 |slice (sz:Nat) (x:a0h) (lo hi mx:Option a0h)
 |slarr (n:Nat) (x:a0h) (lo hi:Option a0h)
 |faddr (off:Nat) (x:a0h)
 |field (off:Nat) (agg:Option Nat) (x:a0h)
 |iaddr (sz:Nat) (x i:a0h)
 |iaddrA (n sz:Nat) (x i:a0h)
 |lookup (wide:Bool) (ks:List AS) (ok:Bool) (m k:a0h)
 |mapupd (wide:Bool) (ks:List AS) (m k x:a0h)
 |extract (x:a0h) (i:Nat)
 |call (f:a0h) (args:List a0h) (m:Mode)
 |len (x:a0h)
 |lenm (x:a0h)
 |cap (x:a0h)
 |min (x y:a0h)
 |append (sz bytes:Nat) (x y:a0h) (mu:Bool)
 |copy (sz:Nat) (x y:a0h)
 |bad
 |appendIn (sz:Nat) (x y:a0h)
 |clear (sz:Nat) (zs:List DV) (x:a0h)
 |isnil (neg:Bool) (x:a0h)
 |slicex (sz:Nat) (x:a0h) (lo hi:Option a0h)
 |idxs (l:List UInt8) (x:a0h)
 |slchk (sz:Nat) (x:a0h) (lo hi mx:Option a0h)
 |ovl (x y:a0h)
 |appendN (sz bytes:Nat) (x y:a0h) (mu:Bool)
 |mkmapv (wide:Bool) (ks:List AS)
 |lookupv (wide:Bool) (ks:List AS) (ok:Bool) (z:AV) (m k:a0h)
 |mapupdv (wide:Bool) (ks:List AS) (m k x:a0h)
 |aeqw (neg:Bool) (ks:List CK) (x y:a0h)
 |max (x y:a0h)
 |bw (op:Ay) (x y:a0h)
 |bsliceP (sz len:Nat) (zs:List DV) (parts:List (Nat×a0h))
 |extractF (x:a0h) (i:Nat)
 |mapent (wide:Bool) (ks:List AS) (z:AV) (m k:a0h)
 |entst (m s x:a0h)
 |appendP (sz bytes:Nat) (x y:a0h)
 |bslice0 (sz:Nat)
 |bnewv
 |appendV (bytes:Nat) (x y:a0h)
 |bnewm (sz:Nat)
structure a1c where
 dst:Option Nat
 guard:Option (Nat×Bool)
 op:IOp
inductive Kl where
 |i|r|a|p|m
 deriving DecidableEq
def IOp.kl:IOp->Kl
 | .mv _=> .i
 | .pick .. => .i
 | .build .. => .i
 | .nilchk _=> .i
 | .bin .. => .i
 | .binb .. => .i
 | .aeq .. => .i
 | .aeqw .. => .i
 | .un .. => .i
 | .conv .. => .i
 | .mkfn .. => .i
 | .slice .. => .i
 | .slarr .. => .i
 | .faddr .. => .i
 | .field .. => .i
 | .iaddr .. => .i
 | .iaddrA .. => .i
 | .extract .. => .i
 | .len _=> .i
 | .min .. => .i
 | .max .. => .i
 | .bw .. => .i
 | .isnil .. => .i
 | .idxs .. => .i
 | .slchk .. => .i
 | .load .. => .r
 | .lookup .. => .r
 | .lookupv .. => .r
 | .lenm _=> .r
 | .alloc _=> .a
 | .bnew _=> .a
 | .box _=> .a
 | .mkslice .. => .a
 | .mkmap .. => .a
 | .mkmapv .. => .a
 | .call _ _ .data=> .p
 | .bsliceP .. => .i
 | .appendP .. => .i
 | .bslice0 _=> .i
 |_=> .m
def a9t:Option a0h->List a0h
 |none=>[]
 |some x=>[x]
def IOp.opds:IOp->List a0h
 | .mv x=>[x]
 | .newnil _=>[]
 | .bnew _=>[]
 | .pick c a b=>[c,a,b]
 | .alloc _=>[]
 | .box x=>[x]
 | .build _ ps=>ps.map (·.2.2)
 | .bslice _ _ _ ps _=>ps.map (·.2)
 | .load _ x=>[x]
 | .store _ a x=>[a,x]
 | .nilchk x=>[x]
 | .bin _ x y=>[x,y]
 | .binb _ x y=>[x,y]
 | .aeq _ _ x y=>[x,y]
 | .aeqw _ _ x y=>[x,y]
 | .un _ x=>[x]
 | .conv _ x=>[x]
 | .mkfn _ l m=>l++m
 | .mkmap .. =>[]
 | .mkslice _ _ _ n=>[n]
 | .slice _ x a b c=>x::(a9t a++a9t b++a9t c)
 | .slarr _ x a b=>x::(a9t a++a9t b)
 | .faddr _ x=>[x]
 | .field _ _ x=>[x]
 | .iaddr _ x y=>[x,y]
 | .iaddrA _ _ x y=>[x,y]
 | .lookup _ _ _ x y=>[x,y]
 | .mapupd _ _ x y z=>[x,y,z]
 | .extract x _=>[x]
 | .call f as _=>f::as
 | .len x=>[x]
 | .lenm x=>[x]
 | .cap x=>[x]
 | .min x y=>[x,y]
 | .max x y=>[x,y]
 | .bw _ x y=>[x,y]
 | .append _ _ x y _=>[x,y]
 | .copy _ x y=>[x,y]
 | .bad=>[]
 | .appendIn _ x y=>[x,y]
 | .clear _ _ x=>[x]
 | .isnil _ x=>[x]
 | .slicex _ x a b=>x::(a9t a++a9t b)
 | .idxs _ x=>[x]
 | .slchk _ x a b c=>x::(a9t a++a9t b++a9t c)
 | .ovl x y=>[x,y]
 | .appendN _ _ x y _=>[x,y]
 | .mkmapv .. =>[]
 | .lookupv _ _ _ _ x y=>[x,y]
 | .mapupdv _ _ x y z=>[x,y,z]
 | .bsliceP _ _ _ ps=>ps.map (·.2)
 | .extractF x _=>[x]
 | .mapent _ _ _ x y=>[x,y]
 | .entst x y z=>[x,y,z]
 | .appendP _ _ x y=>[x,y]
 | .bslice0 _=>[]
 | .bnewv=>[]
 | .bnewm _=>[]
 | .appendV _ x y=>[x,y]
def IOp.at:IOp->Option a0h
 | .load _ x=>AA x
 | .lookup _ _ _ m _=>AA m
 | .lookupv _ _ _ _ m _=>AA m
 | .lenm x=>AA x
 | .store _ a _=>AA a
 |_=>AD
def b2h:List a0h->List Nat
 |[]=>[]
 | .t i::l=>i::b2h l
 | .c _::l=>b2h l
def a1c.uses (o:a1c):List Nat:=
 match o.guard with
 |none=>b2h o.op.opds
 |some (j,_)=>j::b2h o.op.opds
structure a0m where
 o:a1c
 i:Nat
 slot:Nat
 av:List Nat
 bef:List Nat
 alone:Bool
 watch:Bool
inductive a0c where
 |skip
 |ops (l:List a1c)
 |draw (n:Nat) (l:List a0m)
 |seq (a b:a0c)
 |cond (c:a0h) (a b:a0c)
 |block (id:Nat) (c:a0c)
 |loop (c:a0c)
 |range (f:a0h) (params:List Nat) (assign body:a0c)
 |exit (id:Nat)
 |scope (c:a0c)
 |label (l:Nat)
 |ret
structure Sig where
 iadd:Int->Int->Int
 isub:Int->Int->Int
 imul:Int->Int->Int
 iquo:Int->Int->Int
 irem:Int->Int->Int
 iwrap:AS->Int->Int
 ilt:Int->Int->Bool
 ile:Int->Int->Bool
 ieq:Int->Int->Bool
 isel:Bool->Int->Int->Int
 bnot:Bool->Bool
 band:Bool->Bool->Bool
 beq:Bool->Bool->Bool
 bsel:Bool->Bool->Bool->Bool
 ofNat:Nat->Int
 toNat:Int->Nat
 nadd:Nat->Nat->Nat
 nsub:Nat->Nat->Nat
 nmul:Nat->Nat->Nat
 nlt:Nat->Nat->Bool
 inr:AS->Int->Prop
 inb:Int->Nat->Prop
 pnlt:Nat->Nat->Prop
 pnle:Nat->Nat->Prop
 pile:Int->Int->Prop
 nz:Int->Prop
 req:Prop->Prop->Prop
 alln:(Nat->Prop)->Prop
 top:Prop
 upd:(Nat->List DV)->Nat->List DV->Nat->List DV
 app:Nat->(Nat->List DV)->(Nat->List DV)->Nat->List DV
 shift:(Nat->List DV)->Nat->Nat->List DV
 rowsOk:Nat->Nat->(Nat->List DV)->Prop
 put:Nat->Nat->(Nat->List DV)->(Nat->List DV)->Nat->List DV
 rep:Nat->List DV->Nat->List DV
 nmin:Nat->Nat->Nat
 sidx:List UInt8->Int->Int
 ibits:Ay->AS->Int->Int->Int
 ishift:Ay->AS->Int->Int->Int
 mget:(List KC->Option Int)->List KC->Int
 mhas:(List KC->Option Int)->List KC->Bool
 mset:(List KC->Option Int)->List KC->Int->List KC->Option Int
 mcnt:(List KC->Option Int)->List KC->Nat->Nat
 same:AV->AV->Prop
 callb:Bool->A8->List AV->(AV->Prop)->Prop
 calln:A8->List AV->(AV->List a0f->Prop)->Prop
 call:A8->List AV->List a0f->(List Nat->AV->List a0f->Prop)->Prop
 yld:Nat->List AV->List a0f->(List Nat->AV->List a0f->Prop)->Prop
 loop:a0c->(Lv->St->Prop)->St->Prop
 range:a0h->List Nat->a0c->a0c->(Lv->St->Prop)->St->Prop
def a1a {α:Type}:List α->Nat->Option α
 |[],_=>AD
 |x::_,0=>AA x
 |_::l,i+1=>a1a l i
def a2x {α:Type}:List α->Nat->α->List α
 |[],_,_=>[]
 |_::l,0,y=>y::l
 |x::l,i+1,y=>x::a2x l i y
def b0o {α:Type}:List α->Nat->Nat->Option (List α)
 |_,0,0=>AA []
 |[],0,_+1=>AD
 |x::l,0,n+1=>match b0o l 0 n with|some r=>AA (x::r)|none=>AD
 |[],_+1,_=>AD
 |_::l,i+1,n=>b0o l i n
def b7y {α:Type}:List α->Nat->List α->Option (List α)
 |l,0,[]=>AA l
 |[],_,_=>AD
 |_::l,0,y::new=>match b7y l 0 new with|some r=>AA (y::r)|none=>AD
 |x::l,i+1,new=>match b7y l i new with|some r=>AA (x::r)|none=>AD
def b3y {α β:Type}(f:α->β):List α->List β
 |[]=>[]
 |x::l=>f x::b3y f l
def a2u {α:Type}:List α->List α->List α
 |[],m=>m
 |x::l,m=>x::a2u l m
def a3q {α:Type}:List α->Nat
 |[]=>0
 |_::l=>a3q l+1
def opd (ts:List AV):a0h->AV
 | .c v=>v
 | .t i=>match a1a ts i with|some v=>v|none=> .any
def AV.cells:AV->List AV
 | .agg cs=>cs
 |v=>[v]
mutual
def AV.norm:AV->AV
 | .d (.int k n)=> .d (.int k (.v n.val))
 | .agg cs=> .agg (AV.normL cs)
 | .tuple cs=> .tuple (AV.normL cs)
 | .fn f us cs=> .fn f (AV.normL us) (AV.normL cs)
 |v=>v
def AV.normL:List AV->List AV
 |[]=>[]
 |v::l=>v.norm::AV.normL l
end
mutual
def AV.forget (l:Nat)(all:Bool):AV->AV
 | .agg cs=> .agg (AV.forgetL l all cs)
 | .tuple cs=> .tuple (AV.forgetL l all cs)
 | .fn f us cs=> .fn f (AV.forgetL l all us) (AV.forgetL l all cs)
 | .ptr m off=>if (if all then BA l m else AH l m) then .any else .ptr m off
 | .aptr m sz i off=>if (if all then BA l m else AH l m) then .any else .aptr m sz i off
 | .msl m sz s n f=>if (if all then BA l m else AH l m) then .any else .msl m sz s n f
 | .vsl m off n=>if (if all then BA l m else AH l m) then .any else .vsl m off n
 | .map m=>if (if all then BA l m else AH l m) then .any else .map m
 | .yl m=>if (if all then BA l m else AH l m) then .any else .yl m
 |v=>v
def AV.forgetL (l:Nat)(all:Bool):List AV->List AV
 |[]=>[]
 |v::r=>v.forget l all::AV.forgetL l all r
end
mutual
def AV.shift (k:Nat):AV->AV
 | .agg cs=> .agg (AV.shiftL k cs)
 | .tuple cs=> .tuple (AV.shiftL k cs)
 | .fn f us cs=> .fn f (AV.shiftL k us) (AV.shiftL k cs)
 | .ptr m off=> .ptr (k+m) off
 | .aptr m sz i off=> .aptr (k+m) sz i off
 | .msl m sz s n f=> .msl (k+m) sz s n f
 | .vsl m off n=> .vsl (k+m) off n
 | .map m=> .map (k+m)
 | .yl m=> .yl (k+m)
 |v=>v
def AV.shiftL (k:Nat):List AV->List AV
 |[]=>[]
 |v::r=>v.shift k::AV.shiftL k r
end
def a0f.shift (k:Nat):a0f->a0f
 | .var cs=> .var (AV.shiftL k cs)
 | .mapv wide ks keys vals=> .mapv wide ks keys (AV.shiftL k vals)
 | .arrv vals=> .arrv (AV.shiftL k vals)
 | .loop s ts ps code=> .loop s (AV.shiftL k ts) ps code
 |o=>o
def a9s (k:Nat):List a0f->List a0f
 |[]=>[]
 |o::r=>o.shift k::a9s k r
def a0f.forget (l:Nat)(all:Bool):a0f->a0f
 | .var cs=> .var (AV.forgetL l all cs)
 | .mapv wide ks keys vals=> .mapv wide ks keys (AV.forgetL l all vals)
 | .arrv vals=> .arrv (AV.forgetL l all vals)
 | .loop s ts ps code=> .loop s (AV.forgetL l all ts) ps code
 |o=>o
def a2n (l:Nat)(all:Bool):List a0f->List a0f
 |[]=>[]
 |o::r=>o.forget l all::a2n l all r
def St.purge (st:St):List Nat->St
 |[]=>st
 |l::pg=>St.purge ⟨AV.forgetL l AF st.ts,st.h,l::st.mv⟩ pg
def St.put (st:St)(dst:Option Nat)(v:AV):St:=
 match dst with
 |none=>st
 |some d=>⟨a2x st.ts d v,st.h,st.mv⟩
def St.setH (st:St)(h:List a0f):St:=⟨st.ts,h,st.mv⟩
def AV.one:AV->Bool
 | .und=>AF
 | .any=>AF
 | .agg _=>AF
 | .tuple _=>AF
 |_=>AT
def b5z:List AV->Bool
 |[]=>AT
 |v::l=>if v.one then b5z l else AF
def b1j (k:List KC):List (List KC)->List AV->Option AV
 |k'::ks,v::vs=>if k'=k then AA v else b1j k ks vs
 |_,_=>AD
def c7m (k:List KC)(x:AV):List (List KC)->List AV->Option (List AV)
 |k'::ks,v::vs=>if k'=k then AA (x::vs) else match c7m k x ks vs with|some l=>AA (v::l)|none=>AD
 |_,_=>AD
def c9t (k:List KC):List (List KC)->Nat->Option Nat
 |[],_=>AD
 |k'::ks,n=>if k'=k then AA n else c9t k ks (n+1)
section
variable (S:Sig)
def b8h (e:Nat->List DV):Option Nat->Nat->List DV
 |none=>e
 |some s=>S.shift e s
def c8f:Option Nat->Nat->Nat
 |none,n=>n
 |some s,n=>S.nadd s n
def b3s (h:List a0f)(v:AV)(K:Nat->Nat->(Nat->List DV)->Prop):Prop:=
 match v with
 | .d (.sl sz n e)=>K sz n e
 | .dfs sz n e=>K sz n e
 | .msl l sz s n _=>match a1a h l with
   |some (.arr sz' m e)=>if AH sz sz' then S.req (S.pnle (c8f S s n) m) (K sz n (b8h S e s)) else False
   |some (.frz sz' m e)=>if AH sz sz' then S.req (S.pnle (c8f S s n) m) (K sz n (b8h S e s)) else False
   |_=>False
 |_=>False
def dvs:List AV->Option (List DV)
 |[]=>AA []
 | .d x::r=>match dvs r with|some l=>AA (x::l)|none=>AD
 | .fn f [] []::r=>match dvs r with|some l=>AA (.raw (.func (.func f) #[] #[])::l)|none=>AD
 |_::_=>AD
def d9t:List (List AV)->Option (List (List DV))
 |[]=>AA []
 |r::rs=>match dvs r,d9t rs with
  |some l,AA ls=>AA (l::ls)
  |_,_=>AD
def d9s:AV->AV
 | .d (.raw (.func (.func f) us vs))=>if AH us.size 0&&AH vs.size 0 then .fn f [] [] else .any
 |v=>v
def rowAt:List (List DV)->Nat->List DV
 |[],_=>[]
 |r::_,0=>r
 |_::rs,i+1=>rowAt rs i
def c7s (h:List a0f)(v:AV)(K:AV->Prop):Prop:=
 match v with
 | .vsl l off n=>match a1a h l with
   |some (.var cs)=>match b0o cs off n with
    |some c=>match dvs c with
     |some ds=>K (.d (.sl 1 n (rowAt (b3y (fun x=>[x]) ds))))
     |none=>False
    |none=>False
   |_=>False
 | .msl .. =>b3s S h v fun sz n e=>K (.d (.sl sz n e))
 | .dfs sz n e=>K (.d (.sl sz n e))
 |v=>K v
def c5a (h:List a0f)(vs:List AV)(K:List AV->Prop):Prop:=
 match vs with
 |[]=>K []
 |v::r=>c7s S h v fun v'=>c5a h r fun r'=>K (v'::r')
def b0n (h:List a0f)(vs:List AV)(K:List AV->Prop):Prop:=
 match vs with
 |[]=>K []
 | .agg cs::r=>c5a S h cs fun cs'=>b0n h r fun r'=>K (.agg cs'::r')
 |v::r=>c7s S h v fun v'=>b0n h r fun r'=>K (v'::r')
def a2m (h:List a0f)(v:AV)(K:AV->List a0f->Prop):Prop:=
 match v with
 | .msl l sz s n f=>b3s S h (.msl l sz s n f) fun sz n e=>match a1a h l with
   |some (.arr sz' m e')=>K (.d (.sl sz n e)) (a2x h l (.frz sz' m e'))
   |_=>K (.d (.sl sz n e)) h
 | .dfs sz n e=>K (.d (.sl sz n e)) h
 |v=>K v h
def a3t (h:List a0f)(vs:List AV)(K:List AV->List a0f->Prop):Prop:=
 match vs with
 |[]=>K [] h
 |v::r=>a2m S h v fun v' h'=>a3t h' r fun r' h''=>K (v'::r') h''
def a2p (h:List a0f)(l:Nat)(K:AV->List a0f->Prop):Prop:=
 match a1a h l with
 |some (.var cs)=>a3t S h cs fun cs' h'=>match dvs cs' with
  |some row=>K (.dptr row 0) (a2x h' l .gone)
  |none=>False
 |_=>False
def a1w (h:List a0f)(vs:List AV)(K:List AV->List a0f->Prop):Prop:=
 match vs with
 |[]=>K [] h
 | .agg cs::r=>a3t S h cs fun cs' h'=>a1w h' r fun r' h''=>K (.agg cs'::r') h''
 | .ptr l 0::r=>a2p S h l fun v' h'=>a1w h' r fun r' h''=>K (v'::r') h''
 |v::r=>a2m S h v fun v' h'=>a1w h' r fun r' h''=>K (v'::r') h''
def b0p (h:List a0f)(v:AV)(K:List DV->List a0f->Prop):Prop:=
 a3t S h v.cells fun cs h'=>match dvs cs with|some l=>K l h'|none=>False
def d0v (op:Ay)(k:AS)(x y:IX)(K:DV->Prop):Prop:=
 match op with
 | .add=>match x,y with
   | .l a,.l b=>S.req (S.inr k (a+b)) (K (.int k (.l (a+b))))
   |x,y=>S.req (S.inr k (S.iadd x.val y.val)) (K (.int k (.v (S.iadd x.val y.val))))
 | .sub=>match x,y with
   | .l a,.l b=>S.req (S.inr k (a-b)) (K (.int k (.l (a-b))))
   |x,y=>S.req (S.inr k (S.isub x.val y.val)) (K (.int k (.v (S.isub x.val y.val))))
 | .mul=>S.req (S.inr k (S.imul x.val y.val)) (K (.int k (.v (S.imul x.val y.val))))
 | .quo=>S.req (S.nz y.val) (S.req (S.inr k (S.iquo x.val y.val)) (K (.int k (.v (S.iquo x.val y.val)))))
 | .rem=>S.req (S.nz y.val) (K (.int k (.v (S.irem x.val y.val))))
 | .eql=>match x,y with
   | .l a,.l b=>K (.bool (BS a b))
   |x,y=>K (.bool (S.ieq x.val y.val))
 | .neq=>match x,y with
   | .l a,.l b=>K (.bool (Bool.not (BS a b)))
   |x,y=>K (.bool (S.bnot (S.ieq x.val y.val)))
 | .lss=>K (.bool (S.ilt x.val y.val))
 | .gtr=>K (.bool (S.ilt y.val x.val))
 | .leq=>K (.bool (S.ile x.val y.val))
 | .geq=>K (.bool (S.ile y.val x.val))
 |_=>False
def bwI (op:Ay)(k k':AS)(a b:Int)(K:Int->Prop):Prop:=
 match c6z op with
 |1=>S.req (S.pile 0 b) (K (S.ishift op k a b))
 |2=>if k=k' then K (S.ibits op k a b) else False
 |_=>False
def d9q:List AS->List AV->List AV->Option Bool
 |[],[],[]=>AA AT
 |k::ks,.d (.int k1 x)::xs,.d (.int k2 y)::ys=>if k=k1 then (if k=k2 then match d9q ks xs ys with
  |some b=>AA (S.band (S.ieq x.val y.val) b)
  |none=>AD else AD) else AD
 |_,_,_=>AD
def c6a:List CK->List AV->List AV->Option Bool
 |[],[],[]=>AA AT
 | .i k::ks,.d (.int k1 x)::xs,.d (.int k2 y)::ys=>if k=k1 then (if k=k2 then match c6a ks xs ys with
   |some b=>AA (S.band (S.ieq x.val y.val) b)
   |none=>AD else AD) else AD
 | .o::ks,.d (.bool x)::xs,.d (.bool y)::ys=>match c6a ks xs ys with
   |some b=>AA (S.band (S.beq x y) b)
   |none=>AD
 |_,_,_=>AD
def a4f:List AS->List AV->(List KC->Prop)->Prop
 |[],[],K=>K []
 |k::ks,.d (.int k' x)::xs,K=>if k=k' then S.req (S.inr k x.val) (a4f ks xs fun l=>K (.i x.val::l)) else False
 |_,_,_=>False
def a2z (wide:Bool)(ks:List AS)(v:AV)(K:List KC->Prop):Prop:=
 match v with
 | .agg cs=>if wide then a4f S ks cs K else False
 |v=>if wide then False else a4f S ks [v] K
def e0h:AV->(Bool->Prop)->Prop
 | .d (.bool b),K=>K b
 |_,_=>False
def a9r:AV->(IX->Prop)->Prop
 | .d (.int .i64 n),K=>K n
 |_,_=>False
def b2j (ts:List AV):List a0h->List AV
 |[]=>[]
 |x::l=>opd ts x::b2j ts l
def b2r (ts:List AV):List AV->List (Nat×Nat×a0h)->Option (List AV)
 |cs,[]=>AA cs
 |cs,(off,sz,x)::r=>if AH (a3q (opd ts x).cells) sz&&b5z (opd ts x).cells then match b7y cs off (opd ts x).cells with
    |some cs'=>b2r ts cs' r
    |none=>AD
  else AD
def a8q (ts:List AV)(sz:Nat):List (List AV)->List (Nat×a0h)->Option (List (List AV))
 |rs,[]=>AA rs
 |rs,(i,x)::r=>if AH (a3q (opd ts x).cells) sz&&b5z (opd ts x).cells then match a1a rs i with
    |some _=>a8q ts sz (a2x rs i (opd ts x).cells) r
    |none=>AD
  else AD
def b8q {α:Type}(x:α):Nat->List α
 |0=>[]
 |n+1=>x::b8q x n
def a4s (h:List a0f)(rs:List (List AV))(K:List (List DV)->List a0f->Prop):Prop:=
 match rs with
 |[]=>K [] h
 |r::rs=>a3t S h r fun cs h'=>match dvs cs with
  |some l=>a4s h' rs fun ls h''=>K (l::ls) h''
  |none=>False
def a8i (row:List DV)(off:Nat)(agg:Option Nat)(K:AV->Prop):Prop:=
 match agg with
 |none=>match a1a row off with|some v=>K (.d v)|none=>False
 |some m=>match b0o row off m with|some c=>K (.agg (b3y .d c))|none=>False
def a8s (h:List a0f)(p:AV)(agg:Option Nat)(K:AV->Prop):Prop:=
 match p with
 | .ptr l off=>match a1a h l with
   |some (.var cs)=>match agg with
    |none=>match a1a cs off with|some v=>K v|none=>False
    |some n=>match b0o cs off n with|some c=>K (.agg c)|none=>False
   |_=>False
 | .aptr l sz i off=>match a1a h l with
   |some (.arr sz' n e)=>if AH sz sz' then S.req (S.pnlt i n) (a8i (e i) off agg K) else False
   |some (.frz sz' n e)=>if AH sz sz' then S.req (S.pnlt i n) (a8i (e i) off agg K) else False
   |some (.arrv vals)=>if AH sz 1&&AH off 0 then match agg with
    |none=>match a1a vals i with|some v=>K v|none=>False
    |some _=>False
    else False
   |_=>False
 | .dptr row off=>a8i row off agg K
 |_=>False
def h9m:Option a0f->Option (List AV)
 |some (.arrv vals)=>AA vals
 |_=>AD
def a6o (h:List a0f)(p v:AV)(sz:Nat)(K:List a0f->Prop):Prop:=
 match p with
 | .ptr l off=>if AH (a3q v.cells) sz&&b5z v.cells then match a1a h l with
   |some (.var cs)=>match b7y cs off v.cells with|some cs'=>K (a2x h l (.var cs'))|none=>False
   |_=>False
   else False
 | .aptr l sz' i off=>if AH (a3q v.cells) sz&&b5z v.cells then match h9m (a1a h l) with
   |some vals=>if AH sz' 1&&AH off 0&&AH sz 1 then match a1a v.cells 0 with
    |some x=>S.req (S.pnlt i (a3q vals)) (K (a2x h l (.arrv (a2x vals i x))))
    |none=>False
    else False
   |none=>b0p S h v fun new h'=>match a1a h' l with
   |some (.arr sz'' n e)=>if AH sz' sz'' then S.req (S.pnlt i n) (match b7y (e i) off new with
     |some row=>K (a2x h' l (.arr sz'' n (S.upd e i row)))
     |none=>False) else False
   |_=>False
   else False
 |_=>False
def AV.free:AV->Bool
 | .d _=>AT
 | .dfs .. =>AT
 | .dptr .. =>AT
 | .fn _ [] []=>AT
 |_=>AF
def a3z:List AV->Bool
 |[]=>AT
 | .agg cs::l=>if frees1 cs then a3z l else AF
 |v::l=>if v.free then a3z l else AF
where frees1:List AV->Bool
 |[]=>AT
 |v::l=>if v.free then frees1 l else AF
def AV.isPtr:AV->Bool
 | .ptr .. =>AT
 | .aptr .. =>AT
 | .dptr .. =>AT
 |_=>AF
def big:Nat:=1073741824
def b0u (ts:List AV)(x:Option a0h)(d:IX)(K:IX->Prop):Prop:=
 match x with
 |none=>K d
 |some o=>a9r (opd ts o) K
def nat (S:Sig):IX->Nat
 | .v n=>S.toNat n
 | .l n=>n.toNat
def a6q (s:Option Nat)(lo:IX):Option Nat:=
 match lo with
 | .l 0=>s
 |lo=>match s with
  |none=>AA (nat S lo)
  |some t=>AA (S.nadd t (nat S lo))
def shiftL (e:Nat->List DV)(lo:IX):Nat->List DV:=
 match lo with
 | .l 0=>e
 |lo=>S.shift e (nat S lo)
def a1d (ts:List AV)(sz:Nat)(x:AV)(lo hi mx:Option a0h)(K:AV->Prop):Prop:=
 match x with
 | .msl l sz' s n f=>if AH sz sz' then
    b0u ts lo (.l 0) fun lo=>b0u ts hi (.v (S.ofNat n)) fun hi=>
     S.req (S.pile 0 lo.val) (S.req (S.pile lo.val hi.val) (S.req (S.pile hi.val (S.ofNat n)) (
      match mx with
      |none=>if f then S.req (hi.val=S.ofNat n) (K (.msl l sz (a6q S s lo) (S.nsub (nat S hi) (nat S lo)) AT)) else K (.msl l sz (a6q S s lo) (S.nsub (nat S hi) (nat S lo)) AF)
      |some m=>a9r (opd ts m) fun m=>S.req (m.val=hi.val) (K (.msl l sz (a6q S s lo) (S.nsub (nat S hi) (nat S lo)) AT)))))
   else False
 | .d (.sl sz' n e)=>if AH sz sz' then
    b0u ts lo (.l 0) fun lo=>b0u ts hi (.v (S.ofNat n)) fun hi=>
     S.req (S.pile 0 lo.val) (S.req (S.pile lo.val hi.val) (S.req (S.pile hi.val (S.ofNat n)) (
      match mx with
      |none=>K (.d (.sl sz (S.nsub (nat S hi) (nat S lo)) (shiftL S e lo)))
      |some m=>a9r (opd ts m) fun m=>S.req (m.val=hi.val) (K (.dfs sz (S.nsub (nat S hi) (nat S lo)) (shiftL S e lo))))))
   else False
 | .d .nil=>b0u ts lo (.l 0) fun lo=>b0u ts hi (.l 0) fun hi=>S.req (lo.val=0) (S.req (hi.val=0) (match mx with
    |none=>K (.d .nil)
    |some m=>a9r (opd ts m) fun m=>S.req (m.val=0) (K (.d .nil))))
 |_=>False
def idx (i:IX)(n:Nat)(K:Nat->Prop):Prop:=S.req (S.inb i.val n) (K (nat S i))
def a2l (sz:Nat)(x:AV)(i:IX)(K:AV->Prop):Prop:=
 match x with
 | .msl l sz' s n _=>if AH sz sz' then idx S i n fun j=>K (.aptr l sz (c8f S s j) 0) else False
 | .d (.sl sz' n e)=>if AH sz sz' then idx S i n fun j=>K (.dptr (e j) 0) else False
 | .dfs sz' n e=>if AH sz sz' then idx S i n fun j=>K (.dptr (e j) 0) else False
 |_=>False
def a8b (sz:Nat)(h:List a0f)(v:AV)(K:Nat->Nat->(Nat->List DV)->Prop):Prop:=
 match v with
 | .d .nil=>K sz 0 fun _=>[]
 | .d (.raw (.slice _ 0 _))=>K sz 0 fun _=>[]
 |v=>b3s S h v K
def a2g (h:List a0f)(sz:Nat)(x y:AV)(mu:Bool)(K:AV->List a0f->List Nat->Prop):Prop:=
 a8b S sz h y fun sz2 m e2=>if AH sz sz2 then (
  match x with
  | .d .nil=>S.req (S.pnle m big) (if mu then K (.msl (a3q h) sz AD m AF) (a2u h [.arr sz m e2]) [] else K (.d (.sl sz m e2)) h [])
  | .dfs sz' n e=>if AH sz sz' then S.req (S.pnle (S.nadd n m) big) (S.req (S.pnlt 0 m) (
     if mu then K (.msl (a3q h) sz AD (S.nadd n m) AF) (a2u h [.arr sz (S.nadd n m) (S.app n e e2)]) []
     else K (.d (.sl sz (S.nadd n m) (S.app n e e2))) h [])) else False
  | .msl l sz' AD n AF=>if AH sz sz' then match a1a h l with
     |some (.arr sz'' n' e)=>if AH sz sz'' then S.req (n'=n) (S.req (S.pnle (S.nadd n m) big)
       (K (.msl l sz AD (S.nadd n m) AF) (a2n l AF (a2x h l (.arr sz (S.nadd n m) (S.app n e e2)))) [l])) else False
     |_=>False else False
  | .msl l sz' s n AT=>if AH sz sz' then b3s S h (.msl l sz' s n AT) fun _ n e=>S.req (S.pnle (S.nadd n m) big) (S.req (S.pnlt 0 m) (
     if mu then K (.msl (a3q h) sz AD (S.nadd n m) AF) (a2u h [.arr sz (S.nadd n m) (S.app n e e2)]) []
     else K (.d (.sl sz (S.nadd n m) (S.app n e e2))) h [])) else False
  |_=>False) else False
def a4d:AV->Bool
 | .d .nil=>AT
 | .d (.sl _ 0 _)=>AT
 | .dfs _ 0 _=>AT
 | .msl _ _ _ 0 _=>AT
 |_=>AF
def f7l (n:Nat):Option Nat->Nat
 |none=>n
 |some s=>S.nsub n s
def c2c:Option Nat->Nat
 |none=>0
 |some s=>s
def a4o (h:List a0f)(sz:Nat)(x y:AV)(K:AV->List a0f->Prop):Prop:=
 a8b S sz h y fun sz2 m e2=>if AH sz sz2 then (
  match x with
  | .msl l sz' s n AF=>if AH sz sz' then match a1a h l with
     |some (.arr sz'' n' e)=>if AH sz sz'' then S.req (S.pnle (S.nadd (c8f S s n) m) n') (
       K (.msl l sz s (S.nadd n m) AF) (a2x h l (.arr sz n' (S.put (c8f S s n) m e e2)))) else False
     |_=>False else False
  |_=>False) else False
def b2m (e:Nat->List DV):Nat->Option (List AV)
 |0=>AA []
 |k+1=>match b2m e k with
  |some l=>match e k with
   |[x]=>AA (a2u l [.d x])
   |_=>AD
  |none=>AD
def a5z (h:List a0f)(sz:Nat)(x y:AV)(K:AV->List a0f->Prop):Prop:=
 a8b S sz h y fun sz2 m e2=>if AH sz sz2 then (
  match x with
  | .msl l sz' s n _=>if AH sz sz' then match a1a h l with
     |some (.arr sz'' n' e)=>if AH sz sz'' then S.req (S.pnle (c8f S s n) n') (
       K (.d (.int .i64 (.v (S.ofNat (S.nmin n m))))) (a2x h l (.arr sz n' (S.put (c2c s) (S.nmin n m) e e2)))) else False
     |_=>False else False
  | .vsl l off n=>if AH sz 1 then match a1a h l with
     |some (.var cs)=>match b2m e2 (S.nmin n m) with
      |some new=>match b7y cs off new with
       |some cs'=>K (.d (.int .i64 (.v (S.ofNat (S.nmin n m))))) (a2x h l (.var cs'))
       |none=>False
      |none=>False
     |_=>False else False
  |_=>False) else False
def h9v (h:List a0f)(y:AV)(K:List AV->Prop):Prop:=
 match y with
 | .d .nil=>K []
 | .d (.sl 1 n e)=>match b2m e n with|some l=>K l|none=>False
 | .msl l 1 s n _=>match a1a h l with
   |some (.arrv vals)=>match b0o vals (c2c s) n with|some c=>K c|none=>False
   |_=>False
 |_=>False
def h4i (h:List a0f)(x y:AV)(K:AV->List a0f->List Nat->Prop):Prop:=
 h9v h y fun new=>match x with
  | .msl l 1 AD n AF=>match a1a h l with
    |some (.arrv vals)=>S.req (a3q vals=n) (S.req (S.pnle (S.nadd n (a3q new)) big) (S.req (b5z new=AT)
      (K (.msl l 1 AD (S.nadd n (a3q new)) AF) (a2n l AF (a2x h l (.arrv (a2u vals new)))) [l])))
    |_=>False
  |_=>False
def a4h (ts:List AV)(sz sz' n:Nat)(lo hi mx:Option a0h)(K:Prop):Prop:=
 if AH sz sz' then b0u ts lo (.l 0) fun lo=>b0u ts hi (.v (S.ofNat n)) fun hi=>b0u ts mx (.v (S.ofNat n)) fun mx=>
  S.req (S.pile 0 lo.val) (S.req (S.pile lo.val hi.val) (S.req (S.pile hi.val mx.val) (S.req (S.pile mx.val (S.ofNat n)) K))) else False
def a0a (o:IOp)(st:St)(K:AV->List a0f->List Nat->Prop):Prop:=
 match o with
 | .mv x=>K (opd st.ts x) st.h []
 | .newnil sz=>K (.msl (a3q st.h) sz AD 0 AF) (a2u st.h [.arr sz 0 fun _=>[]]) []
 | .bnew sz=>K (.msl (a3q st.h) sz AD 0 AF) (a2u st.h [.arr sz 0 fun _=>[]]) []
 | .pick c a b=>e0h (opd st.ts c) fun
   |true=>K (opd st.ts a) st.h []
   |false=>K (opd st.ts b) st.h []
 | .alloc zs=>K (.ptr (a3q st.h) 0) (a2u st.h [.var (b3y .d zs)]) []
 | .box x=>if b5z (opd st.ts x).cells then K (.ptr (a3q st.h) 0) (a2u st.h [.var (opd st.ts x).cells]) [] else False
 | .build zs ps=>match b2r st.ts (b3y .d zs) ps with|some cs=>K (.agg cs) st.h []|none=>False
 | .bslice sz len zs ps mu=>match a8q st.ts sz (b8q (b3y .d zs) len) ps with
   |some rs=>a4s S st.h rs fun rows h'=>
     if mu then K (.msl (a3q h') sz AD len AF) (a2u h' [.arr sz len (rowAt rows)]) [] else K (.d (.sl sz len (rowAt rows))) h' []
   |none=>False
 | .load agg x=>a8s S st.h (opd st.ts x) agg fun v=>K v st.h []
 | .store sz a x=>a6o S st.h (opd st.ts a) (opd st.ts x) sz fun h'=>K (.und) h' []
 | .nilchk x=>if (opd st.ts x).isPtr then K (opd st.ts x) st.h [] else False
 | .bin op x y=>match opd st.ts x,opd st.ts y with
   | .d (.int k a),.d (.int k' b)=>if k=k' then d0v S op k a b fun v=>K (.d v) st.h [] else False
   | .d (.int .i64 a),.ge m=>match op with
     | .gtr=>S.req (S.pile a.val (S.ofNat m)) (K (.d (.bool AF)) st.h [])
     |_=>False
   |_,_=>False
 | .binb op x y=>match opd st.ts x,opd st.ts y with
   | .d (.bool a),.d (.bool b)=>match op with
     | .eql=>K (.d (.bool (S.beq a b))) st.h []
     | .neq=>K (.d (.bool (S.bnot (S.beq a b)))) st.h []
     |_=>False
   |_,_=>False
 | .aeq neg ks x y=>match opd st.ts x,opd st.ts y with
   | .agg xs,.agg ys=>match d9q S ks xs ys with
     |some b=>K (.d (.bool (if neg then S.bnot b else b))) st.h []
     |none=>False
   |_,_=>False
 | .un op x=>match op,opd st.ts x with
   | .not,.d (.bool AT)=>K (.d (.bool AF)) st.h []
   | .not,.d (.bool AF)=>K (.d (.bool AT)) st.h []
   | .neg,.d (.int k n)=>S.req (S.inr k (S.isub 0 n.val)) (K (.d (.int k (.v (S.isub 0 n.val)))) st.h [])
   |_,_=>False
 | .conv k x=>match opd st.ts x with
   | .d (.int _ n)=>K (.d (.int k (.v (S.iwrap k n.val)))) st.h []
   |_=>False
 | .mkfn f first cap=>K (.fn f (b2j st.ts first) (b2j st.ts cap)) st.h []
 | .mkmap wide ks=>K (.map (a3q st.h)) (a2u st.h [.map wide ks 0 fun _=>AD]) []
 | .mkslice sz zs _ n=>a9r (opd st.ts n) fun n=>S.req (S.pile 0 n.val) (S.req (S.pile n.val (S.ofNat big))
    (K (.msl (a3q st.h) sz AD (nat S n) AF) (a2u st.h [.arr sz (nat S n) (S.rep (nat S n) zs)]) []))
 | .slice sz x lo hi mx=>a1d S st.ts sz (opd st.ts x) lo hi mx fun v=>K v st.h []
 | .slarr n x lo hi=>match opd st.ts x with
   | .ptr l off=>b0u st.ts lo (.l 0) fun lo=>b0u st.ts hi (.l n) fun hi=>
      S.req (S.pile 0 lo.val) (S.req (S.pile lo.val hi.val) (S.req (S.pile hi.val (S.ofNat n)) (match S.nsub (nat S hi) (nat S lo) with
       |0=>K (.d (.sl 1 0 fun _=>[])) st.h []
       |m+1=>K (.vsl l (S.nadd off (nat S lo)) (m+1)) st.h [])))
   |_=>False
 | .faddr off x=>match opd st.ts x with
   | .ptr l o=>K (.ptr l (o+off)) st.h []
   | .aptr l sz i o=>K (.aptr l sz i (o+off)) st.h []
   | .dptr row o=>K (.dptr row (o+off)) st.h []
   |_=>False
 | .field off agg x=>match opd st.ts x with
   | .agg cs=>match agg with
     |none=>match a1a cs off with|some v=>K v st.h []|none=>False
     |some n=>match b0o cs off n with|some c=>K (.agg c) st.h []|none=>False
   |_=>False
 | .iaddr sz x i=>a9r (opd st.ts i) fun i=>a2l S sz (opd st.ts x) i fun v=>K v st.h []
 | .iaddrA n sz x i=>a9r (opd st.ts i) fun i=>match opd st.ts x with
   | .ptr l off=>match i with
     | .l i=>if BK i.toNat n&&BS (Int.ofNat i.toNat) i then K (.ptr l (off+i.toNat*sz)) st.h [] else False
     | .v i=>S.req (S.inb i n) (K (.ptr l (S.nadd off (S.nmul (S.toNat i) sz))) st.h [])
   |_=>False
 | .lookup wide ks ok m k=>match opd st.ts m with
   | .map l=>match a1a st.h l with
     |some (.map wide' ks' _ f)=>if wide=wide'/\ks=ks' then a2z S wide ks (opd st.ts k) fun kc=>
       if ok then K (.tuple [.d (.int .i64 (.v (S.mget f kc))),.d (.bool (S.mhas f kc))]) st.h [] else K (.d (.int .i64 (.v (S.mget f kc)))) st.h [] else False
     |_=>False
   |_=>False
 | .mapupd wide ks m k x=>match opd st.ts m with
   | .map l=>match a1a st.h l with
     |some (.map wide' ks' n f)=>if wide=wide'/\ks=ks' then a2z S wide ks (opd st.ts k) fun kc=>
       a9r (opd st.ts x) fun x=>K .und (a2x st.h l (.map wide ks (S.mcnt f kc n) (S.mset f kc x.val))) [] else False
     |_=>False
   |_=>False
 | .extract x i=>match opd st.ts x with
   | .tuple vs=>match a1a vs i with|some v=>K v st.h []|none=>False
   |_=>False
 | .call f args m=>match d9s (opd st.ts f) with
   | .fn f first cap=>match m with
     | .borrow=>b0n S st.h (a2u first (a2u (b2j st.ts args) cap)) fun vs=>if a3z vs then S.callb AT f (AV.normL vs) fun v=>K v st.h [] else False
     | .share=>a1w S st.h (a2u first (a2u (b2j st.ts args) cap)) fun vs h'=>if a3z vs then S.callb AF f (AV.normL vs) fun v=>K v h' [] else False
     | .data=>if a3z (a2u first (a2u (b2j st.ts args) cap)) then S.callb AF f (AV.normL (a2u first (a2u (b2j st.ts args) cap))) fun v=>K v st.h [] else False
     | .fresh=>a1w S st.h (a2u first (a2u (b2j st.ts args) cap)) fun vs h'=>if a3z vs then
        S.calln f (AV.normL vs) fun x os=>K (x.shift (a3q h')) (a2u h' (a9s (a3q h') os)) [] else False
     | .raw=>S.call f (AV.normL (a2u first (a2u (b2j st.ts args) cap))) st.h fun pg v h''=>K v h'' pg
   | .yl l=>if m= .raw then S.yld l (AV.normL (b2j st.ts args)) st.h fun pg v h''=>K v h'' pg else False
   |_=>False
 | .len x=>match opd st.ts x with
   | .d .nil=>K (.d (.int .i64 (.l 0))) st.h []
   | .d (.sl _ n _)=>K (.d (.int .i64 (.v (S.ofNat n)))) st.h []
   | .dfs _ n _=>K (.d (.int .i64 (.v (S.ofNat n)))) st.h []
   | .msl _ _ _ n _=>K (.d (.int .i64 (.v (S.ofNat n)))) st.h []
   | .vsl _ _ n=>K (.d (.int .i64 (.v (S.ofNat n)))) st.h []
   |_=>False
 | .lenm x=>match opd st.ts x with
   | .map l=>match a1a st.h l with
     |some (.map _ _ n _)=>K (.d (.int .i64 (.v (S.ofNat n)))) st.h []
     |_=>False
   |_=>False
 | .cap x=>match opd st.ts x with
   | .msl l sz s n f=>match a1a st.h l with
     |some (.arr sz' m _)=>if AH sz sz' then (if f then K (.d (.int .i64 (.v (S.ofNat n)))) st.h []
       else K (.ge (f7l S m s)) st.h []) else False
     |_=>False
   |_=>False
 | .min x y=>match opd st.ts x,opd st.ts y with
   | .d (.int k a),.d (.int k' b)=>if k=k' then K (.d (.int k (.v (S.isel (S.ilt b.val a.val) b.val a.val)))) st.h [] else False
   |_,_=>False
 | .bw op x y=>match opd st.ts x,opd st.ts y with
   | .d (.int k a),.d (.int k' b)=>bwI S op k k' a.val b.val fun n=>K (.d (.int k (.v n))) st.h []
   |_,_=>False
 | .max x y=>match opd st.ts x,opd st.ts y with
   | .d (.int k a),.d (.int k' b)=>if k=k' then K (.d (.int k (.v (S.isel (S.ilt a.val b.val) b.val a.val)))) st.h [] else False
   |_,_=>False
 | .append sz _ x y mu=>a2g S st.h sz (opd st.ts x) (opd st.ts y) mu K
 | .copy sz x y=>a5z S st.h sz (opd st.ts x) (opd st.ts y) fun v h'=>K v h' []
 | .bad=>False
 | .appendIn sz x y=>a4o S st.h sz (opd st.ts x) (opd st.ts y) fun v h'=>K v h' []
 | .clear sz zs x=>match opd st.ts x with
   | .msl l sz' s n _=>if AH sz sz' then match a1a st.h l with
     |some (.arr sz'' n' e)=>if AH sz sz'' then S.req (S.pnle (c8f S s n) n') (K .any (a2x st.h l (.arr sz n' (S.put (c2c s) n e (S.rep n zs)))) []) else False
     |_=>False else False
   |_=>False
 | .isnil neg x=>match opd st.ts x with
   | .d .nil=>K (.d (.bool (if neg then AF else AT))) st.h []
   | .d (.sl _ n _)=>S.req (S.pnlt 0 n) (K (.d (.bool neg)) st.h [])
   | .dfs _ n _=>S.req (S.pnlt 0 n) (K (.d (.bool neg)) st.h [])
   | .msl _ _ _ n _=>S.req (S.pnlt 0 n) (K (.d (.bool neg)) st.h [])
   | .d (.raw (.slice AD _ _))=>K (.d (.bool (if neg then AF else AT))) st.h []
   | .d (.raw (.slice (AA _) _ _))=>K (.d (.bool neg)) st.h []
   |_=>False
 | .slicex sz x lo hi=>match opd st.ts x with
   | .msl l sz' s n AF=>if AH sz sz' then match a1a st.h l with
     |some (.arr sz'' n' _)=>if AH sz sz'' then b0u st.ts lo (.l 0) fun lo=>b0u st.ts hi (.v (S.ofNat n)) fun hi=>
       S.req (S.pile 0 lo.val) (S.req (S.pile lo.val hi.val) (S.req (S.pnle (c8f S s (nat S hi)) n') (K (.msl l sz (a6q S s lo) (S.nsub (nat S hi) (nat S lo)) AF) st.h []))) else False
     |_=>False else False
   |_=>False
 | .idxs l x=>match opd st.ts x with
   | .d (.int _ i)=>S.req (S.inb i.val (a3q l)) (K (.d (.int .u8 (.v (S.sidx l i.val)))) st.h [])
   |_=>False
 | .slchk sz x lo hi mx=>match opd st.ts x with
   | .msl _ sz' _ n _=>a4h S st.ts sz sz' n lo hi mx (K .any st.h [])
   | .d (.sl sz' n _)=>a4h S st.ts sz sz' n lo hi mx (K .any st.h [])
   |_=>False
 | .ovl x y=>match opd st.ts x,opd st.ts y with
   | .msl l _ _ n1 _,.msl l' _ _ n2 _=>if AH l l' then False else S.req (S.pnlt 0 n1)<|S.req (S.pnlt 0 n2)<|match a1a st.h l,a1a st.h l' with
     |some (.arr 1 _ _),AA (.arr 1 n' _)=>S.req (S.pnlt 0 n') (K (.d (.bool AF)) st.h [])
     |_,_=>False
   |_,_=>False
 | .appendN sz _ x y mu=>match opd st.ts x,a4d (opd st.ts y) with
   | .d .nil,AT=>K (.d .nil) st.h []
   | .dfs sz' 0 e,AT=>K (.dfs sz' 0 e) st.h []
   |x,_=>a2g S st.h sz x (opd st.ts y) mu K
 | .aeqw neg ks x y=>match opd st.ts x,opd st.ts y with
   | .agg xs,.agg ys=>match c6a S ks xs ys with
     |some b=>K (.d (.bool (if neg then S.bnot b else b))) st.h []
     |none=>False
   |_,_=>False
 | .mkmapv wide ks=>K (.map (a3q st.h)) (a2u st.h [.mapv wide ks [] []]) []
 | .lookupv wide ks ok z m k=>match opd st.ts m with
   | .map l=>match a1a st.h l with
     |some (.mapv wide' ks' keys vals)=>if wide=wide'/\ks=ks' then a2z S wide ks (opd st.ts k) fun kc=>match b1j kc keys vals with
       |some v=>if ok then K (.tuple [v,.d (.bool AT)]) st.h [] else K v st.h []
       |none=>if ok then K (.tuple [z,.d (.bool AF)]) st.h [] else K z st.h []
      else False
     |_=>False
   |_=>False
 | .mapupdv wide ks m k x=>match opd st.ts m with
   | .map l=>match a1a st.h l with
     |some (.mapv wide' ks' keys vals)=>if wide=wide'/\ks=ks' then a2z S wide ks (opd st.ts k) fun kc=>match c7m kc (opd st.ts x) keys vals with
       |some vals'=>K .und (a2x st.h l (.mapv wide ks keys vals')) []
       |none=>K .und (a2x st.h l (.mapv wide ks (a2u keys [kc]) (a2u vals [opd st.ts x]))) []
      else False
     |_=>False
   |_=>False
 | .bsliceP sz len zs ps=>match a8q st.ts sz (b8q (b3y .d zs) len) ps with
   |some rs=>match d9t rs with
    |some rows=>K (.d (.sl sz len (rowAt rows))) st.h []
    |none=>False
   |none=>False
 | .extractF x i=>match opd st.ts x with
   | .tuple vs=>match a1a vs i with
     |some (.agg cs)=>a3t S st.h cs fun cs' h'=>K (.agg cs') h' []
     |some (.ptr l 0)=>a2p S st.h l fun v' h'=>K v' h' []
     |some v=>a2m S st.h v fun v' h'=>K v' h' []
     |none=>False
   |_=>False
 | .mapent wide ks z m k=>match opd st.ts m with
   | .map l=>match a1a st.h l with
     |some (.mapv wide' ks' keys vals)=>if wide=wide'/\ks=ks' then a2z S wide ks (opd st.ts k) fun kc=>match c9t kc keys 0 with
       |some i=>match a1a vals i with
        |some v=>K (.tuple [v,.d (.int .i64 (.v (S.ofNat i)))]) st.h []
        |none=>False
       |none=>K (.tuple [z,.d (.int .i64 (.v (S.ofNat (a3q keys))))]) (a2x st.h l (.mapv wide ks (a2u keys [kc]) (a2u vals [z]))) []
      else False
     |_=>False
   |_=>False
 | .bslice0 sz=>K (.dfs sz 0 fun _=>[]) st.h []
 | .bnewv=>K (.msl (a3q st.h) 1 AD 0 AF) (a2u st.h [.arrv []]) []
 | .bnewm sz=>K (.msl (a3q st.h) sz AD 0 AF) (a2u st.h [.arr sz 0 fun _=>[]]) []
 | .appendV _ x y=>h4i S st.h (opd st.ts x) (opd st.ts y) K
 | .appendP sz _ x y=>match opd st.ts x,opd st.ts y with
   | .d .nil,.d .nil=>K (.d .nil) st.h []
   | .d .nil,.d (.sl sz' m e)=>if AH sz sz' then S.req (S.pnle m big) (K (.d (.sl sz m e)) st.h []) else False
   |_,_=>False
 | .entst m s x=>match opd st.ts m with
   | .map l=>match a1a st.h l with
     |some (.mapv wide ks keys vals)=>a9r (opd st.ts s) fun n=>idx S n (a3q vals) fun j=>K .und (a2x st.h l (.mapv wide ks keys (a2x vals j (opd st.ts x)))) []
     |_=>False
   |_=>False
end
section
variable {α:Type}
theorem j7f (l:List α)(i:Nat):(match l,i with
 |[],_=>AD
 |x::_,0=>AA x
 |_::l,i+1=>a1a l i)=a1a l i:=(a1a.eq_def l i).symm
theorem j7h (l:List α)(i:Nat)(y:α):(match l,i,y with
 |[],_,_=>[]
 |_::l,0,y=>y::l
 |x::l,i+1,y=>x::a2x l i y)=a2x l i y:=(a2x.eq_def l i y).symm
theorem j7i (l m:List α):(match l,m with
 |[],m=>m
 |x::l,m=>x::a2u l m)=a2u l m:=(a2u.eq_def l m).symm
theorem j7j (l:List α)(i n:Nat):(match l,i,n with
 |_,0,0=>AA []
 |[],0,_+1=>AD
 |x::l,0,n+1=>match b0o l 0 n with|some r=>AA (x::r)|none=>AD
 |[],_+1,_=>AD
 |_::l,i+1,n=>b0o l i n)=b0o l i n:=(b0o.eq_def l i n).symm
theorem j7g (l:List α)(i:Nat)(m:List α):(match l,i,m with
 |l,0,[]=>AA l
 |[],_,_=>AD
 |_::l,0,y::new=>match b7y l 0 new with|some r=>AA (y::r)|none=>AD
 |x::l,i+1,new=>match b7y l i new with|some r=>AA (x::r)|none=>AD)=b7y l i m:=(b7y.eq_def l i m).symm
theorem j7k (l:List α):(match l with
 |[]=>0
 |_::l=>a3q l+1)=a3q l:=(a3q.eq_def l).symm
end
theorem j7e (l:Nat)(a:Bool)(h:List a0f):(match h with
 |[]=>[]
 |o::r=>o.forget l a::a2n l a r)=a2n l a h:=(a2n.eq_def l a h).symm
theorem j7d (l:Nat)(a:Bool)(h:List AV):(match h with
 |[]=>[]
 |v::r=>v.forget l a::AV.forgetL l a r)=AV.forgetL l a h:=(AV.forgetL.eq_def l a h).symm
theorem j7s (k:List KC)(ks:List (List KC))(vs:List AV):(match ks,vs with
 |k'::ks,v::vs=>if k'=k then AA v else b1j k ks vs
 |_,_=>AD)=b1j k ks vs:=(b1j.eq_def k ks vs).symm
theorem j7v (k:List KC)(ks:List (List KC))(n:Nat):(match ks,n with
 |[],_=>AD
 |k'::ks,n=>if k'=k then AA n else c9t k ks (n+1))=c9t k ks n:=(c9t.eq_def k ks n).symm
section
variable (S:Sig)
def e7y (next:St->Prop)(Q:Lv->St->Prop):Lv->St->Prop
 | .normal,st=>next st
 |e,st=>Q e st
def c3t (id:Nat)(Q:Lv->St->Prop):Lv->St->Prop
 | .exit i,st=>if AH i id then Q .normal st else Q (.exit i) st
 |e,st=>Q e st
def St.setb (st:St)(j:Nat)(b:Bool):St:=st.put (AA j) (.d (.bool b))
def e0g (o:a1c)(st:St)(K:St->Prop):Prop:=
 a0a S o.op st fun v h pg=>K (((st.setH h).purge pg).put o.dst v)
def c4b (o:a1c)(st:St)(K:St->Prop):Prop:=
 match o.guard with
 |none=>e0g S o st K
 |some (j,want)=>match a1a st.ts j with
  |some (.d (.bool b))=>match b with
   |true=>if want then e0g S o (st.setb j AT) K else K ((st.setb j AT).put o.dst .und)
   |false=>if want then K ((st.setb j AF).put o.dst .und) else e0g S o (st.setb j AF) K
  |some .und=>K (st.put o.dst .und)
  |_=>False
def d2r:List a1c->St->(St->Prop)->Prop
 |[],st,K=>K st
 |o::os,st,K=>c4b S o st fun st=>d2r os st K
def a4a (l:Nat)(o:IOp)(st:St)(K:AV->a0f->Prop):Prop:=
 match o with
 | .alloc zs=>K (.ptr l 0) (.var (b3y .d zs))
 | .box x=>if b5z (opd st.ts x).cells then K (.ptr l 0) (.var (opd st.ts x).cells) else False
 | .mkmap wide ks=>K (.map l) (.map wide ks 0 fun _=>AD)
 | .mkmapv wide ks=>K (.map l) (.mapv wide ks [] [])
 | .bnew sz=>K (.msl l sz AD 0 AF) (.arr sz 0 fun _=>[])
 | .mkslice sz zs _ n=>a9r (opd st.ts n) fun n=>S.req (S.pile 0 n.val) (S.req (S.pile n.val (S.ofNat big)) (K (.msl l sz AD (nat S n) AF) (.arr sz (nat S n) (S.rep (nat S n) zs))))
 |_=>False
def tgt:AV->Option Nat
 | .ptr l _=>AA l
 | .aptr l _ _ _=>AA l
 | .map l=>AA l
 |_=>AD
def a5c (base l:Nat):List Nat->Bool
 |[]=>AT
 |s::r=>if AH l (base+s) then AF else a5c base l r
def c2n (base:Nat)(d:a0m)(ts:List AV):Bool:=
 match d.av with
 |[]=>AT
 |_=>match d.o.op.at with
  |some x=>match opd ts x with
   | .ptr l _=>a5c base l d.av
   | .aptr l _ _ _=>if d.o.op.kl= .r then a5c base l d.av else AF
   | .map l=>if d.o.op.kl= .r then a5c base l d.av else AF
   | .dptr _ _=>if d.o.op.kl= .r then AT else AF
   |_=>AF
  |none=>AF
def a2t (o:a1c)(st:St)(off:St->Prop)(on:St->Prop):Prop:=
 match o.guard with
 |none=>on st
 |some (j,want)=>match a1a st.ts j with
  |some (.d (.bool b))=>match b with
   |true=>if want then on (st.setb j AT) else off (st.setb j AT)
   |false=>if want then off (st.setb j AF) else on (st.setb j AF)
  |some .und=>off st
  |_=>False
def a1b (base:Nat)(st:St)(k:Prop):List a0m->Prop
 |[]=>k
 |r::rs=>if r.o.op.kl= .r then a2t r.o st (fun _=>a1b base st k rs) fun st=>if c2n base r st.ts then
   a0a S r.o.op st fun v _ _=>match r.o.dst with
    |some d=>S.req (S.same v (opd st.ts (.t d))) (a1b base st k rs)
    |none=>a1b base st k rs
   else False
  else a1b base st k rs
mutual
def a1u (pg:List Nat):AV->Bool
 | .agg cs=>a6n pg cs
 | .tuple cs=>a6n pg cs
 | .fn _ us cs=>if a6n pg us then a6n pg cs else AF
 | .ptr m _=>a3u m pg
 | .aptr m _ _ _=>a3u m pg
 | .msl m _ _ _ _=>a3u m pg
 | .vsl m _ _=>a3u m pg
 | .map m=>a3u m pg
 | .yl m=>a3u m pg
 |_=>AT
def a6n (pg:List Nat):List AV->Bool
 |[]=>AT
 |v::l=>if a1u pg v then a6n pg l else AF
def a3u (m:Nat):List Nat->Bool
 |[]=>AT
 |l::pg=>if AH l m then AF else a3u m pg
end
def a4g (pg:List Nat)(ts:List AV):List Nat->Bool
 |[]=>AT
 |t::l=>if (match a1a ts t with|some v=>a1u pg v|none=>AT) then a4g pg ts l else AF
def e4t (o:a1c):List Nat:=
 match o.dst with
 |none=>[]
 |some d=>[d]
def a7a (pg:List Nat)(ts:List AV):List a0m->Bool
 |[]=>AT
 |r::rs=>if a4g pg ts r.o.uses then (if a4g pg ts (e4t r.o) then a7a pg ts rs else AF) else AF
def h6l (base s:Nat)(pg:List Nat):Bool:=
 match s with
 |0=>AT
 |s+1=>go base (base+(s+1)) pg
where go (base lim:Nat):List Nat->Bool
 |[]=>AT
 |l::pg=>if BK l base then go base lim pg else if BA lim l then go base lim pg else AF
def b2l (i:Nat):List Nat->Bool
 |[]=>AF
 |j::l=>if AH i j then AT else b2l i l
def a4b (d:a0m):List a0m->List a0m
 |[]=>[]
 |r::F=>if b2l r.i d.bef then a4b d F else r::a4b d F
def evD (base:Nat)(F:List a0m)(d:a0m)(st:St)(K:St->Prop):Prop:=
 match d.o.op.kl with
 | .a=>a4a S (base+d.slot) d.o.op st fun v o=>K ((st.setH (a2x st.h (base+d.slot) o)).put d.o.dst v)
 | .m=>if c2n base d st.ts then a0a S d.o.op st fun v h pg=>match pg with
    |[]=>a1b S base ((st.setH h).put d.o.dst v) (K ((st.setH h).put d.o.dst v)) (a4b d F)
    |pg=>if d.alone then K (((st.setH h).purge pg).put d.o.dst v) else
      if h6l base d.slot pg then (if a7a pg st.ts (a4b d F) then a1b S base (((st.setH h).purge pg).put d.o.dst v) (K (((st.setH h).purge pg).put d.o.dst v)) (a4b d F) else False) else False
   else False
 | .r=>if c2n base d st.ts then a0a S d.o.op st fun v _ _=>K (st.put d.o.dst v) else False
 |_=>a0a S d.o.op st fun v _ _=>K (st.put d.o.dst v)
def b1f (base:Nat)(F:List a0m)(d:a0m)(st:St)(K:St->Prop):Prop:=
 a2t d.o st (fun st=>K (st.put d.o.dst .und)) fun st=>evD S base F d st K
def a8e (d:a0m)(F:List a0m):List a0m:=if d.watch then d::F else F
def evR (base:Nat)(F:List a0m)(ds:List a0m)(st:St)(K:St->Prop):Prop:=
 match ds with
 |[]=>K st
 |d::ds=>b1f S base F d st fun st=>evR base (a8e d F) ds st K
def St.setc (st:St)(c:a0h)(b:Bool):St:=
 match c with
 | .t j=>st.setb j b
 | .c _=>st
def ev:a0c->(Lv->St->Prop)->St->Prop
 | .skip,Q,st=>Q .normal st
 | .ops l,Q,st=>d2r S l st (Q .normal)
 | .draw n l,Q,st=>evR S (a3q st.h) [] l ⟨st.ts,a2u st.h (b8q (.var []) n),st.mv⟩ (Q .normal)
 | .seq a b,Q,st=>ev a (e7y (ev b Q) Q) st
 | .cond c a b,Q,st=>match opd st.ts c with
   | .d (.bool x)=>match x with
     |true=>ev a Q (st.setc c AT)
     |false=>ev b Q (st.setc c AF)
   |_=>False
 | .block id c,Q,st=>ev c (c3t id Q) st
 | .loop c,Q,st=>S.loop c Q st
 | .range f ps a b,Q,st=>S.range f ps a b Q st
 | .exit id,Q,st=>Q (.exit id) st
 | .scope c,Q,st=>S.req S.top (ev c Q st)
 | .label _,Q,st=>Q .normal st
 | .ret,Q,st=>Q .ret st
end
structure Ann where
 ops:List (Nat×Nat×Nat):=[]
 refs:List (Nat×List (Nat×Bool)):=[]
def Ann.at (a:Ann)(r i:Nat):Nat:=
 match a.ops.find? fun (r',i',_)=>r==r'&&i==i' with
 |some (_,_,c)=>c
 |none=>0
def e3r:AE->Option DV
 | .int k n=>AA (.int k (.l n))
 | .bool b=>AA (.bool b)
 | .string s=>AA (.str s.data.toList)
 | .slice AD 0 0=>AA .nil
 | .map AD=>AA (.raw (.map AD))
 | .pointer AD=>AA (.raw (.pointer AD))
 | .nilFunc=>AA (.raw .nilFunc)
 | .nilIface=>AA (.raw .nilIface)
 |_=>AD
def d2l (v:AE):Option (List DV):=v.cells.toList.mapM e3r
def e5k (v:AE):Option AV:=
 match v with
 | .agg cs=>do AP (.agg ((<-cs.toList.mapM e3r).map .d))
 |v=>do AP (.d (<-e3r v))
def a0g:Aa->Option a0h
 | .tmp t=>AA (.t t)
 | .const v=>do AP (.c (<-e5k v))
 | .func f=>AA (.c (.fn f [] []))
 | .global _=>AD
def b3d (l:Array Aa):Option (List a0h):=l.toList.mapM a0g
def a1z:Option Aa->Option (Option a0h)
 |none=>AA AD
 |some x=>do AP (AA (<-a0g x))
def b1y (P:AW)(t:AJ):Option Nat:=(P.info? t).map (·.size)
def a5j (P:AW)(t:AJ):Option Nat:=(P.info? t).map (·.bytes)
def a5d (P:AW)(t:AJ):Option (List DV):=do
 let i<-P.info? t
 d2l (<-i.zero)
def b8x (P:AW)(t:AJ):Option AV:=do
 let i<-P.info? t
 e5k (<-i.zero)
def d3e (P:AW)(t:AJ):Option (Option Nat):=do
 match<-P.underlying t with
 | .struct _| .array _ _=>AP (AA (<-b1y P t))
 |_=>AP AD
def a9y {α:Type}(P:AW)(g:AJ->Option (List α)):List Field->Nat->Option (List α)
 |[],_=>AA []
 |f::fs,off=>do
  let ks<-g f.type
  if f.offset=off/\ks.length=P.cellsOf f.type then
   let r<-a9y P g fs (off+ks.length)
   AP (ks++r)
  else AD
def b9c (P:AW):Nat->AJ->Option (List AS)
 |0,_=>AD
 |d+1,t=>
  match P.underlying t with
  |some (.int k)=>if P.cellsOf t=1 then AA [k] else AD
  |some (.struct fs)=>do
   let ks<-a9y P (b9c P d) fs.toList 0
   if ks.length=P.cellsOf t/\fs.all (·.name != "_")=AT then AP ks else AD
  |some (.array n e)=>do
   let ks<-b9c P d e
   if ks.length=P.cellsOf e/\n*P.cellsOf e=P.cellsOf t then AP (BL n ks).flatten else AD
  |_=>AD
def a4l (P:AW):Nat->AJ->Option (List CK)
 |0,_=>AD
 |d+1,t=>
  match P.underlying t with
  |some (.int k)=>if P.cellsOf t=1 then AA [.i k] else AD
  |some .bool=>if P.cellsOf t=1 then AA [.o] else AD
  |some (.struct fs)=>do
   let ks<-a9y P (a4l P d) fs.toList 0
   if ks.length=P.cellsOf t/\fs.all (·.name != "_")=AT then AP ks else AD
  |some (.array n e)=>do
   let ks<-a4l P d e
   if ks.length=P.cellsOf e/\n*P.cellsOf e=P.cellsOf t then AP (BL n ks).flatten else AD
  |_=>AD
def d7w (P:AW)(t:AJ):Option (List CK):=do
 let ks<-a4l P (P.types.size+1) t
 if P.keyTypeAt 20 t then AP ks else AD
def c5c (P:AW)(t:AJ):Option (Bool×List AS):=do
 let ks<-b9c P (P.types.size+1) t
 match P.underlying t with
 |some (.int _)=>AP (AF,ks)
 |some (.struct _)|some (.array _ _)=>if P.keyTypeAt 20 t/\P.keyType t/\t<P.types.size then AP (AT,ks) else AD
 |_=>AD
def c0x (op:Ay)(x y:a0h):IOp:=
 match c6z op with
 |0=> .bin op x y
 |_=> .bw op x y
def b6q (P:AW)(neg:Bool)(t:AJ)(x y:a0h):Option IOp:=
 match c5c P t with
 |some k=>AP (.aeq neg k.2 x y)
 |none=>do AP (.aeqw neg (<-d7w P t) x y)
def c4t (P:AW)(t:AJ):Option (AJ×AJ):=do
 match<-P.underlying t with
 | .map k e=>AP (k,e)
 |_=>AD
def d0m (P:AW)(t:AJ):Option AS:=do
 match<-P.underlying t with
 | .int k=>AP k
 |_=>AD
def d0f (P:AW)(t:AJ):Option Unit:=do
 match<-d0m P t with
 | .i64=>match (<-P.info? t).zero with
   |some (.int .i64 0)=>AP ()
   |_=>AD
 |_=>AD
def a2a (P:AW)(t:AJ):Option AJ:=do
 match<-P.underlying t with
 | .slice e=>AP e
 |_=>AD
def b5w (P:AW)(t:AJ)(f:Nat):Option Field:=do
 match<-P.underlying t with
 | .struct fs=>fs[f]?
 |_=>AD
def a1x (P:AW)(t:AJ):Option Nat:=do
 let n<-b1y P t
 if n=0 then AD else AP n
def b9j (P:AW)(t:AJ):Option (Nat->Option (Nat×Nat)):=
 match P.underlying t with
 |some (.struct fs)=>match fs.toList.mapM (fun f=>(P.info? f.type).map fun i=>(f.offset,i.size)) with
  |some l=>AA fun i=>l.toArray[i]?
  |none=>AD
 |some (.array _ e)=>match P.info? e with
  |some ie=>AA fun i=>AA (i*ie.size,ie.size)
  |none=>AD
 |_=>AD
def d5l:Nat->Mode
 |0=> .borrow
 |1=> .share
 |2=> .raw
 |3=> .data
 |_=> .fresh
def b0f (c:Nat)(y:a0h):Option IOp:=
 if c=0 then AA (.mv y) else match y with
  | .c (.d .nil)=>AA (.newnil c)
  |_=>AD
def d6q (P:AW)(c:Nat)(b:Builtin)(args:List Aa)(tys:List AJ):Option IOp:=
 match b with
 | .len=>match args,tys with
   |[x],[t]=>do
    match<-P.underlying t with
    | .slice _=>AP (.len (<-a0g x))
    | .map _ _=>AP (.lenm (<-a0g x))
    |_=>AD
   |_,_=>AD
 | .clear=>match args,tys with
   |[x],[t]=>do
    let e<-a2a P t
    let sz<-a1x P e
    let zs<-a5d P e
    if zs.length=sz then AP (.clear sz zs (<-a0g x)) else AD
   |_,_=>AD
 | .cap=>match args,tys with
   |[x],[t]=>do
    let _<-a2a P t
    AP (.cap (<-a0g x))
   |_,_=>AD
 | .min=>match args with
   |[x,y]=>do AP (.min (<-a0g x) (<-a0g y))
   |_=>AD
 | .max=>match args with
   |[x,y]=>do AP (.max (<-a0g x) (<-a0g y))
   |_=>AD
 | .append=>match args,tys with
   |[x,y],[t,u]=>do
    let e<-a2a P t
    let e'<-a2a P u
    let sz<-a1x P e
    let b<-a5j P e
    let zs<-a5d P e
    if e=e'/\b<=250/\zs.length=sz then (if c=5 then (if sz=1 then do AP (.appendV b (<-a0g x) (<-a0g y)) else AD) else if c=4 then do AP (.appendP sz b (<-a0g x) (<-a0g y)) else if c=2 then do AP (.appendIn sz (<-a0g x) (<-a0g y)) else if c=3 then do AP (.appendN sz b (<-a0g x) (<-a0g y) AT) else do AP (.append sz b (<-a0g x) (<-a0g y) (c==1))) else AD
   |_,_=>AD
 | .copy=>match args,tys with
   |[x,y],[t,u]=>do
    let e<-a2a P t
    let e'<-a2a P u
    let sz<-a1x P e
    if e=e' then AP (.copy sz (<-a0g x) (<-a0g y)) else AD
   |_,_=>AD
 |_=>AD
def b1b:String:=String.ofList ([115,108,105,99,101,115,46,111,118,101,114,108,97,112,115,91,105,110,116,93].map Char.ofNat)
def a0y (P:AW)(c:Nat)(o:BN):Option IOp:=
 match o.op with
 | .move x| .assign x=>do b0f c (<-a0g x)
 | .pick c a b=>do AP (.pick (<-a0g c) (<-a0g a) (<-a0g b))
 | .alloc t=>do AP (.alloc (<-a5d P t))
 | .box _ x=>do AP (.box (<-a0g x))
 | .build t ps=>do
   let zs<-a5d P t
   let b2u<-b9j P t
   let l<-ps.toList.mapM fun ix=>do
    let os<-b2u ix.1
    AP (os.1,os.2,<-a0g ix.2)
   AP (.build zs l)
 | .buildSlice t n ps=>do
   let e<-a2a P t
   let sz<-a1x P e
   let zs<-a5d P e
   if zs.length=sz/\n*sz<=1000000 then
    let l<-ps.toList.mapM fun ix=>do AP (ix.1,<-a0g ix.2)
    if n=0/\c=4 then (if l.isEmpty/\sz=1 then AA .bnewv else AD) else if n=0/\c=5 then (if l.isEmpty then AA (.bnewm sz) else AD) else if n=0/\c=1 then (if l.isEmpty then AA (.bnew sz) else AD) else if n=0/\c=2 then (if l.isEmpty then AA (.bslice0 sz) else AD) else if c=2 then AP (.bsliceP sz n zs l) else AP (.bslice sz n zs l (c==1))
   else AD
 | .load t a=>do AP (.load (<-d3e P t) (<-a0g a))
 | .store t a x=>do AP (.store (<-b1y P t) (<-a0g a) (<-a0g x))
 | .nilCheck x=>do AP (.nilchk (<-a0g x))
 | .binOp op t x y _=>do
   match<-P.underlying t with
   | .int _=>AP (c0x op (<-a0g x) (<-a0g y))
   | .bool=>AP (.binb op (<-a0g x) (<-a0g y))
   | .struct _=>match op with
     | .eql=>if P.eqGuardType P.depth t then AD else do b6q P AF t (<-a0g x) (<-a0g y)
     | .neq=>if P.eqGuardType P.depth t then AD else do b6q P AT t (<-a0g x) (<-a0g y)
     |_=>AD
   | .array _ _=>match op with
     | .eql=>if P.eqGuardType P.depth t then AD else do AP (.aeqw AF (<-d7w P t) (<-a0g x) (<-a0g y))
     | .neq=>if P.eqGuardType P.depth t then AD else do AP (.aeqw AT (<-d7w P t) (<-a0g x) (<-a0g y))
     |_=>AD
   | .slice _=>match op,y with
     | .eql,.const (.slice AD 0 0)=>do AP (.isnil AF (<-a0g x))
     | .neq,.const (.slice AD 0 0)=>do AP (.isnil AT (<-a0g x))
     |_,_=>AD
   |_=>AD
 | .unOp op _ x=>do AP (.un op (<-a0g x))
 | .convert s d x=>do
   let _<-d0m P s
   AP (.conv (<-d0m P d) (<-a0g x))
 | .makeFunc (.func f) first cap=>do AP (.mkfn f (<-b3d first) (<-b3d cap))
 | .makeMap t AD=>do
   let (kt,et)<-c4t P t
   let (wide,ks)<-c5c P kt
   if c=1 then AP (.mkmapv wide ks) else match d0f P et with
   |some _=>AP (.mkmap wide ks)
   |none=>AP (.mkmapv wide ks)
 | .makeSlice t n m=>do
   let e<-a2a P t
   let sz<-a1x P e
   let zs<-a5d P e
   let b<-a5j P e
   let x<-a0g n
   match n,m with
   | .tmp i,.tmp j=>if i=j/\zs.length=sz/\b<=250 then AP (.mkslice sz zs b x) else AD
   | .const (.int .i64 i),.const (.int .i64 j)=>if i=j/\zs.length=sz/\b<=250 then AP (.mkslice sz zs b x) else AD
   |_,_=>AD
 | .slice t x lo hi mx=>do
   match<-P.underlying t with
   | .slice e=>do
     let sz<-a1x P e
     if c=1 then match mx with
      |none=>AP (.slicex sz (<-a0g x) (<-a1z lo) (<-a1z hi))
      |some _=>AD
     else if c=2 then match hi with
      |some _=>AP (.slchk sz (<-a0g x) (<-a1z lo) (<-a1z hi) (<-a1z mx))
      |none=>AD
     else match hi,mx with
     |none,AA _=>AD
     |_,_=>AP (.slice sz (<-a0g x) (<-a1z lo) (<-a1z hi) (<-a1z mx))
   | .array n e=>do
     let k<-b1y P e
     match mx with
     |none=>if k=1 then AP (.slarr n (<-a0g x) (<-a1z lo) (<-a1z hi)) else AD
     |_=>AD
   |_=>AD
 | .fieldAddr t x f=>do
   let f<-b5w P t f
   let _<-a1x P f.type
   AP (.faddr f.offset (<-a0g x))
 | .field t x f=>do
   let f<-b5w P t f
   AP (.field f.offset (<-d3e P f.type) (<-a0g x))
 | .indexAddr t x i=>do
   match<-P.underlying t with
   | .slice e=>do AP (.iaddr (<-a1x P e) (<-a0g x) (<-a0g i))
   | .array n e=>do AP (.iaddrA n (<-a1x P e) (<-a0g x) (<-a0g i))
   |_=>AD
 | .lookup t m k ok=>do
   let (kt,et)<-c4t P t
   let (wide,ks)<-c5c P kt
   if c=1 then AP (.lookupv wide ks ok (<-b8x P et) (<-a0g m) (<-a0g k)) else match d0f P et with
   |some _=>AP (.lookup wide ks ok (<-a0g m) (<-a0g k))
   |none=>AP (.lookupv wide ks ok (<-b8x P et) (<-a0g m) (<-a0g k))
 | .mapUpdate t m k x=>do
   let (kt,et)<-c4t P t
   let (wide,ks)<-c5c P kt
   if c=1 then AP (.mapupdv wide ks (<-a0g m) (<-a0g k) (<-a0g x)) else match d0f P et with
   |some _=>AP (.mapupd wide ks (<-a0g m) (<-a0g k) (<-a0g x))
   |none=>AP (.mapupdv wide ks (<-a0g m) (<-a0g k) (<-a0g x))
 | .mapEntry t m k=>do
   let (kt,et)<-c4t P t
   let (wide,ks)<-c5c P kt
   AP (.mapent wide ks (<-b8x P et) (<-a0g m) (<-a0g k))
 | .entryStore _ m s x=>do AP (.entst (<-a0g m) (<-a0g s) (<-a0g x))
 | .index t (.const (.string s)) i=>do
   match<-P.underlying t with
   | .string=>AP (.idxs s.data.toList (<-a0g i))
   |_=>AD
 | .extract x i=>do
   let x<-a0g x
   if c=1 then AP (.extractF x i) else AP (.extract x i)
 | .call k=>match k.callee with
   | .value (.func f)=>match P.funcs[f]? with
     |some fn=>if fn.body.isNone&&fn.name==b1b then match k.args.toList with
       |[x,y]=>do AP (.ovl (<-a0g x) (<-a0g y))
       |_=>AD
      else do AP (.call (.c (.fn f [] [])) (<-b3d k.args) (d5l c))
     |none=>AD
   | .value f=>do AP (.call (<-a0g f) (<-b3d k.args) (d5l c))
   | .builtin b=>d6q P c b k.args.toList k.argTypes.toList
   |_=>AD
 |_=>AD
def b7f (P:AW)(c:Nat)(o:BN):Option IOp:=
 match a0y P c o with
 |some x=>AA x
 |none=>AA .bad
def c0z (P:AW)(A:Ann)(r:Nat)(ops:Array BN)(i:Nat)(o:BN):Option a1c:=do
 let op<-b7f P (A.at r i) o
 match o.guard with
 |none=>AP ⟨o.dst,AD,op⟩
 |some (j,w)=>do
  let oj<-ops[j]?
  let d<-oj.dst
  AP ⟨o.dst,AA (d,w),op⟩
def a3w (P:AW)(A:Ann)(r:Nat)(ops:Array BN):List BN->Nat->Option (List a1c)
 |[],_=>AA []
 |o::l,i=>do
  let x<-c0z P A r ops i o
  let xs<-a3w P A r ops l (i+1)
  AP (x::xs)
def a6u (o:BN):List Nat:=(o.after.toList.filter (Region.binds .any ·)).map (·.on)
def b4c:List BN->List (List Nat)->List (List Nat)
 |[],acc=>acc
 |o::os,acc=>b4c os (acc++[(a6u o++(a6u o).flatMap fun k=>acc.getD k []).eraseDups])
def a9f (ops:List BN)(cl:List (List Nat)):Bool:=
 (Ar ops.length).all fun j=>(cl.getD j []).all fun p=>match ops[j]? with
   |some o=>b2l p (a6u o)||(a6u o).any fun k=>b2l p (cl.getD k [])
   |none=>AF
def Kl.rank:Kl->Nat
 | .i=>0
 | .r=>1
 | .a=>2
 |_=>3
def e4h (ops:List BN)(kl:List Nat):Nat->List Nat->List Nat->List Nat
 |0,_,acc=>acc
 |f+1,todo,acc=>
  let rs:=todo.filter fun j=>match ops[j]? with|some o=>(a6u o).all fun k=>b2l k acc|none=>AF
  let pick:=[0,1,2,3].findSome? fun c=>rs.find? fun j=>kl.getD j 3==c
  match pick with
  |some j=>e4h ops kl f (todo.filter (· !=j)) (acc++[j])
  |none=>acc
def c9v (o:a1c)(l:List Nat):Bool:=
 match o.dst with
 |none=>AF
 |some d=>b2l d l
def c0q (a b:a1c):Bool:=
 match a.dst,b.dst with
 |some x,AA y=>AH x y
 |_,_=>AF
def e5x (a b:a0m):Bool:=
 !c9v a.o b.o.uses&&!b.alone&&(!(b.o.op.kl== .m)||(a.watch&&!b2l a.i b.bef))&&(match a.o.op.kl with
  | .m=>AF
  | .r=>match b.o.op.kl with
    | .a=>b2l b.slot a.av
    |_=>AT
  | .a=>match b.o.op.kl with
    | .r=>b2l a.slot b.av
    | .m=>b2l a.slot b.av
    |_=>AT
  |_=>AT)
def c1c (a b:a0m):Bool:=!c9v b.o a.o.uses&&!c0q a.o b.o
def d7c (cl:List (List Nat))(a b:a0m):Bool:=
 (!(a.watch&&b.watch)||(c1c a b&&(!(a.o.op.kl== .r)||!(b.o.op.kl== .a)||b2l b.slot a.av)))&&
 (!(b.o.op.kl== .a&&a.o.op.kl== .a)||!AH a.slot b.slot)&&
 (!(a.o.op.kl== .m&&b.o.op.kl== .a)||BK b.slot a.slot)&&(!(a.o.op.kl== .a&&b.o.op.kl== .m)||BK a.slot b.slot)&&
 !(a.alone&&b.o.op.kl== .a)&&
 (b2l a.i (cl.getD b.i [])||(c1c a b&&e5x a b))
def c2x (cl:List (List Nat)):List a0m->Bool
 |[]=>AT
 |a::l=>(l.all fun b=>d7c cl a b)&&c2x cl l
def b4q (ops:List BN):List Nat->List a0m->Bool
 |_,[]=>AT
 |done,d::l=>(match ops[d.i]? with|some o=>(a6u o).all fun k=>b2l k done|none=>AF)&&!b2l d.i done&&b4q ops (d.i::done) l
def d5j (ios:List a1c)(cl:List (List Nat))(ref:List Nat):List a0m:=
 let kls:=ios.map (·.op.kl)
 let as:=(Ar ios.length).filter fun j=>kls.getD j .m== .a
 let before (p j:Nat):Bool:=b2l p (cl.getD j [])
 ref.filterMap fun j=>match ios[j]? with
  |none=>AD
  |some o=>AA {
    o,i:=j,slot:=if o.op.kl== .m then as.length else (as.filter (· <j)).length
    av:=if o.op.kl== .r||o.op.kl== .m then (as.filter fun k=>!before k j&&(o.op.kl== .r||!before j k)).map fun k=>(as.filter (· <k)).length else []
    bef:=if o.op.kl== .m then cl.getD j [] else []
    alone:=o.op.kl== .m&&(Ar ios.length).all fun k=>k==j||before k j||before j k
    watch:=(Ar ios.length).any fun k=>kls.getD k .i== .m&&k !=j&&!before k j&&!before j k}
def b0j (ops:List BN)(ios:List a1c):Option (Nat×List a0m):=
 let cl:=b4c ops []
 let ref:=e4h ops (ios.map (·.op.kl.rank)) ops.length (Ar ops.length) []
 let ds:=d5j ios cl ref
 if ds.length=ops.length/\((Ar ops.length).all fun i=>b2l i (ds.map (·.i)))=AT/\a9f ops cl=AT/\c2x cl ds=AT/\b4q ops [] ds=AT/\(ds.all fun d=>!c9v d.o d.o.uses&&(!(d.o.op.kl== .a)||BK d.slot (ios.filter (·.op.kl== .a)).length))=AT then AA ((ios.filter (·.op.kl== .a)).length,ds) else AD
def comp (P:AW)(A:Ann):Bs->Option a0c
 | .skip=>AA .skip
 | .region id ops AF=>do AP (.ops (<-a3w P A id ops ops.toList 0))
 | .region id ops AT=>do
   let ios<-a3w P A id ops ops.toList 0
   let nd<-b0j ops.toList ios
   AP (.draw nd.1 nd.2)
 | .seq a b=>do AP (.seq (<-comp P A a) (<-comp P A b))
 | .cond c a b=>do AP (.cond (<-a0g c) (<-comp P A a) (<-comp P A b))
 | .block id c=>do AP (.block id (<-comp P A c))
 | .loop c=>do AP (.loop (<-comp P A c))
 | .rangeFunc f ps a b=>do AP (.range (<-a0g f) ps.toList (<-comp P A a) (<-comp P A b))
 | .exit id=>AA (.exit id)
 | .scope c=>do AP (.scope (<-comp P A c))
 | .label l=>AA (.label l)
 | .ret=>AA .ret
 |_=>AD
inductive c5p where
 |t (i:Nat)
 |c (i:Nat) (agg:Option Nat)
def b0m (P:AW)(fn:Func):Option (List c5p):=fn.results.toList.mapM fun
 | .tmp t=>AA (.t t)
 | .cell a t=>do AP (.c a (<-d3e P t))
theorem a0i {α:Type}(l:List α)(i:Nat):a1a l i=l[i]? :=by
 induction l generalizing i with
 |nil=>simp[a1a]
 |cons x l ih=>cases i<;>simp[a1a,ih]
theorem a0l {α:Type}(l:List α)(i:Nat)(y:α):a2x l i y=l.set i y:=by
 induction l generalizing i with
 |nil=>simp[a2x]
 |cons x l ih=>cases i<;>simp[a2x,ih]
theorem a5m {α β:Type}(f:α->β)(l:List α):b3y f l=l.map f:=by
 induction l with
 |nil=>rfl
 |cons x l ih=>simp[b3y,ih]
theorem a0r {α:Type}(l m:List α):a2u l m=l++m:=by
 induction l with
 |nil=>rfl
 |cons x l ih=>simp[a2u,ih]
theorem a0u {α:Type}(l:List α):a3q l=l.length:=by
 induction l with
 |nil=>rfl
 |cons x l ih=>simp[a3q,ih]
theorem d1o {cs:List AV}{l:List DV}(h:dvs cs=AA l):l.length=cs.length/\ ∀(i:Nat) (x:DV),l[i]? =AA x-> ∃y,cs[i]? =AA y/\ ∀{w:AK} {S:Nat->Prop} {ρ:Rho} {v:AE},VR w S ρ y v->DVR w S x v:=by
 induction cs generalizing l with
 |nil=>simp[dvs] at h;subst h;simp
 |cons c cs ih=>
  unfold dvs at h;split at h
  ·rename_i heq;cases heq
  ·rename_i x r heq;cases heq;split at h
   ·rename_i l' hl';cases h;obtain⟨h1,h2⟩:=ih hl';refine⟨by simp[h1],fun i y hy=> ?_⟩;cases i with
    |zero=>simp at hy;subst hy;exact⟨_,rfl,fun h=>by cases h with|d h=>exact h⟩
    |succ i=>simp at hy⊢;exact h2 i y hy
   ·cases h
  ·rename_i f r heq;cases heq;split at h
   ·rename_i l' hl';cases h;obtain⟨h1,h2⟩:=ih hl';refine⟨by simp[h1],fun i y hy=> ?_⟩;cases i with
    |zero=>
     simp at hy;subst hy;refine⟨_,rfl,fun h=> ?_⟩;cases h with
     |fn _ _ _ us vs h1 _ h2 _=>have e1:us= #[]:=BD (by simpa using h1.symm);have e2:vs= #[]:=BD (by simpa using h2.symm);subst e1 e2;exact .raw _ rfl
    |succ i=>simp at hy⊢;exact h2 i y hy
   ·cases h
  ·cases h
theorem a1k (rs:List (List DV))(i:Nat):rowAt rs i=rs[i]?.getD []:=by
 induction rs generalizing i with
 |nil=>simp[rowAt]
 |cons r rs ih=>cases i<;>simp[rowAt,ih]
theorem a7i {α:Type}(x:α)(n:Nat):b8q x n=BL n x:=by
 induction n with
 |zero=>rfl
 |succ n ih=>simp[b8q,ih,List.replicate_succ]
theorem c8g (ts:List AV)(l:List a0h):b2j ts l=l.map (opd ts):=by
 induction l with
 |nil=>rfl
 |cons x l ih=>simp[b2j,ih]
theorem c0t {α:Type}(l:List α)(i n:Nat)(c:List α)(h:b0o l i n=AA c):c.length=n/\ ∀j,j<n->c[j]? =l[i+j]? :=by
 induction l generalizing i n c with
 |nil=>cases i<;>cases n<;>simp[b0o] at h;subst h;simp
 |cons x l ih=>
  cases i with
  |zero=>
   cases n with
   |zero=>simp[b0o] at h;subst h;simp
   |succ n=>
    simp only[b0o] at h;cases hr:b0o l 0 n with
    |none=>simp[hr] at h
    |some r=>
     simp[hr] at h;subst h;have:=ih 0 n r hr;refine⟨by simp[this.1],fun j hj=> ?_⟩;cases j with
     |zero=>simp
     |succ j=>have:=this.2 j (by omega);simp at this;simp[this]
  |succ i=>simp only[b0o] at h;have:=ih i n c h;refine⟨this.1,fun j hj=> ?_⟩;rw[this.2 j hj,show i+1+j=(i+j)+1 by omega];simp
theorem b5h {α:Type}(l:List α)(i:Nat)(new:List α)(r:List α)(h:b7y l i new=AA r):
 i+new.length<=l.length/\r=l.take i++new++l.drop (i+new.length):=by
 induction l generalizing i new r with
 |nil=>cases i<;>cases new<;>simp[b7y] at h;subst h;simp
 |cons x l ih=>
  cases i with
  |zero=>
   cases new with
   |nil=>simp[b7y] at h;subst h;simp
   |cons y new=>
    simp only[b7y] at h;cases hr:b7y l 0 new with
    |none=>simp[hr] at h
    |some r'=>simp[hr] at h;subst h;have:=ih 0 new r' hr;refine⟨by have:=this.1;simp at this⊢;omega,?_⟩;rw[this.2];simp
  |succ i=>
   simp only[b7y] at h;cases hr:b7y l i new with
   |none=>simp[hr] at h
   |some r'=>simp[hr] at h;subst h;have:=ih i new r' hr;refine⟨by have:=this.1;simp;omega,?_⟩;rw[this.2,show i+1+new.length=(i+new.length)+1 by omega];simp
theorem AV.normL_eq (l:List AV):AV.normL l=l.map AV.norm:=by
 induction l with
 |nil=>rfl
 |cons x l ih=>simp[AV.normL,ih]
theorem AV.forgetL_eq (m:Nat)(all:Bool)(l:List AV):AV.forgetL m all l=l.map (AV.forget m all):=by
 induction l with
 |nil=>rfl
 |cons x l ih=>simp[AV.forgetL,ih]
theorem a4i (m:Nat)(all:Bool)(l:List a0f):a2n m all l=l.map (a0f.forget m all):=by
 induction l with
 |nil=>rfl
 |cons x l ih=>simp[a2n,ih]
theorem VR.norm {w:AK}{S:Nat->Prop}{ρ:Rho}{x:AV}{v:AE}(h:VR w S ρ x v):VR w S ρ x.norm v:=by
 have key: ∀{cs:List AV} {vs:Array AE},(∀(i:Nat) (x:AV) (v:AE),cs[i]? =AA x->vs[i]? =AA v->VR w S ρ x.norm v)->
  ∀(i:Nat) (x:AV) (v:AE),(AV.normL cs)[i]? =AA x->vs[i]? =AA v->VR w S ρ x v:=by
  intro cs vs ih i x v hx hv;rw[AV.normL_eq,AR] at hx;cases hc:cs[i]? with
  |none=>simp[hc] at hx
  |some y=>simp[hc] at hx;subst hx;exact ih i y v hc hv
 induction h with
 | @d y u h=>
   cases y with
   |int k n=>cases h;exact .d (.int k (.v n.val))
   |_=>exact .d h
 |any v=>exact .any v
 |und=>exact .und
 |agg cs vs hl _ ih=>exact .agg _ vs (by simpa [AV.normL_eq] using hl) (key ih)
 |tuple cs vs hl _ ih=>exact .tuple _ vs (by simpa [AV.normL_eq] using hl) (key ih)
 |ptr l off b C h=>exact .ptr l off b C h
 |aptr l sz i off b C h=>exact .aptr l sz i off b C h
 |dptr row off b base f hb hv hr=>exact .dptr row off b base f hb hv hr
 |dfs sz n e a h=>exact .dfs sz n e a h
 |msl l sz A9 len full ob C cap a h hc hcap ha=>exact .msl l sz A9 len full ob C cap a h hc hcap ha
 |vsl l off n b C cap h hc=>exact .vsl l off n b C cap h hc
 |map l b C h=>exact .map l b C h
 |fn f first cap us vs hl1 _ hl _ ih1 ih=>exact .fn f _ _ us vs (by simpa [AV.normL_eq] using hl1) (key ih1) (by simpa [AV.normL_eq] using hl) (key ih)
 |ge m n h=>exact .ge m n h
 |yl l b C h=>exact .yl l b C h
def gone (l:Nat)(all:Bool)(m:Nat):Bool:=if all then BA l m else AH l m
theorem VR.forget {w w':AK}{S S':Nat->Prop}{ρ ρ':Rho}(hS: ∀b,S b->S' b)(hw: ∀b,S b->w'.heap[b]? =w.heap[b]?)(l:Nat)(all:Bool)
 (hρ: ∀m p,gone l all m=AF->ρ m=AA p->ρ' m=AA p) {x:AV} {v:AE} (h:VR w S ρ x v):VR w' S' ρ' (x.forget l all) v:=by
 have key: ∀{cs:List AV} {vs:Array AE},(∀(i:Nat) (x:AV) (v:AE),cs[i]? =AA x->vs[i]? =AA v->VR w' S' ρ' (x.forget l all) v)->
  ∀(i:Nat) (x:AV) (v:AE),(AV.forgetL l all cs)[i]? =AA x->vs[i]? =AA v->VR w' S' ρ' x v:=by
  intro cs vs ih i x v hx hv;rw[AV.forgetL_eq,AR] at hx;cases hc:cs[i]? with
  |none=>simp[hc] at hx
  |some y=>simp[hc] at hx;subst hx;exact ih i y v hc hv
 induction h with
 |d h=>exact .d (h.mono hS hw)
 |any v=>exact .any v
 |und=>exact .und
 |agg cs vs hl _ ih=>exact .agg _ vs (by simpa [AV.forgetL_eq] using hl) (key ih)
 |tuple cs vs hl _ ih=>exact .tuple _ vs (by simpa [AV.forgetL_eq] using hl) (key ih)
 |ptr m off b C h=>
  show VR w' S' ρ' (if gone l all m then .any else _) _;cases hg:gone l all m
  ·exact .ptr m off b C (hρ _ _ hg h)
  ·exact .any _
 |aptr m sz i off b C h=>
  show VR w' S' ρ' (if gone l all m then .any else _) _;cases hg:gone l all m
  ·exact .aptr m sz i off b C (hρ _ _ hg h)
  ·exact .any _
 |dptr row off b base f hb hv hr=>refine .dptr row off b base f (hS b hb) (fun j hj=> ?_) (fun j x hx=>(hr j x hx).mono hS hw);rw[cell?_congr (hw b hb)];exact hv j hj
 |dfs sz n e a h=>exact .dfs sz n e a (h.mono hS hw)
 |msl m sz A9 len full ob C cap a h hc hcap ha=>
  show VR w' S' ρ' (if gone l all m then .any else _) _;cases hg:gone l all m
  ·exact .msl m sz A9 len full ob C cap a (hρ _ _ hg h) hc hcap ha
  ·exact .any _
 |vsl m off n b C cap h hc=>
  show VR w' S' ρ' (if gone l all m then .any else _) _;cases hg:gone l all m
  ·exact .vsl m off n b C cap (hρ _ _ hg h) hc
  ·exact .any _
 |map m b C h=>
  show VR w' S' ρ' (if gone l all m then .any else _) _;cases hg:gone l all m
  ·exact .map m b C (hρ _ _ hg h)
  ·exact .any _
 |fn f first cap us vs hl1 _ hl _ ih1 ih=>exact .fn f _ _ us vs (by simpa [AV.forgetL_eq] using hl1) (key ih1) (by simpa [AV.forgetL_eq] using hl) (key ih)
 |ge m n h=>exact .ge m n h
 |yl m b C h=>
  show VR w' S' ρ' (if gone l all m then .any else _) _;cases hg:gone l all m
  ·exact .yl m b C (hρ _ _ hg h)
  ·exact .any _
def VRs (w:AK)(S:Nat->Prop)(ρ:Rho)(xs:List AV)(vs:Array AE):Prop:=
 xs.length=vs.size/\ ∀(i:Nat) (x:AV) (v:AE),xs[i]? =AA x->vs[i]? =AA v->VR w S ρ x v
def a2j:Rho:=fun _=>AD
structure d6d (w w':AK):Prop where
 os:w'.os=w.os
 tape:w'.tape=w.tape/\w.drawn<=w'.drawn
 output:w'.output=w.output
 size:w.heap.size<=w'.heap.size
 frame: ∀b,b<w.heap.size->w'.heap[b]? =w.heap[b]?
def c1p (P:AW)(f:A8):Prop:= ∃fn,P.funcs[f]? =AA fn/\fn.name≠ "runtime.NumGoroutine" /\fn.body≠AD
def a0j (P:AW)(own:Bool)(f:A8)(args:List AV)(r:AV):Prop:=
 c1p P f/\ ∀(w:AK) (S:Nat->Prop) (vs:Array AE),(∀b,S b->b<w.heap.size)->VRs w S a2j args vs->
  Calls P f vs w fun e w'=> ∃v S',e= .returned v/\VR w' S' a2j r v/\(∀b,S' b->(own=AF/\S b)\/(w.heap.size<=b/\b<w'.heap.size))/\d6d w w'
def e0c (P:AW)(f:A8)(args:List AV)(K:AV->List a0f->Prop):Prop:=
 c1p P f/\ ∀(w:AK) (S:Nat->Prop) (vs:Array AE),(∀b,S b->b<w.heap.size)->VRs w S a2j args vs->
  Calls P f vs w fun e w'=> ∃v x os S' ρ',e= .returned v/\K x os/\VR w' S' ρ' x v/\Sim w' S' ρ' os/\(∀b,S b->S' b)/\(∀b,S' b->S b\/w.heap.size<=b)/\
   (∀l b C,ρ' l=AA (AA b,C)->w.heap.size<=b)/\d6d w w'
def a1h (P:AW)(f:A8)(args:List AV)(h:List a0f)(K:List Nat->AV->List a0f->Prop):Prop:=
 c1p P f/\ ∀(w:AK) (S:Nat->Prop) (ρ:Rho) (vs:Array AE),Sim w S ρ h->VRs w S ρ args vs->
  Calls P f vs w fun e w'=> ∃v x pg h' S' ρ',e= .returned v/\K pg x h'/\VR w' S' ρ' x v/\Sim w' S' ρ' h'/\Ext w S ρ w' S' ρ'/\
   h.length<=h'.length/\ ∀l,l<h.length->l∉pg->ρ' l=ρ l
def b5d (P:AW)(l:Nat)(args:List AV)(h:List a0f)(K:List Nat->AV->List a0f->Prop):Prop:=
 ∀(w:AK) (S:Nat->Prop) (ρ:Rho) (vs:Array AE) (b C:Nat),Sim w S ρ h->VRs w S ρ args vs->ρ l=AA (AA b,C)->
  YieldAt Fence.wide 0 P b vs w fun e w'=> ∃v x pg h' S' ρ',e= .returned v/\K pg x h'/\VR w' S' ρ' x v/\Sim w' S' ρ' h'/\Ext w S ρ w' S' ρ'/\
   h.length<=h'.length/\ ∀l,l<h.length->l∉pg->ρ' l=ρ l
structure Ent where
 w:AK
 S:Nat->Prop
 ρ:Rho
 base:Nat
 ds:List BZ
structure d4q (w:AK)(S:Nat->Prop)(ρ:Rho)(n D:Nat):Prop where
 obj:w.heap[D]? =AA (.deferred (AA []))
 new:n<=D
 out: ∀l C,ρ l≠AA (AA D,C)
 imm: ¬S D
theorem d4q.ext {w w':AK}{S S':Nat->Prop}{ρ ρ':Rho}{n D:Nat}(m:d4q w S ρ n D)(e:Ext w S ρ w' S' ρ'):d4q w' S' ρ' n D:=by
 have hlt:D<w.heap.size:=(Aq.1 m.obj).1;refine⟨(e.frame D hlt m.out).trans m.obj,m.new,fun l C hl=> ?_,fun hs=> ?_⟩
 ·rcases e.owned l D C hl with h|⟨l',C',h⟩
  ·omega
  ·exact m.out _ _ h
 ·rcases e.news D hs with h|h|⟨l',C',h⟩
  ·exact m.imm h
  ·omega
  ·exact m.out _ _ h
def b4p (w:AK)(S:Nat->Prop)(ρ:Rho)(n:Nat)(base ds:List BZ):Prop:=
 ∃Ds:List Nat,ds=Ds.map (fun D=>{target:= .collected D,args:= #[]})++base/\(∀D,D∈Ds->d4q w S ρ n D)/\Ds.Pairwise (· ≠ ·)
theorem b4p.nil (w:AK)(S:Nat->Prop)(ρ:Rho)(n:Nat)(base:List BZ):b4p w S ρ n base base:=⟨[],rfl,by simp,.nil⟩
theorem b4p.ext {w w':AK}{S S':Nat->Prop}{ρ ρ':Rho}{n:Nat}{base ds:List BZ}(m:b4p w S ρ n base ds)(e:Ext w S ρ w' S' ρ'):b4p w' S' ρ' n base ds:=by obtain⟨Ds,h1,h2,h3⟩:=m;exact⟨Ds,h1,fun D hD=>(h2 D hD).ext e,h3⟩
structure Rel (E:Ent)(st:St)(a:Bm)(w:AK)(S:Nat->Prop)(ρ:Rho):Prop where
 ts:VRs w S ρ st.ts a.tmps
 ds:b4p w S ρ E.w.heap.size E.ds a.defers
 sim:Sim w S ρ st.h
 ext:Ext E.w E.S E.ρ w S ρ
 keep: ∀l,l<E.base->l∉st.mv->ρ l=E.ρ l
 len:E.base<=st.h.length
def a3i:Option Nat->Fence
 |none=>Fence.wide
 |some l=>Fence.wide.inRound l
def a9d:Exit->Option Lv
 | .normal=>AA .normal
 | .exit id=>AA (.exit id)
 | .ret=>AA .ret
 |_=>AD
def c7n (E:Ent)(Q:Lv->St->Prop):Exit->Bm->AK->Prop:=
 fun e a w=> ∃lv st S ρ,a9d e=AA lv/\Q lv st/\Rel E st a w S ρ
def AWP (P:AW)(ro:Option Nat)(E:Ent)(c:Bs)(Q:Lv->St->Prop)(st:St):Prop:=
 ∀a w S ρ,Rel E st a w S ρ->c.wpIn (a3i ro) 0 P (c7n E Q) a w
def std (P:AW)(A:Ann)(ro:Option Nat)(E:Ent):Sig where
 iadd x y:=x+y
 isub x y:=x-y
 imul x y:=x*y
 iquo x y:=x.tdiv y
 irem x y:=x.tmod y
 iwrap k x:=k.wrap x
 ilt x y:=decide (x<y)
 ile x y:=decide (x<=y)
 ieq x y:=x==y
 isel c x y:=if c then x else y
 bnot b:=!b
 band a b:=a&&b
 beq a b:=a==b
 bsel c a b:=if c then a else b
 ofNat n:=(n:Int)
 toNat n:=n.toNat
 nadd a b:=a+b
 nsub a b:=a-b
 nmul a b:=a*b
 nlt a b:=decide (a<b)
 inr k x:=k.wrap x=x
 inb i n:=0<=i/\i<n
 pnlt a b:=a<b
 pnle a b:=a<=b
 pile a b:=a<=b
 nz x:=x≠0
 req p q:=p/\q
 alln p:= ∀n,p n
 top:=ro=AD
 upd e i row:=fun j=>if j=i then row else e j
 app n e e2:=fun j=>if j<n then e j else e2 (j-n)
 shift e s:=fun j=>e (s+j)
 rowsOk sz n e:= ∀i,i<n->(e i).length=sz
 put at' m e e2:=fun j=>if at'<=j/\j<at'+m then e2 (j-at') else e j
 rep n zs:=fun i=>if i<n then zs else []
 nmin m n:=min m n
 sidx l i:=((l.getD i.toNat 0).toNat:Int)
 ibits:=d2j
 ishift:=c2b
 mget f k:=(f k).getD 0
 mhas f k:=(f k).isSome
 mset f k v:=fun k'=>if k'=k then AA v else f k'
 mcnt f k n:=if (f k).isSome then n else n+1
 same x y:=x=y
 callb own f args K:= ∃r,a0j P own f args r/\K r
 calln f args K:=e0c P f args K
 call f args h K:=a1h P f args h K
 yld l args h K:=b5d P l args h K
 loop ic Q st:= ∀c,comp P A c=AA ic->AWP P ro E (.loop c) Q st
 range f ps a b Q st:= ∀f' ps' a' b',a0g f'=AA f->ps'.toList=ps->comp P A a'=AA a->comp P A b'=AA b->AWP P ro E (.rangeFunc f' ps' a' b') Q st
def h4b:List Nat->List a0f->List a0f
 |[],h=>h
 |l::pg,h=>h4b pg (a2n l AF h)
def a3g:List Nat->AV->AV
 |[],x=>x
 |l::pg,x=>a3g pg (x.forget l AF)
structure Chg (w:AK)(S:Nat->Prop)(ρ:Rho)(h:List a0f)(w':AK)(S':Nat->Prop)(ρ':Rho)(h':List a0f)(pg:List Nat):Prop where
 sim:Sim w' S' ρ' h'
 len:h.length<=h'.length
 ext:Ext w S ρ w' S' ρ'
 keep: ∀m p,m∉pg->ρ m=AA p->ρ' m=AA p
 low: ∀m,m<h.length->m∉pg->ρ' m=ρ m
theorem Chg.refl {w:AK}{S:Nat->Prop}{ρ:Rho}{h:List a0f}(s:Sim w S ρ h):Chg w S ρ h w S ρ h []:=
 ⟨s,AM _,.refl w S ρ,fun _ _ _ h=>h,fun _ _ _=>rfl⟩
theorem Chg.new {w:AK}{S:Nat->Prop}{ρ:Rho}{h:List a0f}(s:Sim w S ρ h)(hl:ρ h.length=AD)(o:Obj)(ao:a0f)(C:Nat)
 (ho: ∀w':AK,w'.heap=w.heap.push o->a0z w' S ρ w.heap.size C ao):
 Chg w S ρ h {w with heap:=w.heap.push o} S (fun m=>if m=h.length then AA (AA w.heap.size,C) else ρ m) (h++[ao]) []:=by
 have hold: ∀b,b<w.heap.size->(w.heap.push o)[b]? =w.heap[b]? :=fun b hb=>by rw[Ag,if_neg (by omega)]
 have hρ: ∀m p,ρ m=AA p->(if m=h.length then AA (AA w.heap.size,C) else ρ m)=AA p:=by intro m p hm;rw[if_neg (fun e=>by subst e;simp[hl] at hm)];exact hm
 have hblk: ∀m b C',ρ m=AA (AA b,C')->b<w.heap.size:=by
  intro m b C' hm;obtain⟨o',_,h2⟩:=s.obj m (AA b) C' hm;have: ∃x,w.heap[b]? =AA x:=by
   cases o' with
   |var cs=>obtain⟨vs,ty,h3,_⟩:=h2;exact⟨_,h3⟩
   |arr sz n e=>obtain⟨vs,ty,h3,_⟩:=h2;exact⟨_,h3⟩
   |frz sz n e=>obtain⟨_,vs,ty,fr,h3,_⟩:=h2;exact⟨_,h3⟩
   |map wide ks n f=>obtain⟨es,clock,h3,_⟩:=h2;exact⟨_,h3⟩
   |mapv wide ks keys vals=>obtain⟨es,clock,h3,_⟩:=h2;exact⟨_,h3⟩
   |loop s ts ps code=>obtain⟨r,h3,_⟩:=h2;exact⟨_,h3⟩
   |gone=>exact⟨_,At (s.sblk b h2)⟩
   |arrv vals=>obtain⟨vs,ty,h3,_⟩:=h2;exact⟨_,h3⟩
  obtain⟨x,hx⟩:=this;exact (Aq.1 hx).1
 refine⟨⟨fun b hb=> ?_,fun m ob C' hm=> ?_,fun m m' b C1 C2 h1 h2=> ?_,fun m b C' ao' hm hao hf=> ?_⟩,by simp,⟨rfl,⟨rfl,AM _⟩,rfl,by simp,fun _ h=>h,fun b hb=>hold b (s.sblk b hb),fun _ h=> .inl h,fun b hb _=>hold b hb,fun m b C' hm=> ?_⟩,fun m p _ hm=>hρ m p hm,fun m hm _=>if_neg (by omega)⟩
 ·have:=s.sblk b hb;simp;omega
 ·show∃o,(h++[ao])[m]? =AA o/\_;by_cases e:m=h.length
  ·rw[if_pos e] at hm;cases hm;refine⟨ao,by simp[e],?_⟩;show a0z _ _ _ _ _ _;refine (ho {w with heap:=w.heap.push o} rfl).mono (fun _ h=>h) (fun _ _=>rfl) hρ rfl
  ·rw[if_neg e] at hm;obtain⟨o',h1,h2⟩:=s.obj m ob C' hm;refine⟨o',by rw[AI (AB.1 h1).1];exact h1,?_⟩;cases ob with
   |none=>exact h2
   |some b=>exact a0z.mono (fun _ h=>h) (fun b hb=>hold b (s.sblk b hb)) hρ (hold b (hblk m b C' hm)) h2
 ·by_cases e1:m=h.length<;>by_cases e2:m'=h.length
  ·rw[e1,e2]
  ·rw[if_pos e1] at h1;rw[if_neg e2] at h2;cases h1;have:=hblk _ _ _ h2;omega
  ·rw[if_neg e1] at h1;rw[if_pos e2] at h2;cases h2;have:=hblk _ _ _ h1;omega
  ·rw[if_neg e1] at h1;rw[if_neg e2] at h2;exact s.inj m m' b C1 C2 h1 h2
 ·by_cases e:m=h.length
  ·rw[if_pos e] at hm;cases hm;intro hs;have:=s.sblk _ hs;omega
  ·rw[if_neg e] at hm;obtain⟨o',h1,_⟩:=s.obj m _ C' hm;have hao:(h++[ao])[m]? =AA ao':=hao;rw[AI (AB.1 h1).1] at hao;exact s.own m b C' ao' hm hao hf
 ·by_cases e:m=h.length
  ·rw[if_pos e] at hm;cases hm;exact .inl (AM _)
  ·rw[if_neg e] at hm;exact .inr ⟨m,C',hm⟩
theorem Sim.blk {w:AK}{S:Nat->Prop}{ρ:Rho}{h:List a0f}(s:Sim w S ρ h){m b C:Nat}(hm:ρ m=AA (AA b,C)):b<w.heap.size:=by
 obtain⟨o',_,h2⟩:=s.obj m (AA b) C hm;have: ∃x,w.heap[b]? =AA x:=by
  cases o' with
  |var cs=>obtain⟨vs,ty,h3,_⟩:=h2;exact⟨_,h3⟩
  |arr sz n e=>obtain⟨vs,ty,h3,_⟩:=h2;exact⟨_,h3⟩
  |frz sz n e=>obtain⟨_,vs,ty,fr,h3,_⟩:=h2;exact⟨_,h3⟩
  |map wide ks n f=>obtain⟨es,clock,h3,_⟩:=h2;exact⟨_,h3⟩
  |mapv wide ks keys vals=>obtain⟨es,clock,h3,_⟩:=h2;exact⟨_,h3⟩
  |loop s ts ps code=>obtain⟨r,h3,_⟩:=h2;exact⟨_,h3⟩
  |gone=>exact⟨_,At (s.sblk b h2)⟩
  |arrv vals=>obtain⟨vs,ty,h3,_⟩:=h2;exact⟨_,h3⟩
 obtain⟨x,hx⟩:=this;exact (Aq.1 hx).1
theorem Chg.set {w:AK}{S:Nat->Prop}{ρ:Rho}{h:List a0f}(s:Sim w S ρ h){l b C:Nat}{o o':a0f}(hρl:ρ l=AA (AA b,C))(hl:h[l]? =AA o)
 (hf:o.frozen=AF) {w':AK} (hos:w'.os=w.os) (htp:w'.tape=w.tape/\w.drawn<=w'.drawn) (hout:w'.output=w.output) (hsz:w'.heap.size=w.heap.size)
 (hw: ∀k,k≠b->w'.heap[k]? =w.heap[k]?) (ho:a0z w' S ρ b C o'):
 Chg w S ρ h w' S ρ (h.set l o') []:=by
 have hnS: ¬S b:=s.own l b C o hρl hl hf;have hS: ∀k,S k->w'.heap[k]? =w.heap[k]? :=fun k hk=>hw k (fun e=>hnS (e▸hk));have hlt:=(AB.1 hl).1;refine⟨⟨fun k hk=>by rw[hsz];exact s.sblk k hk,fun m ob C' hm=> ?_,s.inj,fun m k C' ao hm hao hfz=> ?_⟩,by simp,
  ⟨hos,htp,hout,by rw[hsz];exact AM _,fun _ h=>h,hS,fun _ h=> .inl h,fun k _ hn=>hw k (fun e=>hn l C (e▸hρl)),fun m k C' hm=> .inr ⟨m,C',hm⟩⟩,
  fun _ _ _ hm=>hm,fun _ _ _=>rfl⟩
 ·show∃o,(h.set l o')[m]? =AA o/\_;by_cases e:m=l
  ·subst e;rw[hρl] at hm;cases hm;exact⟨o',by simp[hlt],ho⟩
  ·obtain⟨o1,h1,h2⟩:=s.obj m ob C' hm;refine⟨o1,by rw[AU (Ax e)];exact h1,?_⟩;cases ob with
   |none=>exact h2
   |some k=>refine a0z.mono (fun _ h=>h) hS (fun _ _ h=>h) (hw k fun ek=> ?_) h2;subst ek;exact e (s.inj m l k C' C hm hρl)
 ·by_cases e:m=l
  ·subst e;rw[hρl] at hm;cases hm;exact hnS
  ·exact s.own m k C' ao hm (by rw[<-hao];show _=(h.set l o')[m]?;rw[AU (Ax e)]) hfz
theorem Chg.frz {w:AK}{S:Nat->Prop}{ρ:Rho}{h:List a0f}(s:Sim w S ρ h){l:Nat}{ob:Option Nat}{C sz n:Nat}{e:Nat->List DV}(hρl:ρ l=AA (ob,C))
 (hl:h[l]? =AA (.arr sz n e)):Chg w S ρ h w (fun b=>S b\/ob=AA b) ρ (h.set l (.frz sz n e)) []:=by
 have hlt:=(AB.1 hl).1;have hS: ∀b,S b->S b\/ob=AA b:=fun _ h=> .inl h;refine⟨⟨fun k hk=> ?_,fun m ob' C' hm=> ?_,s.inj,fun m k C' ao hm hao hfz=> ?_⟩,by simp,
  ⟨rfl,⟨rfl,AM _⟩,rfl,AM _,hS,fun _ _=>rfl,fun k hk=> ?_,fun _ _ _=>rfl,fun m k C' hm=> .inr ⟨m,C',hm⟩⟩,
  fun _ _ _ hm=>hm,fun _ _ _=>rfl⟩
 ·rcases hk with hk|hk
  ·exact s.sblk k hk
  ·subst hk;exact s.blk hρl
 ·show∃o,(h.set l (.frz sz n e))[m]? =AA o/\_;by_cases em:m=l
  ·subst em;rw[hρl] at hm;cases hm;refine⟨.frz sz n e,by simp[hlt],?_⟩;obtain⟨o1,h1,h2⟩:=s.obj m ob C hρl;rw[hl] at h1;cases h1;cases ob with
   |none=>obtain⟨hC,sz',e',h3|h3⟩:=h2<;>cases h3;exact⟨hC,sz,e,.inr rfl⟩
   |some b=>obtain⟨vs,ty,h3,h4,h5,h6⟩:=h2;exact⟨.inr rfl,vs,ty,_,h3,h4,h5,fun i hi=>⟨(h6 i hi).1,fun j x v hx hv=>((h6 i hi).2 j x v hx hv).mono hS fun _ _=>rfl⟩⟩
  ·obtain⟨o1,h1,h2⟩:=s.obj m ob' C' hm;refine⟨o1,by rw[AU (Ax em)];exact h1,?_⟩;cases ob' with
   |none=>exact h2
   |some k=>exact a0z.mono hS (fun _ _=>rfl) (fun _ _ h=>h) rfl h2
 ·by_cases em:m=l
  ·subst em;have:(h.set m (.frz sz n e))[m]? =AA ao:=hao;simp[hlt] at this;subst this;cases hfz
  ·have hao':h[m]? =AA ao:=by rw[<-hao];show _=(h.set l (.frz sz n e))[m]?;rw[AU (Ax em)]
   intro hk;rcases hk with hk|hk
   ·exact s.own m k C' ao hm hao' hfz hk
   ·subst hk;exact em (s.inj m l k C' C hm hρl)
 ·rcases hk with hk|hk
  ·exact .inl hk
  ·subst hk;exact .inr (.inr ⟨l,C,hρl⟩)
theorem a3s (l:Nat)(all:Bool)(h:List a0f)(m:Nat):(a2n l all h)[m]? =(h[m]?).map (a0f.forget l all):=by rw[a4i,AR]
theorem a0f.forget_frozen (l:Nat)(all:Bool)(o:a0f):(o.forget l all).frozen=o.frozen:=by cases o<;>rfl
theorem a0z.forget {w w':AK}{S S':Nat->Prop}{ρ ρ':Rho}(hS: ∀b,S b->S' b)(hw: ∀b,S b->w'.heap[b]? =w.heap[b]?)(l:Nat)(all:Bool)
 (hρ: ∀m p,gone l all m=AF->ρ m=AA p->ρ' m=AA p) {b C:Nat} (hb:w'.heap[b]? =w.heap[b]?) {o:a0f} (h:a0z w S ρ b C o):
 a0z w' S' ρ' b C (o.forget l all):=by
 cases o with
 |var cs=>
  obtain⟨vs,ty,h1,h2,h3⟩:=h;refine⟨vs,ty,hb▸h1,by simpa [AV.forgetL_eq] using h2,fun i x v hx hv=> ?_⟩;rw[AV.forgetL_eq,AR] at hx;cases hc:cs[i]? with
  |none=>simp[hc] at hx
  |some y=>simp[hc] at hx;subst hx;exact (h3 i y v hc hv).forget hS hw l all hρ
 |arr sz n e=>obtain⟨vs,ty,h1,h2,h3,h4⟩:=h;exact⟨vs,ty,hb▸h1,h2,h3,fun i hi=>⟨(h4 i hi).1,fun j x v hx hv=>((h4 i hi).2 j x v hx hv).mono hS hw⟩⟩
 |frz sz n e=>obtain⟨h0,vs,ty,fr,h1,h2,h3,h4⟩:=h;exact⟨hS b h0,vs,ty,fr,hb▸h1,h2,h3,fun i hi=>⟨(h4 i hi).1,fun j x v hx hv=>((h4 i hi).2 j x v hx hv).mono hS hw⟩⟩
 |map wide ks n f=>obtain⟨es,clock,h1,h2⟩:=h;exact⟨es,clock,hb▸h1,h2⟩
 |mapv wide ks keys vals=>
  obtain⟨es,clock,h1,h2,h3,h4⟩:=h;refine⟨es,clock,hb▸h1,h2,by simpa [AV.forgetL_eq] using h3,fun i x v hx hv=> ?_⟩;rw[AV.forgetL_eq,AR] at hx;cases hc:vals[i]? with
  |none=>simp[hc] at hx
  |some y=>simp[hc] at hx;subst hx;exact (h4 i y v hc hv).forget hS hw l all hρ
 |loop s ts ps code=>
  obtain⟨r,h1,h2,h3,h4,h5,h6,h7⟩:=h;refine⟨r,hb▸h1,h2,h3,h4,h5,by simpa [AV.forgetL_eq] using h6,fun i x v hx hv=> ?_⟩;rw[AV.forgetL_eq,AR] at hx;cases hc:ts[i]? with
  |none=>simp[hc] at hx
  |some y=>simp[hc] at hx;subst hx;exact (h7 i y v hc hv).forget hS hw l all hρ
 |gone=>exact hS b h
 |arrv vals=>
  obtain⟨vs,ty,h1,h2,h3,h4⟩:=h;refine⟨vs,ty,hb▸h1,h2,by simpa [AV.forgetL_eq] using h3,fun i x v hx hv=> ?_⟩;rw[AV.forgetL_eq,AR] at hx;cases hc:vals[i]? with
  |none=>simp[hc] at hx
  |some y=>simp[hc] at hx;subst hx;exact (h4 i y v hc hv).forget hS hw l all hρ
theorem Chg.moveO {w:AK}{S:Nat->Prop}{ρ:Rho}{h:List a0f}(s:Sim w S ρ h){l:Nat}{ob:Option Nat}{C:Nat}(hρl:ρ l=AA (ob,C))(hl:l<h.length)
 (o:Obj) (ao:a0f) (hao:ao.frozen=AF) (C':Nat) (ho: ∀w':AK,w'.heap=w.heap.push o->a0z w' S ρ w.heap.size C' ao):
 Chg w S ρ h {w with heap:=w.heap.push o} S (fun m=>if m=l then AA (AA w.heap.size,C') else ρ m) (a2n l AF (h.set l ao)) [l]:=by
 have hold: ∀b,b<w.heap.size->(w.heap.push o)[b]? =w.heap[b]? :=fun b hb=>by rw[Ag,if_neg (by omega)]
 have hρ: ∀m p,gone l AF m=AF->ρ m=AA p->(if m=l then AA (AA w.heap.size,C') else ρ m)=AA p:=by intro m p hg hm;rw[if_neg (fun e=>by subst e;simp[gone] at hg)];exact hm
 have hget: ∀m,m≠l->(a2n l AF (h.set l ao))[m]? =(h[m]?).map (a0f.forget l AF):=by intro m hm;rw[a3s,AU (Ax hm)]
 have hgetl:(a2n l AF (h.set l ao))[l]? =AA (ao.forget l AF):=by rw[a3s];simp[hl]
 refine⟨⟨fun b hb=> ?_,fun m ob' C1 hm=> ?_,fun m m' b C1 C2 h1 h2=> ?_,fun m b C1 ao' hm hao' hf=> ?_⟩,by rw[a4i];simp,
  ⟨rfl,⟨rfl,AM _⟩,rfl,by simp,fun _ h=>h,fun b hb=>hold b (s.sblk b hb),fun _ h=> .inl h,fun b hb _=>hold b hb,fun m b C1 hm=> ?_⟩,
  fun m p hm hp=>hρ m p (by show AH l m=AF;cases hb:AH l m with|false=>rfl|true=>exact absurd (by simp[AG hb]) hm) hp,fun m _ hm=>if_neg (by simpa using hm)⟩
 ·have:=s.sblk b hb;simp;omega
 ·show∃o,(a2n l AF (h.set l ao))[m]? =AA o/\_;by_cases em:m=l
  ·subst em;rw[if_pos rfl] at hm;cases hm;refine⟨_,hgetl,?_⟩;have h0:=ho {w with heap:=w.heap.push o} rfl;exact a0z.forget (o:=ao) (fun _ h=>h) (fun _ _=>rfl) m AF hρ rfl h0
  ·rw[if_neg em] at hm;obtain⟨o',h1,h2⟩:=s.obj m ob' C1 hm;refine⟨o'.forget l AF,by rw[hget m em,h1];rfl,?_⟩;cases ob' with
   |none=>
    obtain⟨hC,sz',e',h3|h3⟩:=h2<;>subst h3
    ·exact⟨hC,sz',e',.inl rfl⟩
    ·exact⟨hC,sz',e',.inr rfl⟩
   |some b=>exact a0z.forget (fun _ h=>h) (fun b hb=>hold b (s.sblk b hb)) l AF hρ (hold b (s.blk hm)) h2
 ·by_cases e1:m=l<;>by_cases e2:m'=l
  ·rw[e1,e2]
  ·rw[if_pos e1] at h1;rw[if_neg e2] at h2;cases h1;have:=s.blk h2;omega
  ·rw[if_neg e1] at h1;rw[if_pos e2] at h2;cases h2;have:=s.blk h1;omega
  ·rw[if_neg e1] at h1;rw[if_neg e2] at h2;exact s.inj m m' b C1 C2 h1 h2
 ·by_cases em:m=l
  ·rw[if_pos em] at hm;cases hm;intro hs;have:=s.sblk _ hs;omega
  ·rw[if_neg em] at hm;have:(a2n l AF (h.set l ao))[m]? =AA ao':=hao';rw[hget m em] at this;cases hc:h[m]? with
   |none=>simp[hc] at this
   |some y=>simp[hc] at this;subst this;rw[a0f.forget_frozen] at hf;exact s.own m b C1 y hm hc hf
 ·by_cases em:m=l
  ·rw[if_pos em] at hm;cases hm;exact .inl (AM _)
  ·rw[if_neg em] at hm;exact .inr ⟨m,C1,hm⟩
theorem Chg.move {w:AK}{S:Nat->Prop}{ρ:Rho}{h:List a0f}(s:Sim w S ρ h){l:Nat}{ob:Option Nat}{C:Nat}(hρl:ρ l=AA (ob,C))(hl:l<h.length)
 (o:Obj) (sz n:Nat) (e:Nat->List DV) (C':Nat) (ho: ∀w':AK,w'.heap=w.heap.push o->a0z w' S ρ w.heap.size C' (.arr sz n e)):
 Chg w S ρ h {w with heap:=w.heap.push o} S (fun m=>if m=l then AA (AA w.heap.size,C') else ρ m) (a2n l AF (h.set l (.arr sz n e))) [l]:=
 Chg.moveO s hρl hl o (.arr sz n e) rfl C' ho
theorem Sim.forget {w:AK}{S:Nat->Prop}{ρ:Rho}{h:List a0f}(s:Sim w S ρ h)(l:Nat)(all:Bool):Sim w S ρ (a2n l all h) where
 sblk:=s.sblk
 obj m ob C hm:=by
  obtain⟨o,h1,h2⟩:=s.obj m ob C hm;refine⟨o.forget l all,by rw[a3s,h1];rfl,?_⟩;cases ob with
  |none=>
   obtain⟨hC,sz',e',h3|h3⟩:=h2<;>subst h3
   ·exact⟨hC,sz',e',.inl rfl⟩
   ·exact⟨hC,sz',e',.inr rfl⟩
  |some b=>exact a0z.forget (fun _ h=>h) (fun _ _=>rfl) l all (fun _ _ _ h=>h) rfl h2
 inj:=s.inj
 own m b C o hm ho hf:=by
  rw[a3s] at ho;cases hc:h[m]? with
  |none=>simp[hc] at ho
  |some y=>simp[hc] at ho;subst ho;rw[a0f.forget_frozen] at hf;exact s.own m b C y hm hc hf
theorem Chg.purged {w:AK}{S:Nat->Prop}{ρ:Rho}{h:List a0f}{w':AK}{S':Nat->Prop}{ρ':Rho}{h':List a0f}(c:Chg w S ρ h w' S' ρ' h' [])(pg:List Nat):
 Chg w S ρ h w' S' ρ' h' pg:=
 ⟨c.sim,c.len,c.ext,fun m p _ hm=>c.keep m p (by simp) hm,fun m hm _=>c.low m hm (by simp)⟩
theorem Chg.forgot {w:AK}{S:Nat->Prop}{ρ:Rho}{h:List a0f}{w':AK}{S':Nat->Prop}{ρ':Rho}{h':List a0f}{pg:List Nat}(c:Chg w S ρ h w' S' ρ' h' pg)(l:Nat):
 Chg w S ρ h w' S' ρ' (a2n l AF h') pg:=
 ⟨c.sim.forget l AF,by rw[a4i];simpa using c.len,c.ext,c.keep,c.low⟩
theorem VR.forgets {w w':AK}{S S':Nat->Prop}(hS: ∀b,S b->S' b)(hw: ∀b,S b->w'.heap[b]? =w.heap[b]?){ρ':Rho}(pg:List Nat):
 ∀{ρ:Rho},(∀m p,m∉pg->ρ m=AA p->ρ' m=AA p)-> ∀{x:AV} {v:AE},VR w S ρ x v->VR w' S' ρ' (a3g pg x) v:=by
 induction pg with
 |nil=>intro ρ hρ x v h;exact h.mono hS hw (fun m p=>hρ m p (by simp))
 |cons l pg ih=>
  intro ρ hρ x v h;have h1:VR w S (fun m=>if m=l then AD else ρ m) (x.forget l AF) v:=by refine VR.forget (fun _ h=>h) (fun _ _=>rfl) l AF (fun m p hg hm=> ?_) h;show (if m=l then AD else ρ m)=AA p;rw[if_neg (fun e=>by subst e;simp[gone] at hg)];exact hm
  refine ih (ρ:=fun m=>if m=l then AD else ρ m) (fun m p hm hp=> ?_) h1;by_cases e:m=l
  ·simp[e] at hp
  ·simp[e] at hp;exact hρ m p (by simp[e,hm]) hp
theorem a1r (pg:List Nat): ∀(st:St),(st.purge pg).ts=st.ts.map (a3g pg)/\(st.purge pg).h=st.h:=by
 induction pg with
 |nil=>intro st;simp[St.purge,a3g]
 |cons l pg ih=>intro st;obtain⟨h1,h2⟩:=ih ⟨AV.forgetL l AF st.ts,st.h,l::st.mv⟩;refine⟨?_,h2⟩;show (St.purge _ pg).ts=_;rw[h1];simp only[AV.forgetL_eq,List.map_map];rfl
theorem d2t (pg:List Nat): ∀(st:St) (m:Nat),m∉(st.purge pg).mv->m∉pg/\m∉st.mv:=by
 induction pg with
 |nil=>intro st m h;exact⟨by simp,h⟩
 |cons l pg ih=>intro st m h;have:=ih ⟨AV.forgetL l AF st.ts,st.h,l::st.mv⟩ m h;simp at this⊢;exact⟨⟨this.2.1,this.1⟩,this.2.2⟩
theorem h6c (pg:List Nat): ∀(h:List a0f),(h4b pg h).length=h.length:=by
 induction pg with
 |nil=>intro h;rfl
 |cons l pg ih=>intro h;simp[h4b,ih,a4i]
theorem Rel.step {E:Ent}{st:St}{a:Bm}{w:AK}{S:Nat->Prop}{ρ:Rho}(r:Rel E st a w S ρ){w':AK}{S':Nat->Prop}{ρ':Rho}{h':List a0f}{pg:List Nat}
 (c:Chg w S ρ st.h w' S' ρ' h' pg) (dst:Option Nat) {x:AV} {v:AE} (hv:VR w' S' ρ' x v):
 Rel E (((st.setH h').purge pg).put dst x) (a.put dst v) w' S' ρ':=by
 have hp:=a1r pg (st.setH h');have hts:VRs w' S' ρ' ((st.setH h').purge pg).ts a.tmps:=by
  refine⟨by rw[hp.1];simpa [St.setH] using r.ts.1,fun i y u hy hu=> ?_⟩;rw[hp.1,AR] at hy;cases hc:st.ts[i]? with
  |none=>simp[St.setH,hc] at hy
  |some z=>simp[St.setH,hc] at hy;subst hy;exact VR.forgets c.ext.mono c.ext.cell pg c.keep (r.ts.2 i z u hc hu)
 have h1:Sim w' S' ρ' ((st.setH h').purge pg).h:=by rw[hp.2];exact c.sim
 have h2: ∀l,l<E.base->l∉((st.setH h').purge pg).mv->ρ' l=E.ρ l:=by intro l hl hm;obtain⟨h3,h4⟩:=d2t pg _ l hm;rw[c.low l (BU hl r.len) h3];exact r.keep l hl h4
 have h3:E.base<=((st.setH h').purge pg).h.length:=by rw[hp.2];exact Al r.len c.len
 cases dst with
 |none=>exact⟨hts,r.ds.ext c.ext,h1,r.ext.trans c.ext,h2,h3⟩
 |some d=>
  refine⟨⟨by simpa [St.put,Act.put,a0l] using hts.1,fun i y u hy hu=> ?_⟩,r.ds.ext c.ext,h1,r.ext.trans c.ext,h2,h3⟩;simp only[St.put,a0l] at hy;simp only[Act.put] at hu;by_cases e:i=d
  ·subst e;rw[List.getElem?_set] at hy;rw[Array.getElem?_setIfInBounds] at hu;simp at hy hu;obtain⟨_,rfl⟩:=hy;obtain⟨_,rfl⟩:=hu;exact hv
  ·rw[AU (Ax e)] at hy;rw[Array.getElem?_setIfInBounds_ne (Ax e)] at hu;exact hts.2 i y u hy hu
theorem Sim.fresh {w:AK}{S:Nat->Prop}{ρ:Rho}{h:List a0f}(s:Sim w S ρ h){l:Nat}(hl:h.length<=l):ρ l=AD:=by
 cases e:ρ l with
 |none=>rfl
 |some p=>obtain⟨o,h1,_⟩:=s.obj l p.1 p.2 e;have:=(AB.1 h1).1;omega
theorem c9l {w:AK}{S:Nat->Prop}{v:AE}{x:DV}(h:e3r v=AA x):DVR w S x v:=by
 unfold e3r at h;split at h<;>first|(cases h;first|exact .int _ (.l _)|exact .bool _|exact .nil|exact .raw _ rfl)|skip
 case h_3 s=>
  cases h;exact .str s.data.toList
 all_goals cases h
theorem b3z {α β:Type}{f:α->Option β}: ∀{l:List α} {r:List β},l.mapM f=AA r->r.length=l.length/\ ∀(i:Nat) (x:α),l[i]? =AA x-> ∃y,r[i]? =AA y/\f x=AA y:=by
 intro l
 induction l with
 |nil=>intro r h;simp at h;subst h;simp
 |cons a l ih=>
  intro r h;simp[List.mapM_cons,AC] at h;obtain⟨y,hy,ys,hys,rfl⟩:=h;obtain⟨h1,h2⟩:=ih hys;refine⟨by simp[h1],fun i x hx=> ?_⟩;cases i with
  |zero=>simp at hx;subst hx;exact⟨y,by simp,hy⟩
  |succ i=>simp at hx;simpa using h2 i x hx
theorem d5c {w:AK}{S:Nat->Prop}{ρ:Rho}{v:AE}{x:AV}(h:e5k v=AA x):VR w S ρ x v:=by
 unfold e5k at h;split at h
 ·rename_i cs;simp[AC] at h;obtain⟨l,hl,rfl⟩:=h;obtain⟨h1,h2⟩:=b3z hl;refine .agg _ cs (by simp[h1]) fun i x v hx hv=> ?_;simp at hx;obtain⟨y,hy,rfl⟩:=hx;obtain⟨y',hy',hf⟩:=h2 i v (by simpa using hv);rw[hy] at hy';cases hy';exact .d (c9l hf)
 ·simp[AC] at h;obtain⟨y,hy,rfl⟩:=h;exact .d (c9l hy)
theorem a0t {w:AK}{S:Nat->Prop}{ρ:Rho}{ts:List AV}{a:Bm}(h:VRs w S ρ ts a.tmps){X:Aa}{x:a0h}(hx:a0g X=AA x):VR w S ρ (opd ts x) (a.eval X):=by
 cases X with
 |tmp t=>
  simp[a0g] at hx;subst hx;simp only[opd,a0i,Act.eval];cases hc:ts[t]? with
  |none=>exact .any _
  |some y=>
   have hlt:t<a.tmps.size:=by rw[<-h.1];exact (AB.1 hc).1
   have:a.tmps[t]? =AA (a.tmps.getD t Av):=by simp[hlt]
   exact h.2 t y _ hc this
 |const v=>simp[a0g,AC] at hx;obtain⟨y,hy,rfl⟩:=hx;exact d5c hy
 |global g=>simp[a0g] at hx
 |func f=>simp[a0g] at hx;subst hx;exact .fn f [] [] #[] #[] rfl (by simp) rfl (by simp)
theorem c9w {w:AK}{S:Nat->Prop}{ρ:Rho}{ts:List AV}{a:Bm}(h:VRs w S ρ ts a.tmps){X:Array Aa}{x:List a0h}(hx:b3d X=AA x):
 VRs w S ρ (b2j ts x) (X.map a.eval):=by
 obtain⟨h1,h2⟩:=b3z hx;refine⟨by simp[c8g,h1],fun i y v hy hv=> ?_⟩;rw[c8g,AR] at hy;rw[Array.getElem?_map] at hv;cases hX:X[i]? with
 |none=>simp[hX] at hv
 |some z=>simp[hX] at hv;subst hv;obtain⟨x',hx',hf⟩:=h2 i z (by simpa using hX);simp[hx'] at hy;subst hy;exact a0t h hf
def Yld (P:AW)(o:BN)(a:Bm)(w:AK)(S:Nat->Prop)(ρ:Rho)(h:List a0f)(K:AV->List a0f->List Nat->Prop):Prop:=
 ∃v w' x h' pg S' ρ',((AY a.eval o).run P w= .ok (.value v) w'\/((AY a.eval o).run P w= .ok .skip w'/\v=Av))/\
  K x h' pg/\Chg w S ρ h w' S' ρ' h' pg/\VR w' S' ρ' x v
theorem Yld.same {P:AW}{o:BN}{a:Bm}{w:AK}{S:Nat->Prop}{ρ:Rho}{h:List a0f}{K:AV->List a0f->List Nat->Prop}(s:Sim w S ρ h){v:AE}{x:AV}
 (hrun:(AY a.eval o).run P w= .ok (.value v) w) (hk:K x h []) (hv:VR w S ρ x v):Yld P o a w S ρ h K:=
 ⟨v,w,x,h,[],S,ρ,.inl hrun,hk,.refl s,hv⟩
section
variable {P:AW} {A:Ann} {ro:Option Nat} {E:Ent} {c:Nat} {o:BN} {io:IOp} {st:St} {K:AV->List a0f->List Nat->Prop}
 {a:Bm} {w:AK} {S:Nat->Prop} {ρ:Rho}
theorem VR.bool {b:Bool}{v:AE}(h:VR w S ρ (.d (.bool b)) v):v= .bool b:=by cases h with|d h=>cases h;rfl
theorem VR.int {k:AS}{n:IX}{v:AE}(h:VR w S ρ (.d (.int k n)) v):v= .int k n.val:=by cases h with|d h=>cases h;rfl
theorem VR.raw {u v:AE}(h:VR w S ρ (.d (.raw u)) v):v=u:=by cases h with|d h=>cases h;rfl
theorem VR.nil {v:AE}(h:VR w S ρ (.d .nil) v):v= .slice AD 0 0:=by cases h with|d h=>cases h;rfl
theorem d5q {X:Aa}(hop:o.op= .move X\/o.op= .assign X)(hc:a0y P c o=AA io)(hk:a0a (std P A ro E) io st K)(hr:Rel E st a w S ρ):Yld P o a w S ρ st.h K:=by
 have hc':(a0g X).bind (b0f c)=AA io:=by
  rcases hop with h|h<;>simpa [a0y,h] using hc
 have hrun:(AY a.eval o).run P w= .ok (.value (a.eval X)) w:=by
  rcases hop with h|h<;>simp[AY,h]
 simp only[AC,b0f] at hc';obtain⟨y,hy,hc'⟩:=hc';have hv:=a0t hr.ts hy;split at hc'
 ·cases hc';exact .same hr.sim hrun hk hv
 ·split at hc'
  ·cases hc';have hn:ρ (a3q st.h)=AD:=hr.sim.fresh (by rw[a0u];exact AM _);rw[a0u] at hn;have hv':a.eval X= .slice AD 0 0:=hv.nil;have hρ: ∀m p,ρ m=AA p->(if m=st.h.length then AA (AD,0) else ρ m)=AA p:=by intro m p hm;rw[if_neg (fun e=>by subst e;simp[hn] at hm)];exact hm
   refine⟨_,w,_,_,[],S,fun m=>if m=st.h.length then AA (AD,0) else ρ m,.inl hrun,hk,⟨⟨hr.sim.sblk,fun m ob C hm=> ?_,fun m m' b C C' h1 h2=> ?_,fun m b C ao hm hao hf=> ?_⟩,by simp[a0r],
    ⟨rfl,⟨rfl,AM _⟩,rfl,AM _,fun _ h=>h,fun _ _=>rfl,fun _ h=> .inl h,fun _ _ _=>rfl,fun m b C hm=> ?_⟩,fun m p _ hm=>hρ m p hm,fun m hm _=>if_neg (by omega)⟩,?_⟩
   ·show∃o,(a2u st.h [.arr c 0 fun _=>[]])[m]? =AA o/\_;rw[a0r];by_cases e:m=st.h.length
    ·rw[if_pos e] at hm;cases hm;exact⟨_,by rw[e];simp,rfl,c,fun _=>[],.inl rfl⟩
    ·rw[if_neg e] at hm;obtain⟨o',h1,h2⟩:=hr.sim.obj m ob C hm;refine⟨o',by rw[AI (AB.1 h1).1];exact h1,?_⟩;cases ob with
     |none=>exact h2
     |some b=>exact a0z.mono (fun _ h=>h) (fun _ _=>rfl) hρ rfl h2
   ·by_cases e1:m=st.h.length
    ·rw[if_pos e1] at h1;cases h1
    ·by_cases e2:m'=st.h.length
     ·rw[if_pos e2] at h2;cases h2
     ·rw[if_neg e1] at h1;rw[if_neg e2] at h2;exact hr.sim.inj m m' b C C' h1 h2
   ·by_cases e1:m=st.h.length
    ·rw[if_pos e1] at hm;cases hm
    ·rw[if_neg e1] at hm;obtain⟨o',h1,h2⟩:=hr.sim.obj m _ C hm;have hao:(a2u st.h [.arr c 0 fun _=>[]])[m]? =AA ao:=hao;rw[a0r,AI (AB.1 h1).1] at hao;exact hr.sim.own m b C ao hm hao hf
   ·by_cases e1:m=st.h.length
    ·rw[if_pos e1] at hm;cases hm
    ·rw[if_neg e1] at hm;exact .inr ⟨m,C,hm⟩
   ·rw[hv',a0u];exact .msl _ _ AD 0 AF AD 0 0 AD (by simp) (by simp) (by simp) (by simp)
  ·cases hc'
theorem e4o {C X Y:Aa}(hop:o.op= .pick C X Y)(hc:a0y P c o=AA io)(hk:a0a (std P A ro E) io st K)(hr:Rel E st a w S ρ):Yld P o a w S ρ st.h K:=by
 simp[a0y,hop,AC] at hc;obtain⟨x,hx,y,hy,z,hz,rfl⟩:=hc;have h0:=a0t hr.ts hx;have h1:=a0t hr.ts hy;have h2:=a0t hr.ts hz;simp only[a0a,e0h] at hk;split at hk
 ·rename_i b hb;rw[hb] at h0;have hC:=h0.bool;cases b with
  |true=>exact .same hr.sim (by simp[AY,hop,hC,asBool]) hk h1
  |false=>exact .same hr.sim (by simp[AY,hop,hC,asBool]) hk h2
 ·exact hk.elim
theorem a4y {v:AE}{zs:List DV}(h:d2l v=AA zs):zs.length=v.cells.size/\ ∀(w:AK) (S:Nat->Prop) (i:Nat) (x:DV) (u:AE),zs[i]? =AA x->v.cells[i]? =AA u->DVR w S x u:=by obtain⟨h1,h2⟩:=b3z h;refine⟨by simpa using h1,fun w S i x u hx hu=> ?_⟩;obtain⟨y,hy,hf⟩:=h2 i u (by simpa using hu);rw[hx] at hy;cases hy;exact c9l hf
theorem a5f {t:AJ}{zs:List DV}(h:a5d P t=AA zs): ∃i z,P.info? t=AA i/\i.zero=AA z/\d2l z=AA zs:=by simp[a5d,AC] at h;obtain⟨i,hi,z,hz,hd⟩:=h;exact⟨i,z,hi,hz,hd⟩
theorem a3m {t:AJ}{i:TypeInfo}{z:AE}(hi:P.info? t=AA i)(hz:i.zero=AA z):(zeroValue t).run P w= .ok z w:=by simp[zeroValue,A4,hi,hz]
theorem d8p {t:AJ}(hop:o.op= .alloc t)(hc:a0y P c o=AA io)(hk:a0a (std P A ro E) io st K)(hr:Rel E st a w S ρ):Yld P o a w S ρ st.h K:=by
 simp[a0y,hop,AC] at hc;obtain⟨zs,hz,rfl⟩:=hc;obtain⟨i,z,hi,hz0,hd⟩:=a5f hz;obtain⟨hl,hv⟩:=a4y hd;have hn:ρ st.h.length=AD:=hr.sim.fresh (AM _);simp only[a0a,a0u,a0r,a5m] at hk;refine⟨.pointer (AA ⟨w.heap.size,0,AD⟩),{w with heap:=w.heap.push (.cells z.cells t)},_,_,[],S,_,.inl ?_,hk,Chg.new hr.sim hn (.cells z.cells t) (.var (zs.map .d)) 0 (fun w' hw'=>⟨z.cells,t,?_,by simp[hl],?_⟩),.ptr _ 0 w.heap.size 0 (by simp)⟩
 ·simp[AY,hop,Instr.alloc,newVar,Bb,a3m hi hz0,BX]
 ·rw[hw'];simp
 ·intro j x u hx hu;simp at hx;obtain⟨y,hy,rfl⟩:=hx;exact .d (hv _ _ j y u hy hu)
theorem a7d {x:AV}{v:AE}(h:VR w S ρ x v)(h1:b5z x.cells=AT):x.cells.length=v.cells.size/\
 ∀(i:Nat) (y:AV) (u:AE),x.cells[i]? =AA y->v.cells[i]? =AA u->VR w S ρ y u:=by
 have one: ∀{x:AV} {v:AE},VR w S ρ x v->x.cells=[x]->v.cells= #[v]->x.cells.length=v.cells.size/\
  ∀(i:Nat) (y:AV) (u:AE),x.cells[i]? =AA y->v.cells[i]? =AA u->VR w S ρ y u:=by
  intro x v h e1 e2;rw[e1,e2];refine⟨rfl,fun i y u hy hu=> ?_⟩;cases i with
  |zero=>simp at hy hu;subst hy;subst hu;exact h
  |succ i=>simp at hy
 cases h with
 |agg cs vs hl h=>exact⟨hl,h⟩
 |any v=>simp[AV.cells,b5z,AV.one] at h1
 |und=>simp[AV.cells,b5z,AV.one] at h1
 |d h=>
  cases h with
  |raw v hv1=>exact one (.d (.raw _ hv1)) rfl (by cases v<;>first|rfl|cases hv1)
  |int k n=>exact one (.d (.int _ _)) rfl rfl
  |bool b=>exact one (.d (.bool _)) rfl rfl
  |str l=>exact one (.d (.str _)) rfl rfl
  |nil=>exact one (.d .nil) rfl rfl
  |sl0 sz e a cap=>exact one (.d (.sl0 _ _ _ _)) rfl rfl
  |sl sz n e b off cap f hb hc hl hv hr=>exact one (.d (.sl sz n e b off cap f hb hc hl hv hr)) rfl rfl
 |tuple cs vs hl h=>simp[AV.cells,b5z,AV.one] at h1
 |ptr l off b C h=>exact one (.ptr l off b C h) rfl rfl
 |aptr l sz i off b C h=>exact one (.aptr l sz i off b C h) rfl rfl
 |dptr row off b base f hb hv hr=>exact one (.dptr row off b base f hb hv hr) rfl rfl
 |dfs sz n e a h=>exact one (.dfs sz n e a h) rfl rfl
 |msl l sz A9 len full ob C cap a h hc hcap ha=>exact one (.msl l sz A9 len full ob C cap a h hc hcap ha) rfl rfl
 |vsl l off n b C cap h hc=>exact one (.vsl l off n b C cap h hc) rfl rfl
 |map l b C h=>exact one (.map l b C h) rfl rfl
 |fn f first cap us vs hl1 h1' hl h=>exact one (.fn f first cap us vs hl1 h1' hl h) rfl rfl
 |ge m n h=>exact one (.ge m n h) rfl rfl
 |yl l b C h=>exact one (.yl l b C h) rfl rfl
theorem f1z {t:AJ}{X:Aa}(hop:o.op= .box t X)(hc:a0y P c o=AA io)(hk:a0a (std P A ro E) io st K)(hr:Rel E st a w S ρ):Yld P o a w S ρ st.h K:=by
 simp[a0y,hop,AC] at hc;obtain⟨x,hx,rfl⟩:=hc;have h0:=a0t hr.ts hx;have hn:ρ st.h.length=AD:=hr.sim.fresh (AM _);simp only[a0a,a0u,a0r] at hk;split at hk
 ·rename_i h1;obtain⟨hl,hv⟩:=a7d h0 h1;refine⟨.pointer (AA ⟨w.heap.size,0,AD⟩),{w with heap:=w.heap.push (.cells (a.eval X).cells t)},_,_,[],S,_,.inl ?_,hk,
   Chg.new hr.sim hn (.cells (a.eval X).cells t) (.var (opd st.ts x).cells) 0 (fun w' hw'=>⟨(a.eval X).cells,t,?_,hl.symm,?_⟩),.ptr _ 0 w.heap.size 0 (by simp)⟩
  ·simp[AY,hop,Instr.box,newVar,Bb,BX]
  ·rw[hw'];simp
  ·intro j y u hy hu;refine (hv j y u hy hu).mono (fun _ h=>h) (fun b hb=> ?_) (fun _ _ h=>h);rw[hw',Ag,if_neg];have:=hr.sim.sblk b hb;omega
 ·exact hk.elim
theorem d5w {t:AJ}{ag:Option Nat}(h:d3e P t=AA ag):
 (Bt t).run P w= .ok ag.isSome w/\ ∀n,ag=AA n->(sizeOf t).run P w= .ok n w:=by
 simp[d3e,AC] at h;obtain⟨d,hd,h⟩:=h;have hu:(underlying t).run P w= .ok d w:=AN hd w;have hsz: ∀n,b1y P t=AA n->(sizeOf t).run P w= .ok n w:=by intro n hn;simp[b1y] at hn;obtain⟨i,hi,rfl⟩:=hn;simp[sizeOf,A4,hi]
 split at h
 ·simp[AC] at h;obtain⟨n,hn,rfl⟩:=h;exact⟨by simp[Bt,hu],fun m hm=>by cases hm;exact hsz n hn⟩
 ·simp[AC] at h;obtain⟨n,hn,rfl⟩:=h;exact⟨by simp[Bt,hu],fun m hm=>by cases hm;exact hsz n hn⟩
 ·cases h;rename_i h1 h2;refine⟨?_,fun n hn=>by cases hn⟩;simp only[Bt,Az,hu,Aj];cases d<;>first|rfl|(exact absurd rfl (h1 _))|(exact absurd rfl (h2 _ _))
theorem a1n (b off i:Nat):(⟨b,off,AD⟩:BJ).add i=⟨b,off+i,AD⟩:=by unfold Addr.add;split<;>simp_all
theorem a6i {t:AJ}{ag:Option Nat}(h:d3e P t=AA ag){b off:Nat}(f:Nat->AE):
 (match ag with
  |none=>w.cell? ⟨b,off,AD⟩=AA (f 0)->(A7 t ⟨b,off,AD⟩).run P w= .ok (f 0) w
  |some n=>(∀j,j<n->w.cell? ⟨b,off+j,AD⟩=AA (f j))->(A7 t ⟨b,off,AD⟩).run P w= .ok (.agg ((Ar n).map f).toArray) w):=by
 obtain⟨h1,h2⟩:=d5w (w:=w) h;cases ag with
 |none=>intro hc;simp[A7,h1,hc]
 |some n=>intro hc;have:=Bn (P:=P) w ⟨b,off,AD⟩ n f (fun j hj=>by rw[a1n];exact hc j hj);simp[A7,h1,h2 n rfl,this]
theorem a3o {t:AJ}{ag:Option Nat}(h:d3e P t=AA ag){b base off:Nat}{cs:List AV}(hcs: ∀j x,cs[j]? =AA x-> ∃v,w.cell? ⟨b,base+j,AD⟩=AA v/\VR w S ρ x v)
 {x:AV} (hx:match ag with|none=>a1a cs off=AA x|some n=> ∃c,b0o cs off n=AA c/\x= .agg c):
 ∃v,(A7 t ⟨b,base+off,AD⟩).run P w= .ok v w/\VR w S ρ x v:=by
 cases ag with
 |none=>simp only[a0i] at hx;obtain⟨v,hv,hvr⟩:=hcs off x hx;exact⟨v,a6i h (b:=b) (off:=base+off) (fun _=>v) hv,hvr⟩
 |some n=>
  obtain⟨cc,hcut,rfl⟩:=hx;obtain⟨hl,hget⟩:=c0t _ _ _ _ hcut;have hex: ∀j,∃v,j<n->w.cell? ⟨b,base+off+j,AD⟩=AA v/\ ∀y,cc[j]? =AA y->VR w S ρ y v:=by
   intro j;by_cases hj:j<n
   ·have h1:=hget j hj;have: ∃y,cc[j]? =AA y:=⟨cc[j]'(by omega),Au (by omega)⟩;obtain⟨y,hy⟩:=this;rw[hy] at h1;obtain⟨v,hv,hvr⟩:=hcs (off+j) y h1.symm;exact⟨v,fun _=>⟨by rw[BC];exact hv,fun y' hy'=>by rw[hy] at hy';cases hy';exact hvr⟩⟩
   ·exact⟨Av,fun h=>absurd h hj⟩
  have hch:=fun j=>(hex j).choose_spec;refine⟨_,a6i h (b:=b) (off:=base+off) (fun j=>(hex j).choose) (fun j hj=>(hch j hj).1),.agg _ _ (by simp[hl]) fun i y v hy hv=> ?_⟩;have hi:i<n:=by have:=(AB.1 hy).1;omega
  simp[BR hi] at hv;subst hv;exact (hch i hi).2 y hy
theorem c1x (l:List DV)(p m:Nat)(r:List DV)(h:b0o l p m=AA r):b0o (l.map AV.d) p m=AA (r.map AV.d):=by
 induction l generalizing p m r with
 |nil=>cases p<;>cases m<;>simp_all [b0o]
 |cons z l ih=>
  cases p with
  |zero=>
   cases m with
   |zero=>simp[b0o] at h⊢;exact h
   |succ m=>
    simp only[b0o,Bc] at h⊢;cases hr:b0o l 0 m with
    |none=>simp[hr] at h
    |some r'=>simp[hr] at h;subst h;simp[ih 0 m r' hr]
  |succ p=>simp only[b0o,Bc] at h⊢;exact ih p m r h
theorem c1s {h:List a0f}{p:AV}{pv:AE}{t:AJ}{ag:Option Nat}{K:AV->Prop}(hs:Sim w S ρ h)(h0:VR w S ρ p pv)(hag:d3e P t=AA ag)
 (hk:a8s (std P A ro E) h p ag K): ∃y v pa,pv= .pointer (AA pa)/\(A7 t pa).run P w= .ok v w/\VR w S ρ y v/\K y:=by
 have fin: ∀{y:AV} {pa:BJ},pv= .pointer (AA pa)->(∃v,(A7 t pa).run P w= .ok v w/\VR w S ρ y v)->K y->
  ∃y v pa,pv= .pointer (AA pa)/\(A7 t pa).run P w= .ok v w/\VR w S ρ y v/\K y:=
  fun hp ⟨v,hv,hvr⟩ hk=>⟨_,v,_,hp,hv,hvr,hk⟩
 unfold a8s at hk;cases h0 with
 |ptr l off b C hl=>
  simp only[a0i] at hk;obtain⟨oo,h1,h2⟩:=hs.obj l _ C hl;cases oo with
  |var cs=>
   simp only[h1] at hk;obtain⟨vs,ty,h3,h4,h5⟩:=h2;have hcs: ∀j x,cs[j]? =AA x-> ∃v,w.cell? ⟨b,0+j,AD⟩=AA v/\VR w S ρ x v:=by intro j x hj;have hlt:=(AB.1 hj).1;refine⟨vs[j]'(by omega),?_,h5 j x _ hj (by simp[h4,hlt])⟩;rw[cell?_of h3];simp[h4,hlt]
   cases ag with
   |none=>
    simp only at hk;split at hk
    ·rename_i y hy;refine fin rfl ?_ hk;have:=a3o hag (b:=b) (base:=0) (off:=off) hcs (x:=y) (by simpa [a0i] using hy);simpa using this
    ·exact hk.elim
   |some n=>
    simp only at hk;split at hk
    ·rename_i y hy;refine fin rfl ?_ hk;have:=a3o hag (b:=b) (base:=0) (off:=off) hcs (x:= .agg y) ⟨y,hy,rfl⟩;simpa using this
    ·exact hk.elim
  |_=>simp only[h1] at hk
 |aptr l sz i off b C hl=>
  simp only[a0i] at hk;obtain⟨oo,h1,h2⟩:=hs.obj l _ C hl;have row: ∀{sz' n:Nat} {e:Nat->List DV} {vs:Array AE} {ty:AJ} {fr:Nat×Nat},sz=sz'->i<n->w.heap[b]? =AA (.cells vs ty fr)->vs.size=C*sz'->n<=C->
   (∀i,i<n->(e i).length=sz'/\ ∀(j:Nat) (x:DV) (v:AE),(e i)[j]? =AA x->vs[i*sz'+j]? =AA v->DVR w S x v)->
   a8i (e i) off ag K-> ∃y v pa,Value.pointer (AA ⟨b,i*sz+off,AD⟩)= .pointer (AA pa)/\(A7 t pa).run P w= .ok v w/\VR w S ρ y v/\K y:=by
   intro sz' n e vs ty fr hsz hin h3 h4 h5 h6 hk;subst hsz;obtain⟨h7,h8⟩:=h6 i hin;have hcs: ∀j x,((e i).map AV.d)[j]? =AA x-> ∃v,w.cell? ⟨b,i*sz+j,AD⟩=AA v/\VR w S ρ x v:=by
    intro j x hj;simp at hj;obtain⟨y,hy,rfl⟩:=hj;have hlt:=(AB.1 hy).1;have hb:i*sz+j<vs.size:=by rw[h4];have:(i+1)*sz<=C*sz:=AO _ (by omega);rw[AX] at this;omega
    refine⟨vs[i*sz+j],?_,.d (h8 j y _ hy (by simp[hb]))⟩;rw[cell?_of h3];simp[hb]
   unfold a8i at hk;cases ag with
   |none=>
    simp only at hk;split at hk
    ·rename_i y hy;refine fin rfl ?_ hk;exact a3o hag (b:=b) (base:=i*sz) (off:=off) hcs (x:= .d y) (by simp[a0i] at hy⊢;exact hy)
    ·exact hk.elim
   |some n=>
    simp only at hk;split at hk
    ·rename_i y hy;refine fin rfl ?_ hk;refine a3o hag (b:=b) (base:=i*sz) (off:=off) hcs (x:= .agg (b3y .d y)) ⟨b3y .d y,?_,rfl⟩;rw[a5m];exact c1x _ _ _ _ hy
    ·exact hk.elim
  cases oo with
  |arr sz' n e=>
   simp only[h1] at hk;split at hk
   ·rename_i hsz;obtain⟨vs,ty,h3,h4,h5,h6⟩:=h2;obtain⟨hin,hk⟩:(i<n)/\_:=hk;exact row (AG hsz) hin h3 h4 h5 h6 hk
   ·exact hk.elim
  |frz sz' n e=>
   simp only[h1] at hk;split at hk
   ·rename_i hsz;obtain⟨_,vs,ty,fr,h3,h4,h5,h6⟩:=h2;obtain⟨hin,hk⟩:(i<n)/\_:=hk;exact row (AG hsz) hin h3 h4 h5 h6 hk
   ·exact hk.elim
  |arrv vals=>
   simp only[h1] at hk;split at hk
   ·rename_i hz;simp only[An] at hz;have e1:=AG hz.1;have e2:=AG hz.2;subst e1 e2;cases ag with
    |none=>
     simp only at hk;split at hk
     ·rename_i y hy;obtain⟨vs,ty,h3,h4,h5,h6⟩:=h2;have hcs: ∀j x,vals[j]? =AA x-> ∃v,w.cell? ⟨b,0+j,AD⟩=AA v/\VR w S ρ x v:=by
       intro j x hj;have hlt:=(AB.1 hj).1;have hlt2:j<vs.size:=by omega
       refine⟨vs[j]'hlt2,?_,h6 j x _ hj (by simp[hlt2])⟩;rw[cell?_of h3];simp[hlt2]
      refine fin rfl ?_ hk;have:=a3o hag (b:=b) (base:=0) (off:=i) hcs (x:=y) (by simpa [a0i] using hy);simpa using this
     ·exact hk.elim
    |some n=>exact hk.elim
   ·exact hk.elim
  |_=>simp only[h1] at hk
 |dptr rw' off b base f hb hv hrr=>
  have hcs: ∀j x,(rw'.map AV.d)[j]? =AA x-> ∃v,w.cell? ⟨b,base+j,AD⟩=AA v/\VR w S ρ x v:=by intro j x hj;simp at hj;obtain⟨y,hy,rfl⟩:=hj;exact⟨f j,hv j (AB.1 hy).1,.d (hrr j y hy)⟩
  unfold a8i at hk;cases ag with
  |none=>
   simp only at hk;split at hk
   ·rename_i y hy;refine fin rfl ?_ hk;exact a3o hag (b:=b) (base:=base) (off:=off) hcs (x:= .d y) (by simp[a0i] at hy⊢;exact hy)
   ·exact hk.elim
  |some n=>
   simp only at hk;split at hk
   ·rename_i y hy;refine fin rfl ?_ hk;refine a3o hag (b:=b) (base:=base) (off:=off) hcs (x:= .agg (b3y .d y)) ⟨b3y .d y,?_,rfl⟩;rw[a5m];exact c1x _ _ _ _ hy
   ·exact hk.elim
 |_=>exact hk.elim
theorem e3w {t:AJ}{X:Aa}(hop:o.op= .load t X)(hc:a0y P c o=AA io)(hk:a0a (std P A ro E) io st K)(hr:Rel E st a w S ρ):Yld P o a w S ρ st.h K:=by simp[a0y,hop,AC] at hc;obtain⟨ag,hag,x,hx,rfl⟩:=hc;obtain⟨y,v,pa,hp,hv,hvr,hk⟩:=c1s hr.sim (a0t hr.ts hx) hag hk;exact .same hr.sim (by simp[AY,hop,Instr.loadAt,hp,Ap,hv]) hk hvr
end
section
variable {P:AW} {A:Ann} {ro:Option Nat} {E:Ent} {c:Nat} {o:BN} {io:IOp} {st:St} {K:AV->List a0f->List Nat->Prop}
 {a:Bm} {w:AK} {S:Nat->Prop} {ρ:Rho} {h:List a0f}
theorem a6g (e:Nat->List DV)(s:Option Nat):b8h (std P A ro E) e s=fun j=>e (s.getD 0+j):=by
 cases s with
 |none=>funext j;simp[b8h]
 |some s=>rfl
theorem a3n (s:Option Nat)(n:Nat):c8f (std P A ro E) s n=s.getD 0+n:=by
 cases s with
 |none=>simp[c8f]
 |some s=>rfl
theorem b1w {b C sz m:Nat}{e:Nat->List DV}{vs:Array AE}{ty:AJ}{fr:Nat×Nat}(h3:w.heap[b]? =AA (.cells vs ty fr))(h4:vs.size=C*sz)(h5:m<=C)
 (h6: ∀i,i<m->(e i).length=sz/\ ∀(j:Nat) (x:DV) (v:AE),(e i)[j]? =AA x->vs[i*sz+j]? =AA v->DVR w S x v) {i:Nat} (hi:i<m):
 (e i).length=sz/\ ∀j,j<sz->w.cell? ⟨b,i*sz+j,AD⟩=AA (vs.getD (i*sz+j) Av)/\ ∀x,(e i)[j]? =AA x->DVR w S x (vs.getD (i*sz+j) Av):=by
 obtain⟨h7,h8⟩:=h6 i hi;refine⟨h7,fun j hj=> ?_⟩;have hb:i*sz+j<vs.size:=by rw[h4];have:(i+1)*sz<=C*sz:=AO _ (by omega);rw[AX] at this;omega
 have hg:vs[i*sz+j]? =AA (vs.getD (i*sz+j) Av):=by simp[hb]
 exact⟨by rw[cell?_of h3];exact hg,fun x hx=>h8 j x _ hx hg⟩
theorem a8u {ob:Option Nat}{C sz m:Nat}{e:Nat->List DV}{o:a0f}(ho:o= .arr sz m e\/o= .frz sz m e)(hh:c7g w S ρ ob C o)(hm:0<m):
 ∃b vs ty fr,ob=AA b/\w.heap[b]? =AA (.cells vs ty fr)/\vs.size=C*sz/\m<=C/\
  ∀i,i<m->(e i).length=sz/\ ∀(j:Nat) (x:DV) (v:AE),(e i)[j]? =AA x->vs[i*sz+j]? =AA v->DVR w S x v:=by
 cases ob with
 |none=>
  obtain⟨_,sz',e',h3|h3⟩:=hh<;>rcases ho with ho|ho<;>subst ho<;>cases h3<;>omega
 |some b=>
  rcases ho with ho|ho
  ·subst ho;obtain⟨vs,ty,h3,h4,h5,h6⟩:=hh;exact⟨b,vs,ty,_,rfl,h3,h4,h5,h6⟩
  ·subst ho;obtain⟨_,vs,ty,fr,h3,h4,h5,h6⟩:=hh;exact⟨b,vs,ty,fr,rfl,h3,h4,h5,h6⟩
theorem d4y {x:AV}{v:AE}{K:Nat->Nat->(Nat->List DV)->Prop}(hs:Sim w S ρ h)(h0:VR w S ρ x v)(hk:b3s (std P A ro E) h x K):
 ∃sz n e a cap,K sz n e/\v= .slice a n cap/\ ∀S':Nat->Prop,(∀b,S b->S' b)->(∀l sz s n f,x= .msl l sz s n f-> ∀b C,ρ l=AA (AA b,C)->S' b)->DVR w S' (.sl sz n e) v:=by
 cases h0 with
 |d h1=>
  cases h1 with
  |sl0 sz e a cap=>exact⟨sz,0,e,a,cap,hk,rfl,fun S' _ _=> .sl0 sz e a cap⟩
  |sl sz n e b off cap f hb hc hl hv hr=>exact⟨sz,n,e,_,_,hk,rfl,fun S' hS _=>(DVR.sl sz n e b off cap f hb hc hl hv hr).mono hS fun _ _=>rfl⟩
  |_=>exact hk.elim
 |dfs sz n e a h1=>exact⟨sz,n,e,_,_,hk,rfl,fun S' hS _=>h1.mono hS fun _ _=>rfl⟩
 |msl l sz s n f ob C cap a hl hc hcap ha=>
  simp only[b3s,a0i] at hk;obtain⟨oo,h1,h2⟩:=hs.obj l ob C hl;rw[h1] at hk;have main: ∀{sz' m:Nat} {e:Nat->List DV},(oo= .arr sz' m e\/oo= .frz sz' m e)->AH sz sz'=AT->s.getD 0+n<=m->K sz n (fun j=>e (s.getD 0+j))->
   ∃sz1 n1 e1 a' cap',K sz1 n1 e1/\Value.slice a n cap= .slice a' n1 cap'/\ ∀S':Nat->Prop,(∀b,S b->S' b)->(∀l' sz' s' n' f',AV.msl l sz s n f= .msl l' sz' s' n' f'-> ∀b C,ρ l'=AA (AA b,C)->S' b)->DVR w S' (.sl sz1 n1 e1) (.slice a n cap):=by
   intro sz' m e ho hsz hle hk;have hsz:=AG hsz;subst hsz;refine⟨sz,n,_,a,cap,hk,rfl,fun S' hS hx=> ?_⟩;by_cases hn:n=0
   ·subst hn;exact .sl0 _ _ _ _
   ·obtain⟨b,vs,ty,fr,rfl,h3,h4,h5,h6⟩:=a8u ho h2 (by omega);have hcp:0<cap:=by rw[hcap];split<;>omega
    rw[ha hcp];have hrow:=fun i (hi:i<n)=>b1w h3 h4 h5 h6 (i:=s.getD 0+i) (by omega);refine .sl sz n _ b (s.getD 0*sz) cap (fun i j=>vs.getD ((s.getD 0+i)*sz+j) Av) (fun _=>hx _ _ _ _ _ rfl b C hl) (by rw[hcap];split<;>omega) (fun i hi=>(hrow i hi).1) (fun i hi j hj=> ?_) (fun i hi j x hx'=> ?_)
    ·have:=((hrow i hi).2 j hj).1;rw[AX] at this;rw[this,AX]
    ·have hj:j<sz:=by have:=(AB.1 hx').1;rw[(hrow i hi).1] at this;exact this
     exact (((hrow i hi).2 j hj).2 x hx').mono hS fun _ _=>rfl
  cases oo with
  |arr sz' m e=>
   simp only[a3n,a6g] at hk;split at hk
   ·rename_i hsz;obtain⟨hle,hk⟩:(s.getD 0+n<=m)/\_:=hk;exact main (.inl rfl) hsz hle hk
   ·exact hk.elim
  |frz sz' m e=>
   simp only[a3n,a6g] at hk;split at hk
   ·rename_i hsz;obtain⟨hle,hk⟩:(s.getD 0+n<=m)/\_:=hk;exact main (.inr rfl) hsz hle hk
   ·exact hk.elim
  |_=>exact hk.elim
 |_=>exact hk.elim
def e0e (w:AK):Nat->Prop:=fun b=>b<w.heap.size
theorem d4w {x:AV}{v:AE}{K:AV->Prop}(hs:Sim w S ρ h)(h0:VR w S ρ x v)(hk:c7s (std P A ro E) h x K): ∃x',K x'/\VR w (e0e w) ρ x' v:=by
 have hS: ∀b,S b->e0e w b:=fun b hb=>hs.sblk b hb;have all:VR w (e0e w) ρ x v:=h0.mono hS (fun _ _=>rfl) (fun _ _ h=>h);unfold c7s at hk;split at hk
 ·rename_i l off n;cases h0 with
  |vsl _ _ _ b C cap hρ hcap=>
   obtain⟨oo,h1,h2⟩:=hs.obj l _ C hρ;rw[a0i,h1] at hk;cases oo with
   |var cs=>
    simp only at hk;split at hk
    ·rename_i c hc;split at hk
     ·rename_i ds hds;obtain⟨vs,ty,h3,h4,h5⟩:=h2;obtain⟨hc1,hc2⟩:=c0t _ _ _ _ hc;obtain⟨hd1,hd2⟩:=d1o hds;have hcell: ∀i,i<n-> ∃(x:DV) (u:AE),ds[i]? =AA x/\vs[off+i]? =AA u/\DVR w S x u:=by
       intro i hi;have hx:ds[i]? =AA (ds[i]'(by omega)):=Au _;obtain⟨y,hcs,hy⟩:=hd2 i _ hx;rw[hc2 i hi] at hcs;have hlt:off+i<vs.size:=by rw[h4];exact (AB.1 hcs).1
       have hu:vs[off+i]? =AA vs[off+i]:=At hlt;exact⟨_,_,hx,hu,hy (h5 _ _ _ hcs hu)⟩
      refine⟨_,hk,.d (.sl 1 n _ b off cap (fun i _=>vs.getD (off+i) Av) (fun _=>hs.blk hρ) hcap (fun i hi=> ?_) (fun i hi j hj=> ?_) (fun i hi j x hx=> ?_))⟩
      ·obtain⟨x,u,h6,h7,h8⟩:=hcell i hi;rw[a1k,a5m,AR,h6];rfl
      ·obtain⟨x,u,h6,h7,h8⟩:=hcell i hi;have hj0:j=0:=by omega
       subst hj0;rw[cell?_of h3,Bj,A3];rw[h7];simp[BF,h7]
      ·obtain⟨y,u,h6,h7,h8⟩:=hcell i hi;rw[a1k,a5m,AR,h6] at hx;have hu:vs.getD (off+i) Av=u:=by simp[BF,h7]
       cases j with
       |zero=>simp at hx;subst hx;rw[hu];exact h8.mono hS (fun _ _=>rfl)
       |succ j=>simp at hx
     ·exact hk.elim
    ·exact hk.elim
   |_=>exact hk.elim
 ·obtain⟨sz,n,e,a,cap,h1,_,h2⟩:=d4y hs h0 hk;exact⟨_,h1,.d (h2 _ hS fun l _ _ _ _ _ b C hl=>hs.blk hl)⟩
 ·cases h0 with
  |dfs sz n e a h1=>exact⟨_,hk,.d (h1.mono hS fun _ _=>rfl)⟩
 ·exact⟨_,hk,all⟩
theorem d9i {xs:List AV}(hs:Sim w S ρ h): ∀{vs:List AE} {K:List AV->Prop},xs.length=vs.length->(∀(i:Nat) (x:AV) (v:AE),xs[i]? =AA x->vs[i]? =AA v->VR w S ρ x v)->
 c5a (std P A ro E) h xs K-> ∃xs',K xs'/\xs'.length=vs.length/\ ∀(i:Nat) (x:AV) (v:AE),xs'[i]? =AA x->vs[i]? =AA v->VR w (e0e w) ρ x v:=by
 induction xs with
 |nil=>intro vs K hl _ hk;exact⟨[],hk,hl,by simp⟩
 |cons x xs ih=>
  intro vs K hl hv hk;cases vs with
  |nil=>simp at hl
  |cons v vs=>
   obtain⟨x',hk,h1⟩:=d4w hs (hv 0 x v (by simp) (by simp)) hk;obtain⟨xs',hk,h2,h3⟩:=ih (by simpa using hl) (fun i y u hy hu=>hv (i+1) y u (by simpa using hy) (by simpa using hu)) hk;refine⟨_,hk,by simp[h2],fun i y u hy hu=> ?_⟩;cases i with
   |zero=>simp at hy hu;subst hy;subst hu;exact h1
   |succ i=>simp at hy hu;exact h3 i y u hy hu
theorem d9k {xs:List AV}(hs:Sim w S ρ h): ∀{vs:List AE} {K:List AV->Prop},xs.length=vs.length->(∀(i:Nat) (x:AV) (v:AE),xs[i]? =AA x->vs[i]? =AA v->VR w S ρ x v)->
 b0n (std P A ro E) h xs K-> ∃xs',K xs'/\xs'.length=vs.length/\ ∀(i:Nat) (x:AV) (v:AE),xs'[i]? =AA x->vs[i]? =AA v->VR w (e0e w) ρ x v:=by
 induction xs with
 |nil=>intro vs K hl _ hk;exact⟨[],hk,hl,by simp⟩
 |cons x xs ih=>
  intro vs K hl hv hk;cases vs with
  |nil=>simp at hl
  |cons v vs=>
   have h0:=hv 0 x v (by simp) (by simp);have hx: ∃x',VR w (e0e w) ρ x' v/\b0n (std P A ro E) h xs fun r'=>K (x'::r'):=by
    unfold b0n at hk;split at hk
    ·rename_i heq;cases heq
    ·rename_i heq;cases heq;cases h0 with
     |agg cs us hl' h'=>obtain⟨cs',hk,h2,h3⟩:=d9i hs (vs:=us.toList) (by simpa using hl') (fun i y u hy hu=>h' i y u hy (by simpa using hu)) hk;exact⟨_,.agg cs' us (by simpa using h2) (fun i y u hy hu=>h3 i y u hy (by simpa using hu)),hk⟩
    ·rename_i heq;cases heq;obtain⟨x',hk,h1⟩:=d4w hs h0 hk;exact⟨x',h1,hk⟩
   obtain⟨x',h1,hk⟩:=hx;obtain⟨xs',hk,h2,h3⟩:=ih (by simpa using hl) (fun i y u hy hu=>hv (i+1) y u (by simpa using hy) (by simpa using hu)) hk;refine⟨_,hk,by simp[h2],fun i y u hy hu=> ?_⟩;cases i with
   |zero=>simp at hy hu;subst hy;subst hu;exact h1
   |succ i=>simp at hy hu;exact h3 i y u hy hu
structure Frz (w:AK)(S:Nat->Prop)(ρ:Rho)(h:List a0f)(S':Nat->Prop)(h':List a0f):Prop where
 sim:Sim w S' ρ h'
 len:h.length=h'.length
 mono: ∀b,S b->S' b
 news: ∀b,S' b->S b\/ ∃l C,ρ l=AA (AA b,C)
theorem Frz.refl (hs:Sim w S ρ h):Frz w S ρ h S h:=⟨hs,rfl,fun _ h=>h,fun _ h=> .inl h⟩
theorem Frz.trans {S' S'':Nat->Prop}{h' h'':List a0f}(k:Frz w S ρ h S' h')(k':Frz w S' ρ h' S'' h''):Frz w S ρ h S'' h'':=
 ⟨k'.sim,k.len.trans k'.len,fun b hb=>k'.mono b (k.mono b hb),fun b hb=>by
   rcases k'.news b hb with h|h
   ·exact k.news b h
   ·exact .inr h⟩
theorem Frz.chg {S':Nat->Prop}{h':List a0f}(k:Frz w S ρ h S' h'):Chg w S ρ h w S' ρ h' []:=
 ⟨k.sim,by rw[k.len];exact AM _,⟨rfl,⟨rfl,AM _⟩,rfl,AM _,k.mono,fun _ _=>rfl,fun b hb=>by
   rcases k.news b hb with h|h
   ·exact .inl h
   ·exact .inr (.inr h),fun _ _ _=>rfl,fun l b C hl=> .inr ⟨l,C,hl⟩⟩,fun _ _ _ h=>h,fun _ _ _=>rfl⟩
theorem Frz.vr {S':Nat->Prop}{h':List a0f}(k:Frz w S ρ h S' h'){x:AV}{v:AE}(hv:VR w S ρ x v):VR w S' ρ x v:=hv.mono k.mono (fun _ _=>rfl) (fun _ _ h=>h)
theorem b0b {x:AV}{v:AE}{K:AV->List a0f->Prop}(hs:Sim w S ρ h)(h0:VR w S ρ x v)(hk:a2m (std P A ro E) h x K):
 ∃x' h' S',K x' h'/\Frz w S ρ h S' h'/\VR w S' ρ x' v:=by
 unfold a2m at hk;split at hk
 ·rename_i l sz s n f;obtain⟨sz1,n1,e1,a1,cap1,hk,_,h2⟩:=d4y hs h0 hk;simp only[a0i,a0l] at hk;split at hk
  ·rename_i sz' m e' hl;cases h0 with
   |msl _ _ _ _ _ ob C cap a hρ hc hcap ha=>
    have k:=Chg.frz hs hρ hl;refine⟨_,_,_,hk,⟨k.sim,by simp,fun _ h=> .inl h,fun b hb=> ?_⟩,.d (h2 _ (fun _ h=> .inl h) fun l' _ _ _ _ hx b C' hl'=> ?_)⟩
    ·rcases hb with hb|hb
     ·exact .inl hb
     ·subst hb;exact .inr ⟨l,C,hρ⟩
    ·cases hx;rw[hρ] at hl';cases hl';exact .inr rfl
  ·rename_i hl;have hv: ∀b C,ρ l=AA (AA b,C)->S b:=by
    intro b C hb;obtain⟨oo,h3,h4⟩:=hs.obj l _ C hb;cases oo with
    |arr sz' m e'=>exact absurd h3 (hl sz' m e')
    |frz sz' m e'=>exact h4.1
    |_=>simp only[b3s,a0i,h3] at*
   exact⟨_,_,S,hk,.refl hs,.d (h2 S (fun _ h=>h) fun l' _ _ _ _ hx b C' hl'=>by cases hx;exact hv b C' hl')⟩
 ·cases h0 with
  |dfs sz n e a h1=>exact⟨_,_,S,hk,.refl hs,.d h1⟩
 ·exact⟨_,_,S,hk,.refl hs,h0⟩
end
section
variable {P:AW} {A:Ann} {ro:Option Nat} {E:Ent} {c:Nat} {o:BN} {io:IOp} {st:St} {K:AV->List a0f->List Nat->Prop}
 {a:Bm} {w:AK} {S:Nat->Prop} {ρ:Rho}
theorem a5l {xs:List AV}: ∀{h:List a0f} {S:Nat->Prop} {vs:List AE} {K:List AV->List a0f->Prop},Sim w S ρ h->xs.length=vs.length->
 (∀(i:Nat) (x:AV) (v:AE),xs[i]? =AA x->vs[i]? =AA v->VR w S ρ x v)->
 a3t (std P A ro E) h xs K-> ∃xs' h' S',K xs' h'/\Frz w S ρ h S' h'/\xs'.length=vs.length/\ ∀(i:Nat) (x:AV) (v:AE),xs'[i]? =AA x->vs[i]? =AA v->VR w S' ρ x v:=by
 induction xs with
 |nil=>intro h S vs K hs hl _ hk;exact⟨[],h,S,hk,.refl hs,hl,by simp⟩
 |cons x xs ih=>
  intro h S vs K hs hl hv hk;cases vs with
  |nil=>simp at hl
  |cons v vs=>
   obtain⟨x',h1,S1,hk,k1,hv1⟩:=b0b hs (hv 0 x v (by simp) (by simp)) hk;obtain⟨xs',h2,S2,hk,k2,hl2,hv2⟩:=ih k1.sim (by simpa using hl) (fun i y u hy hu=>k1.vr (hv (i+1) y u (by simpa using hy) (by simpa using hu))) hk;refine⟨_,h2,S2,hk,k1.trans k2,by simp[hl2],fun i y u hy hu=> ?_⟩;cases i with
   |zero=>simp at hy hu;subst hy;subst hu;exact k2.vr hv1
   |succ i=>simp at hy hu;exact hv2 i y u hy hu
theorem b2b {h:List a0f}{l:Nat}{v:AE}{K:AV->List a0f->Prop}(hs:Sim w S ρ h)(h0:VR w S ρ (.ptr l 0) v)(hk:a2p (std P A ro E) h l K):
 ∃x' h' S',K x' h'/\Frz w S ρ h S' h'/\VR w S' ρ x' v:=by
 cases h0 with
 |ptr _ _ b C hρ=>
  obtain⟨o,ho,hh⟩:=hs.obj l _ C hρ;unfold a2p at hk;rw[a0i,ho] at hk;split at hk
  ·rename_i cs heq;cases heq;obtain⟨vs,ty,h1,h2,h3⟩:=hh;obtain⟨cs',h',S',hk,k,hl',hv'⟩:=a5l (vs:=vs.toList) hs (by simpa using h2.symm) (fun i x v hx hv=>h3 i x v hx (by simpa using hv)) hk;split at hk
   ·rename_i row hd;obtain⟨d1,d2⟩:=d1o hd;have hlt:l<h'.length:=by rw[<-k.len];exact (AB.1 ho).1
    rw[a0l] at hk;have hnew:Sim w (fun x=>S' x\/x=b) ρ (h'.set l .gone):=by
     refine⟨fun x hx=> ?_,fun m ob C' hm=> ?_,k.sim.inj,fun m x C' o hm ho' hf=> ?_⟩
     ·rcases hx with hx|rfl
      ·exact k.sim.sblk x hx
      ·exact hs.blk hρ
     ·by_cases e:m=l
      ·subst e;rw[hρ] at hm;cases hm;exact⟨.gone,by simp[hlt],.inr rfl⟩
      ·obtain⟨o1,h4,h5⟩:=k.sim.obj m ob C' hm;refine⟨o1,by rw[AU (Ax e)];exact h4,?_⟩;cases ob with
       |none=>exact h5
       |some x=>exact a0z.mono (fun _ h=> .inl h) (fun _ _=>rfl) (fun _ _ h=>h) rfl h5
     ·by_cases e:m=l
      ·subst e;have ho':(h'.set m .gone)[m]? =AA o:=ho';rw[BO hlt] at ho';cases ho';cases hf
      ·have ho':(h'.set l .gone)[m]? =AA o:=ho';rw[AU (Ax e)] at ho';rintro (hx|rfl)
       ·exact k.sim.own m x C' o hm ho' hf hx
       ·exact e (k.sim.inj m l _ C' C hm hρ)
    refine⟨_,_,fun x=>S' x\/x=b,hk,⟨hnew,by simp[k.len],fun x hx=> .inl (k.mono x hx),fun x hx=> ?_⟩,?_⟩
    ·rcases hx with hx|rfl
     ·exact k.news x hx
     ·exact .inr ⟨l,C,hρ⟩
    ·have hlen:row.length=vs.size:=by rw[d1,hl'];simp
     refine .dptr row 0 b 0 (fun j=>vs.getD j Av) (.inr rfl) (fun j hj=> ?_) (fun j x hx=> ?_)
     ·rw[Bh,cell?_of h1];simp[show j<vs.size by omega]
     ·obtain⟨y,hy,hd⟩:=d2 j x hx;have hj:j<vs.size:=by rw[<-hlen];exact (AB.1 hx).1
      exact DVR.mono (fun _ h=> .inl h) (fun _ _=>rfl) (hd (hv' j y _ hy (by simp[hj])))
   ·exact hk.elim
  ·exact hk.elim
theorem b1x {xs:List AV}: ∀{h:List a0f} {S:Nat->Prop} {vs:List AE} {K:List AV->List a0f->Prop},Sim w S ρ h->xs.length=vs.length->
 (∀(i:Nat) (x:AV) (v:AE),xs[i]? =AA x->vs[i]? =AA v->VR w S ρ x v)->
 a1w (std P A ro E) h xs K-> ∃xs' h' S',K xs' h'/\Frz w S ρ h S' h'/\xs'.length=vs.length/\ ∀(i:Nat) (x:AV) (v:AE),xs'[i]? =AA x->vs[i]? =AA v->VR w S' ρ x v:=by
 induction xs with
 |nil=>intro h S vs K hs hl _ hk;exact⟨[],h,S,hk,.refl hs,hl,by simp⟩
 |cons x xs ih=>
  intro h S vs K hs hl hv hk;cases vs with
  |nil=>simp at hl
  |cons v vs=>
   have h0:=hv 0 x v (by simp) (by simp);have hx: ∃x' h1 S1,VR w S1 ρ x' v/\Frz w S ρ h S1 h1/\a1w (std P A ro E) h1 xs fun r' h''=>K (x'::r') h'':=by
    unfold a1w at hk;split at hk
    ·rename_i heq;cases heq
    ·rename_i heq;cases heq;cases h0 with
     |agg cs us hl' h'=>obtain⟨cs',h1,S1,hk,k1,h2,h3⟩:=a5l hs (vs:=us.toList) (by simpa using hl') (fun i y u hy hu=>h' i y u hy (by simpa using hu)) hk;exact⟨_,h1,S1,.agg cs' us (by simpa using h2) (fun i y u hy hu=>h3 i y u hy (by simpa using hu)),k1,hk⟩
    ·rename_i heq;cases heq;obtain⟨x',h1,S1,hk,k1,h2⟩:=b2b hs h0 hk;exact⟨x',h1,S1,h2,k1,hk⟩
    ·rename_i heq;cases heq;obtain⟨x',h1,S1,hk,k1,h2⟩:=b0b hs h0 hk;exact⟨x',h1,S1,h2,k1,hk⟩
   obtain⟨x',h1,S1,hv1,k1,hk⟩:=hx;obtain⟨xs',h2,S2,hk,k2,hl2,hv2⟩:=ih k1.sim (by simpa using hl) (fun i y u hy hu=>k1.vr (hv (i+1) y u (by simpa using hy) (by simpa using hu))) hk;refine⟨_,h2,S2,hk,k1.trans k2,by simp[hl2],fun i y u hy hu=> ?_⟩;cases i with
   |zero=>simp at hy hu;subst hy;subst hu;exact k2.vr hv1
   |succ i=>simp at hy hu;exact hv2 i y u hy hu
theorem d3o {h:List a0f}{x:AV}{v:AE}{K:List DV->List a0f->Prop}(hs:Sim w S ρ h)(h0:VR w S ρ x v)(h1:b5z x.cells=AT)(hk:b0p (std P A ro E) h x K):
 ∃l h' S',K l h'/\Frz w S ρ h S' h'/\l.length=v.cells.size/\ ∀(i:Nat) (x:DV) (u:AE),l[i]? =AA x->v.cells[i]? =AA u->DVR w S' x u:=by
 obtain⟨hl,hv⟩:=a7d h0 h1;obtain⟨cs,h',S',hk,k,hl2,hv2⟩:=a5l hs (vs:=v.cells.toList) (by simpa using hl) (fun i y u hy hu=>hv i y u hy (by simpa using hu)) hk;split at hk
 ·rename_i l hl';obtain⟨h3,h4⟩:=d1o hl';refine⟨l,h',S',hk,k,by rw[h3,hl2];simp,fun i x u hx hu=> ?_⟩;obtain⟨y,hy,hyr⟩:=h4 i x hx;exact hyr (hv2 i _ u hy (by simpa using hu))
 ·exact hk.elim
theorem d5p {cs:List AV}(h:b5z cs=AT): ∀x,x∈cs->x.one=AT:=by
 induction cs with
 |nil=>simp
 |cons c cs ih=>
  simp only[b5z] at h;split at h
  ·rename_i h1;intro x hx;rcases List.mem_cons.1 hx with rfl|hx
   ·exact h1
   ·exact ih h x hx
  ·cases h
theorem DVR.one {x:DV}{v:AE}(h:DVR w S x v):v.oneCell'=AT:=by
 cases h with
 |raw v h=>exact h
 |_=>rfl
theorem e1z {x:AV}{v:AE}(h:VR w S ρ x v)(h1:x.one=AT):v.oneCell'=AT:=by
 cases h with
 |d h=>
  cases h with
  |raw v h=>exact h
  |_=>rfl
 |any v=>simp[AV.one] at h1
 |und=>simp[AV.one] at h1
 |agg cs vs hl h=>simp[AV.one] at h1
 |tuple cs vs hl h=>simp[AV.one] at h1
 |_=>rfl
theorem a7p {b:Nat}{cs old:Array AE}{ty:AJ}{fr:Nat×Nat}(h:w.heap[b]? =AA (.cells old ty fr)):
 (w.setRow b cs).os=w.os/\((w.setRow b cs).tape=w.tape/\w.drawn<=(w.setRow b cs).drawn)/\(w.setRow b cs).output=w.output/\(w.setRow b cs).heap.size=w.heap.size/\
   (w.setRow b cs).heap[b]? =AA (.cells cs ty fr)/\ ∀k,k≠b->(w.setRow b cs).heap[k]? =w.heap[k]? :=by
 refine⟨rfl,⟨rfl,AM _⟩,rfl,by simp[World.setRow],setRow_heap w b old cs ty fr h,fun k hk=> ?_⟩;simp only[World.setRow,Array.getElem?_modify];rw[if_neg (Ax hk)]
theorem a5r {t:AJ}{sz:Nat}(hsz:b1y P t=AA sz){b off:Nat}{old:Array AE}{ty:AJ}{v:AE}(hb:w.heap[b]? =AA (.cells old ty (0,0)))
 (hv:v.cells.size=sz) (hle:off+sz<=old.size) (h1: ∀u,u∈v.cells.toList->u.oneCell'=AT):
 (Bl t ⟨b,off,AD⟩ v).run P w= .ok () (w.setRow b (old.toList.take off++v.cells.toList++old.toList.drop (off+v.cells.toList.length)).toArray):=by
 have hs:(sizeOf t).run P w= .ok sz w:=by simp[b1y] at hsz;obtain⟨i,hi,rfl⟩:=hsz;simp[sizeOf,A4,hi]
 have:=Bd (P:=P) b off ty v.cells.toList 0 old w hb (by simpa [hv] using hle) h1;simp only[A3] at this;simp[Bl,hs,hv,this]
theorem i1v {x:Option a0f}{vals:List AV}(h:h9m x=AA vals):x=AA (.arrv vals):=by
 unfold h9m at h;split at h
 ·cases h;rfl
 ·cases h
theorem d8r {t:AJ}{X Y:Aa}(hop:o.op= .store t X Y)(hc:a0y P c o=AA io)(hk:a0a (std P A ro E) io st K)(hr:Rel E st a w S ρ):Yld P o a w S ρ st.h K:=by
 simp[a0y,hop,AC] at hc;obtain⟨sz,hsz,x,hx,y,hy,rfl⟩:=hc;have h0:=a0t hr.ts hx;have h1:=a0t hr.ts hy;simp only[a0a] at hk;have fin: ∀{pa:BJ} {w':AK},a.eval X= .pointer (AA pa)->(Bl t pa (a.eval Y)).run P w= .ok () w'->(AY a.eval o).run P w= .ok .skip w':=by intro pa w' hp hst;simp[AY,hop,Instr.storeAt,hp,Ap,hst]
 revert hk fin h0 h1;generalize opd st.ts x=p;generalize opd st.ts y=q;generalize a.eval X=pv;generalize a.eval Y=v;intro hk h0 h1 fin;unfold a6o at hk;split at hk
 ·rename_i l off;split at hk
  ·rename_i hch;simp only[An,a0u] at hch;obtain⟨hlen,hon⟩:=hch;have hlen:=AG hlen;simp only[a0i,a0l] at hk;split at hk
   ·rename_i cs hl;split at hk
    ·rename_i cs' hput;obtain⟨hle,rfl⟩:=b5h _ _ _ _ hput;obtain⟨hcl,hcv⟩:=a7d h1 hon;cases h0 with
     |ptr _ _ b C hρ=>
      obtain⟨oo,h2,h3⟩:=hr.sim.obj l _ C hρ;rw[hl] at h2;cases h2;obtain⟨vs,ty,h4,h5,h6⟩:=h3;have hall: ∀u,u∈v.cells.toList->u.oneCell'=AT:=by
       intro u hu;obtain⟨i,hi,rfl⟩:=BB hu;have hi':i<q.cells.length:=by rw[hcl];simpa using hi
       exact e1z (hcv i q.cells[i] _ (by simp[hi']) (by simp at hi;simp[hi])) (d5p hon _ (BE hi'))
      have hst:=a5r hsz (off:=off) h4 (by rw[<-hcl];exact hlen) (by rw[h5];omega) hall;obtain⟨s1,s2,s3,s4,s5,s6⟩:=a7p (cs:=(vs.toList.take off++v.cells.toList++vs.toList.drop (off+v.cells.toList.length)).toArray) h4;refine⟨Av,_,_,_,[],S,ρ,.inr ⟨fin rfl hst,rfl⟩,hk,Chg.set hr.sim hρ hl rfl s1 s2 s3 s4 s6 ⟨_,ty,s5,?_,fun i z u hz hu=> ?_⟩,.und⟩
      ·simp;omega
      ·have hS: ∀k,S k->(w.setRow b (vs.toList.take off++v.cells.toList++vs.toList.drop (off+v.cells.toList.length)).toArray).heap[k]? =w.heap[k]? :=
        fun k hk=>s6 k (fun e=>hr.sim.own l b C _ hρ hl rfl (e▸hk))
       refine VR.mono (fun _ h=>h) hS (fun _ _ h=>h) (w:=w) (S:=S) (ρ:=ρ) ?_;have hq:q.cells.length=v.cells.toList.length:=by simpa using hcl
       simp only[Ae] at hu;by_cases hi1:i<off
       ·rw[Ac,AI (by simp;omega)] at hz hu;rw[Ah hi1] at hz hu;exact h6 i z u hz (by simpa using hu)
       ·by_cases hi2:i<off+q.cells.length
        ·rw[Ac,AQ (by simp;omega),AI (by simp;omega)] at hz hu;simp only[Ab] at hz hu;rw[show min off cs.length=off by omega] at hz;rw[show min off vs.toList.length=off by simp;omega] at hu;exact hcv _ z u hz (by simpa using hu)
        ·rw[AQ (by simp;omega),As] at hz hu;simp only[Ai,Ab] at hz hu;rw[show off+q.cells.length+(i-(min off cs.length+q.cells.length))=i by omega] at hz;rw[show off+v.cells.toList.length+(i-(min off vs.toList.length+v.cells.toList.length))=i by simp at*;omega] at hu;exact h6 i z u hz (by simpa using hu)
    ·exact hk.elim
   ·exact hk.elim
  ·exact hk.elim
 ·rename_i l sz' i off;split at hk
  ·rename_i hch;simp only[An,a0u] at hch;obtain⟨hlen,hon⟩:=hch;have hlen:=AG hlen;obtain⟨hcl,hcv⟩:=a7d h1 hon;split at hk
   ·rename_i vals hia;have hl:=i1v hia;rw[a0i] at hl;split at hk
    ·rename_i hz;simp only[An] at hz;have e1:=AG hz.1.1;have e2:=AG hz.1.2;have e3:=AG hz.2;subst e1 e2 e3;split at hk
     ·rename_i x0 hx0;rw[a0i] at hx0;obtain⟨hin,hk⟩:(i<a3q vals)/\_:=hk;rw[a0u] at hin;rw[a0l,a0l] at hk;cases h0 with
      |aptr _ _ _ _ b C hρ=>
       obtain⟨oo,h2,h3⟩:=hr.sim.obj l _ C hρ;rw[hl] at h2;cases h2;obtain⟨vs,ty,h4,h5,h5',h6⟩:=h3;have hall: ∀u,u∈v.cells.toList->u.oneCell'=AT:=by
        intro u hu;obtain⟨i,hi,rfl⟩:=BB hu;have hi':i<q.cells.length:=by rw[hcl];simpa using hi
        exact e1z (hcv i q.cells[i] _ (by simp[hi']) (by simp at hi;simp[hi])) (d5p hon _ (BE hi'))
       have hst:=a5r hsz (off:=i*1+0) h4 (by rw[<-hcl];exact hlen) (by omega) hall;obtain⟨s1,s2,s3,s4,s5,s6⟩:=a7p (cs:=(vs.toList.take (i*1+0)++v.cells.toList++vs.toList.drop (i*1+0+v.cells.toList.length)).toArray) h4;have hvl:v.cells.toList.length=1:=by rw[BQ,<-hcl];exact hlen
       refine⟨Av,_,_,_,[],S,ρ,.inr ⟨fin rfl hst,rfl⟩,hk,Chg.set hr.sim hρ hl rfl s1 s2 s3 s4 s6 ⟨_,ty,s5,?_,by simpa using h5',fun j z u hz hu=> ?_⟩,.und⟩
       ·simp only[List.size_toArray,Ai,Ab,List.length_drop,BQ] at hvl⊢;omega
       ·have hS: ∀k,S k->(w.setRow b (vs.toList.take (i*1+0)++v.cells.toList++vs.toList.drop (i*1+0+v.cells.toList.length)).toArray).heap[k]? =w.heap[k]? :=
         fun k hk=>s6 k (fun e=>hr.sim.own l b C _ hρ hl rfl (e▸hk))
        refine VR.mono (fun _ h=>h) hS (fun _ _ h=>h) (w:=w) (S:=S) (ρ:=ρ) ?_;simp only[Ae,Bj,A3] at hu;by_cases hj:j<i
        ·rw[AU (by omega)] at hz;rw[Ac,AI (by simp;omega),Ah hj] at hu;exact h6 j z u hz (by simpa using hu)
        ·by_cases hj2:j=i
         ·subst hj2;rw[BO hin] at hz;cases hz;rw[Ac,AQ (by simp;omega),AI (by simp at*;omega)] at hu;simp only[Ab] at hu;rw[show j-min j vs.toList.length=0 by simp;omega] at hu;exact hcv 0 x0 u hx0 (by simpa using hu)
         ·rw[AU (by omega)] at hz;rw[AQ (by simp at*;omega),As] at hu;simp only[Ai,Ab] at hu;rw[show i+v.cells.toList.length+(j-(min i vs.toList.length+v.cells.toList.length))=j by simp at*;omega] at hu;exact h6 j z u hz (by simpa using hu)
     ·exact hk.elim
    ·exact hk.elim
   obtain⟨new,h',S',hk,k,hnl,hnv⟩:=d3o hr.sim h1 hon hk;simp only[a0i,a0l] at hk;split at hk
   ·rename_i sz'' n e hl;split at hk
    ·rename_i hsz';have hsz':=AG hsz';subst hsz';obtain⟨hin,hk⟩:(i<n)/\_:=hk;split at hk
     ·rename_i row hput;obtain⟨hle,hrow⟩:=b5h _ _ _ _ hput;cases h0 with
      |aptr _ _ _ _ b C hρ=>
       obtain⟨oo,h2,h3⟩:=k.sim.obj l _ C hρ;rw[hl] at h2;cases h2;obtain⟨vs,ty,h4,h5,h5',h6⟩:=h3;have hall: ∀u,u∈v.cells.toList->u.oneCell'=AT:=by
        intro u hu;obtain⟨i,hi,rfl⟩:=BB hu;have hi':i<q.cells.length:=by rw[hcl];simpa using hi
        exact e1z (hcv i q.cells[i] _ (by simp[hi']) (by simp at hi;simp[hi])) (d5p hon _ (BE hi'))
       have hei:=(h6 i hin).1;have hbound:i*sz'+sz'<=vs.size:=by rw[h5];have:(i+1)*sz'<=C*sz':=AO _ (by omega);rw[AX] at this;omega
       have hst:=a5r hsz (off:=i*sz'+off) h4 (by rw[<-hcl];exact hlen) (by omega) hall;obtain⟨s1,s2,s3,s4,s5,s6⟩:=a7p (cs:=(vs.toList.take (i*sz'+off)++v.cells.toList++vs.toList.drop (i*sz'+off+v.cells.toList.length)).toArray) h4;have hS: ∀m,S' m->(w.setRow b (vs.toList.take (i*sz'+off)++v.cells.toList++vs.toList.drop (i*sz'+off+v.cells.toList.length)).toArray).heap[m]? =w.heap[m]? :=
        fun m hm=>s6 m (fun e'=>k.sim.own l b C _ hρ hl rfl (e'▸hm))
       have c2:=Chg.set k.sim hρ hl rfl s1 s2 s3 s4 s6 (o':= .arr sz' n ((std P A ro E).upd e i row)) ⟨_,ty,s5,by simp;omega,h5',fun i' hi'=> ?_⟩
       ·have c1:=k.chg;exact⟨Av,_,_,_,[],S',ρ,.inr ⟨fin rfl hst,rfl⟩,hk,⟨c2.sim,Al c1.len c2.len,c1.ext.trans c2.ext,fun _ _ _ h=>h,fun _ _ _=>rfl⟩,.und⟩
       ·show ((if i'=i then row else e i').length=sz')/\ ∀(j:Nat) (x:DV) (u:AE),(if i'=i then row else e i')[j]? =AA x->_;have hvl:v.cells.toList.length=new.length:=by simp[hnl]
        have far: ∀j u,(vs.toList.take (i*sz'+off)++v.cells.toList++vs.toList.drop (i*sz'+off+v.cells.toList.length)).toArray[i'*sz'+j]? =AA u->
         (i'*sz'+j<i*sz'+off\/i*sz'+off+new.length<=i'*sz'+j)->vs[i'*sz'+j]? =AA u:=by
         intro j u hu hd;simp only[Ae] at hu;have hq0:i*sz'+off+new.length<=vs.size:=by omega
         clear hput hrow hle hst s1 s2 s3 s4 s5 s6 hS hall hbound;generalize i'*sz'+j=m at*
         generalize i*sz'+off=q0 at*
         rcases hd with hd|hd
         ·rw[Ac,AI (by simp;omega),Ah hd] at hu;simpa using hu
         ·rw[AQ (by simp;omega),As] at hu;simp only[Ai,Ab] at hu;rw[show q0+v.cells.toList.length+(m-(min q0 vs.toList.length+v.cells.toList.length))=m by simp at*;omega] at hu;simpa using hu
        by_cases e1:i'=i
        ·subst e1;rw[if_pos rfl];refine⟨by rw[hrow];simp;omega,fun j x u hx hu=> ?_⟩;have hj:j<sz':=by have:=(AB.1 hx).1;rw[hrow] at this;simp at this;omega
         refine DVR.mono (fun _ h=>h) hS (w:=w) (S:=S') ?_;rw[hrow] at hx;by_cases j1:j<off
         ·rw[Ac,AI (by simp;omega),Ah j1] at hx;exact (h6 i' hin).2 j x u hx (far j u hu (.inl (by omega)))
         ·by_cases j2:j<off+new.length
          ·rw[Ac,AQ (by simp;omega),AI (by simp;omega)] at hx;simp only[Ab] at hx;rw[show min off (e i').length=off by omega] at hx;simp only[Ae] at hu;rw[Ac,AQ (by simp;omega),AI (by simp at*;omega)] at hu;simp only[Ab] at hu;rw[show i'*sz'+j-min (i'*sz'+off) vs.toList.length=j-off by simp;omega] at hu;exact hnv _ x u hx (by simpa using hu)
          ·rw[AQ (by simp;omega),As] at hx;simp only[Ai,Ab] at hx;rw[show off+new.length+(j-(min off (e i').length+new.length))=j by omega] at hx;exact (h6 i' hin).2 j x u hx (far j u hu (.inr (by omega)))
        ·rw[if_neg e1];refine⟨(h6 i' hi').1,fun j x u hx hu=> ?_⟩;have hj:j<sz':=by have:=(AB.1 hx).1;rw[(h6 i' hi').1] at this;exact this
         refine DVR.mono (fun _ h=>h) hS (w:=w) (S:=S') ((h6 i' hi').2 j x u hx (far j u hu ?_));rcases Nat.lt_or_gt_of_ne e1 with e2|e2
         ·left;have:(i'+1)*sz'<=i*sz':=AO _ (by omega);rw[AX] at this;omega
         ·right;have:(i+1)*sz'<=i'*sz':=AO _ (by omega);rw[AX] at this;omega
     ·exact hk.elim
    ·exact hk.elim
   ·exact hk.elim
  ·exact hk.elim
 ·exact hk.elim
end
section
variable {P:AW} {A:Ann} {ro:Option Nat} {E:Ent} {c:Nat} {o:BN} {io:IOp} {st:St} {K:AV->List a0f->List Nat->Prop}
 {a:Bm} {w:AK} {S:Nat->Prop} {ρ:Rho}
theorem d1r {X:Aa}(hop:o.op= .nilCheck X)(hc:a0y P c o=AA io)(hk:a0a (std P A ro E) io st K)(hr:Rel E st a w S ρ):Yld P o a w S ρ st.h K:=by
 simp[a0y,hop,AC] at hc;obtain⟨x,hx,rfl⟩:=hc;have h0:=a0t hr.ts hx;simp only[a0a] at hk;split at hk
 ·rename_i hp;have: ∃pa,a.eval X= .pointer (AA pa):=by
   revert h0 hp;generalize opd st.ts x=p;generalize a.eval X=v;intro h0 hp;cases h0<;>first|exact⟨_,rfl⟩|cases hp
  obtain⟨pa,hpa⟩:=this;exact .same hr.sim (v:=a.eval X) (by simp[AY,hop,hpa]) hk h0
 ·exact hk.elim
theorem beq'_eq (a b:Int):BS a b=(a==b):=by rw[Bool.eq_iff_iff,Int.beq'_eq,beq_iff_eq]
theorem e1u {op:Ay}{k:AS}{x y:IX}{K:DV->Prop}(t:AJ)(hk:d0v (std P A ro E) op k x y K):
 ∃d v,K d/\(binOp op t (.int k x.val) (.int k y.val)).run P w= .ok v w/\VR w S ρ (.d d) v:=by
 have int: ∀(n:IX) (v:AE),K (.int k n)->v= .int k n.val->(binOp op t (.int k x.val) (.int k y.val)).run P w= .ok v w->
  ∃d v,K d/\(binOp op t (.int k x.val) (.int k y.val)).run P w= .ok v w/\VR w S ρ (.d d) v:=fun n v h1 h2 h3=>⟨_,v,h1,h3,h2▸ .d (.int k n)⟩
 have bol: ∀(b:Bool),K (.bool b)->(binOp op t (.int k x.val) (.int k y.val)).run P w= .ok (.bool b) w->
  ∃d v,K d/\(binOp op t (.int k x.val) (.int k y.val)).run P w= .ok v w/\VR w S ρ (.d d) v:=fun b h1 h3=>⟨_,_,h1,h3,.d (.bool b)⟩
 unfold d0v at hk;split at hk
 ·split at hk
  ·rename_i a b;obtain⟨h1,hk⟩:(k.wrap (a+b)=a+b)/\_:=hk;exact int _ _ hk rfl (by simp[binOp,Aw,IX.val,h1])
  ·obtain⟨h1,hk⟩:(k.wrap (_+_)=_+_)/\_:=hk;exact int _ _ hk rfl (by simp only[binOp,Aw,ne_eq,not_true_eq_false,if_false,Ak,h1];rfl)
 ·split at hk
  ·rename_i a b;obtain⟨h1,hk⟩:(k.wrap (a-b)=a-b)/\_:=hk;exact int _ _ hk rfl (by simp[binOp,Aw,IX.val,h1])
  ·obtain⟨h1,hk⟩:(k.wrap (_-_)=_-_)/\_:=hk;exact int _ _ hk rfl (by simp only[binOp,Aw,ne_eq,not_true_eq_false,if_false,Ak,h1];rfl)
 ·obtain⟨h1,hk⟩:(k.wrap (_*_)=_*_)/\_:=hk;exact int _ _ hk rfl (by simp only[binOp,Aw,ne_eq,not_true_eq_false,if_false,Ak,h1];rfl)
 ·obtain⟨h0,h1,hk⟩:(_≠(0:Int))/\(k.wrap (Br _ _)=Br _ _)/\_:=hk;exact int _ _ hk rfl (by simp only[binOp,Bq,ne_eq,not_true_eq_false,if_false,h0,Ak,h1];rfl)
 ·obtain⟨h0,hk⟩:(_≠(0:Int))/\_:=hk;exact int _ _ hk rfl (by simp only[binOp,Bq,ne_eq,not_true_eq_false,if_false,h0,Ak];rfl)
 ·split at hk
  ·rename_i a b;exact bol _ hk (by simp[binOp,Ao,IX.val,beq'_eq])
  ·exact bol _ hk (by simp[binOp,Ao,std])
 ·split at hk
  ·rename_i a b;exact bol _ hk (by simp[binOp,Ao,IX.val,beq'_eq,bne])
  ·exact bol _ hk (by simp[binOp,Ao,std,bne])
 ·exact bol _ hk (by simp[binOp,Ao,std])
 ·exact bol _ hk (by simp[binOp,Ao,std])
 ·exact bol _ hk (by simp[binOp,Ao,std])
 ·exact bol _ hk (by simp[binOp,Ao,std])
 ·exact hk.elim
theorem a1q {op:Ay}{t:AJ}{x y:Aa}{u v:AE}(hu:(match u with| .nilIface=>AF| .agg _=>AF|_=>AT)=AT):(eqGuard op t x y u v).run P w= .ok () w:=by
 unfold eqGuard;cases op<;>first|rfl|(cases u<;>first|(cases hu;done)|(cases v<;>rfl))
theorem f2t {op:Ay}{t t':AJ}{X Y:Aa}(hop:o.op= .binOp op t X Y t'){x y:a0h}(hx:a0g X=AA x)(hy:a0g Y=AA y)
 (hk:a0a (std P A ro E) (.bin op x y) st K) (hr:Rel E st a w S ρ):Yld P o a w S ρ st.h K:=by
 have h0:=a0t hr.ts hx;have h1:=a0t hr.ts hy;simp only[a0a] at hk;split at hk
 ·rename_i k1 x1 k2 y1 e1 e2;rw[e1] at h0;rw[e2] at h1;split at hk
  ·rename_i hkk;subst hkk;obtain⟨d,v,hk,hrun,hvr⟩:=e1u (w:=w) (S:=S) (ρ:=ρ) t hk;refine .same hr.sim (v:=v) ?_ hk hvr;simp only[AY,hop,h0.int,h1.int,Az,a1q (P:=P) (w:=w) (u:= .int k1 x1.val) rfl,Aj,hrun];rfl
  ·exact hk.elim
 ·rename_i x1 m e1 e2;rw[e1] at h0;rw[e2] at h1;split at hk
  ·obtain⟨hle,hk⟩:(x1.val<=((m:Nat):Int))/\_:=hk;generalize hv:a.eval Y=v at h1;cases h1 with
   |ge _ n hn=>
    refine .same hr.sim (v:= .bool AF) ?_ hk (.d (.bool AF));have hlt: ¬(n<x1.val):=by omega
    simp[AY,hop,h0.int,hv,a1q (P:=P) (w:=w) (u:= .int .i64 x1.val) rfl,binOp,Ao,hlt]
  ·exact hk.elim
 ·exact hk.elim
theorem g4m {op:Ay}{t t':AJ}{X Y:Aa}(hop:o.op= .binOp op t X Y t'){x y:a0h}(hx:a0g X=AA x)(hy:a0g Y=AA y)
 (hk:a0a (std P A ro E) (.bw op x y) st K) (hr:Rel E st a w S ρ):Yld P o a w S ρ st.h K:=by
 have h0:=a0t hr.ts hx;have h1:=a0t hr.ts hy;simp only[a0a] at hk;split at hk
 ·rename_i k1 x1 k2 y1 e1 e2;rw[e1] at h0;rw[e2] at h1;unfold bwI at hk;split at hk
  ·rename_i hcl;obtain⟨hle,hk⟩:(0<=y1.val)/\_:=hk;refine .same hr.sim (v:= .int k1 (c2b op k1 x1.val y1.val)) ?_ hk (.d (.int k1 (.v _)));have hlt: ¬(y1.val<0):=by omega
   cases op<;>simp[c6z] at hcl<;>simp[AY,hop,h0.int,h1.int,a1q (P:=P) (w:=w) (u:= .int k1 x1.val) rfl,binOp,Op.shift,hlt,c2b]<;>rfl
  ·rename_i hcl;split at hk
   ·rename_i hkk;subst hkk;refine .same hr.sim (v:= .int k1 (d2j op k1 x1.val y1.val)) ?_ hk (.d (.int k1 (.v _)));cases op<;>simp[c6z] at hcl<;>simp[AY,hop,h0.int,h1.int,a1q (P:=P) (w:=w) (u:= .int k1 x1.val) rfl,binOp,Op.intBits,d2j]
   ·exact hk.elim
  ·exact hk.elim
 ·exact hk.elim
theorem e1t {op:Ay}{t t':AJ}{X Y:Aa}(hop:o.op= .binOp op t X Y t')(ht:P.underlying t=AA .bool){x y:a0h}(hx:a0g X=AA x)(hy:a0g Y=AA y)
 (hk:a0a (std P A ro E) (.binb op x y) st K) (hr:Rel E st a w S ρ):Yld P o a w S ρ st.h K:=by
 have h0:=a0t hr.ts hx;have h1:=a0t hr.ts hy;simp only[a0a] at hk;split at hk
 ·rename_i b1 b2 e1 e2;rw[e1] at h0;rw[e2] at h1;have heq:(Op.equal t (.bool b1) (.bool b2)).run P w= .ok (b1==b2) w:=by
   have gen: ∀d,(Bp (d+1) t (.bool b1) (.bool b2)).run P w= .ok (b1==b2) w:=fun d=>by simp[Bp,AN ht]
   exact gen 9999
  split at hk
  ·refine .same hr.sim (v:= .bool (b1==b2)) ?_ hk (.d (.bool _));simp[AY,hop,h0.bool,h1.bool,a1q (P:=P) (w:=w) (u:= .bool b1) rfl,binOp,heq]
  ·refine .same hr.sim (v:= .bool (!(b1==b2))) ?_ hk (.d (.bool _));simp[AY,hop,h0.bool,h1.bool,a1q (P:=P) (w:=w) (u:= .bool b1) rfl,binOp,heq]
  ·exact hk.elim
 ·exact hk.elim
theorem g7l {op:UnOp}{t:AJ}{X:Aa}(hop:o.op= .unOp op t X)(hc:a0y P c o=AA io)(hk:a0a (std P A ro E) io st K)(hr:Rel E st a w S ρ):Yld P o a w S ρ st.h K:=by
 simp[a0y,hop,AC] at hc;obtain⟨x,hx,rfl⟩:=hc;have h0:=a0t hr.ts hx;simp only[a0a] at hk;split at hk
 ·rename_i e1;rw[e1] at h0;exact .same hr.sim (v:= .bool AF) (by simp[AY,hop,h0.bool,Bf]) hk (.d (.bool _))
 ·rename_i e1;rw[e1] at h0;exact .same hr.sim (v:= .bool AT) (by simp[AY,hop,h0.bool,Bf]) hk (.d (.bool _))
 ·rename_i k n e1;rw[e1] at h0;obtain⟨h1,hk⟩:(k.wrap (0-n.val)=0-n.val)/\_:=hk;exact .same hr.sim (v:= .int k (0-n.val)) (by simp only[AY,hop,h0.int,Bf,Aw,h1,Az,Ak,Aj]) hk (.d (.int k (.v (0-n.val))))
 ·exact hk.elim
theorem c6h {t:AJ}{k:AS}(h:d0m P t=AA k):P.underlying t=AA (.int k):=by
 simp[d0m,AC] at h;obtain⟨d,hd,h⟩:=h;split at h
 ·cases h;exact hd
 ·cases h
theorem e3m {s d:AJ}{X:Aa}(hop:o.op= .convert s d X)(hc:a0y P c o=AA io)(hk:a0a (std P A ro E) io st K)(hr:Rel E st a w S ρ):Yld P o a w S ρ st.h K:=by
 simp[a0y,hop,AC] at hc;obtain⟨⟨k0,hs⟩,k,hd,x,hx,rfl⟩:=hc;have h0:=a0t hr.ts hx;have hs:=c6h hs;have hd:=c6h hd;simp only[a0a] at hk;split at hk
 ·rename_i k1 n e1;rw[e1] at h0;refine .same hr.sim (v:= .int k (k.wrap n.val)) ?_ hk (.d (.int k (.v (k.wrap n.val))));simp[AY,hop,h0.int,convert,AN hs,AN hd,Conv.intToInt]
 ·exact hk.elim
theorem e1j {f:A8}{X Y:Array Aa}(hop:o.op= .makeFunc (.func f) X Y)(hc:a0y P c o=AA io)(hk:a0a (std P A ro E) io st K)(hr:Rel E st a w S ρ):Yld P o a w S ρ st.h K:=by simp[a0y,hop,AC] at hc;obtain⟨x,hx,y,hy,rfl⟩:=hc;have h0:=c9w hr.ts hx;have h1:=c9w hr.ts hy;exact .same hr.sim (v:= .func (.func f) (X.map a.eval) (Y.map a.eval)) (by simp[AY,hop,Instr.makeFunc]) hk (.fn f _ _ _ _ h0.1 h0.2 h1.1 h1.2)
theorem b7q {t:AJ}{i:Nat}{f:Field}(h:b5w P t i=AA f): ∃fs,P.underlying t=AA (.struct fs)/\fs[i]? =AA f:=by
 simp[b5w,AC] at h;obtain⟨d,hd,h⟩:=h;split at h
 ·exact⟨_,hd,h⟩
 ·cases h
theorem a1s {t:AJ}{n:Nat}(h:a1x P t=AA n):0<n/\ ∀w,(sizeOf t).run P w= .ok n w:=by simp[a1x,AC] at h;obtain⟨hm,h0⟩:=h;simp[b1y] at hm;obtain⟨i,hi,rfl⟩:=hm;exact⟨by omega,fun w=>by simp[sizeOf,A4,hi]⟩
theorem d9h {t:AJ}{X:Aa}{i:Nat}(hop:o.op= .fieldAddr t X i)(hc:a0y P c o=AA io)(hk:a0a (std P A ro E) io st K)(hr:Rel E st a w S ρ):Yld P o a w S ρ st.h K:=by
 simp[a0y,hop,AC] at hc;obtain⟨f,hf,⟨n,hn⟩,x,hx,rfl⟩:=hc;obtain⟨fs,hu,hfs⟩:=b7q hf;obtain⟨hn0,hsz⟩:=a1s hn;have h0:=a0t hr.ts hx;simp only[a0a] at hk;have run: ∀pa:BJ,a.eval X= .pointer (AA pa)->(AY a.eval o).run P w= .ok (.value (.pointer (AA (pa.add f.offset)))) w:=by
  intro pa hp;have: ¬n=0:=by omega
  simp[AY,hop,Instr.fieldAt,AN hu,hfs,hp,Ap,fieldPlace,hsz,this]
 revert hk h0 run;generalize opd st.ts x=p;generalize a.eval X=v;intro hk h0 run;cases h0 with
 |ptr l off b C hρ=>exact .same hr.sim (by rw[run _ rfl,a1n]) hk (.ptr l (off+f.offset) b C hρ)
 |aptr l sz i off b C hρ=>exact .same hr.sim (by rw[run _ rfl,a1n,BC]) hk (.aptr l sz i (off+f.offset) b C hρ)
 |dptr row off b base g hb hv hrr=>exact .same hr.sim (by rw[run _ rfl,a1n,BC]) hk (.dptr row (off+f.offset) b base g hb hv hrr)
 |_=>exact hk.elim
theorem d7k {t:AJ}{X:Aa}{i:Nat}(hop:o.op= .field t X i)(hc:a0y P c o=AA io)(hk:a0a (std P A ro E) io st K)(hr:Rel E st a w S ρ):Yld P o a w S ρ st.h K:=by
 simp[a0y,hop,AC] at hc;obtain⟨f,hf,ag,hag,x,hx,rfl⟩:=hc;obtain⟨fs,hu,hfs⟩:=b7q hf;have h0:=a0t hr.ts hx;simp only[a0a] at hk;split at hk
 ·rename_i cs e1;rw[e1] at h0;cases h:a.eval X with
  |agg vs=>
   rw[h] at h0;cases h0 with
   |agg _ _ hl hv=>
    obtain⟨g1,g2⟩:=d5w (w:=w) hag;cases ag with
    |none=>
     simp only[a0i] at hk;split at hk
     ·rename_i y hy;have hlt:=(AB.1 hy).1;have hlt':f.offset<vs.size:=by omega
      refine .same hr.sim (v:=vs[f.offset]) ?_ hk (hv _ y _ hy (by simp[hlt']));simp[AY,hop,h,Bg,AN hu,hfs,asAgg,part,g1,hlt']
     ·exact hk.elim
    |some n=>
     simp only at hk;split at hk
     ·rename_i cc hcut;obtain⟨hl2,hget⟩:=c0t _ _ _ _ hcut;have hle:n=0\/f.offset+n<=vs.size:=by
       by_cases hn:n=0
       ·exact .inl hn
       ·right;have h3:=hget (n-1) (by omega);rw[Au (by omega)] at h3;have:=(AB.1 h3.symm).1;omega
      refine .same hr.sim (v:= .agg (vs.extract f.offset (f.offset+n))) ?_ hk (.agg _ _ (by simp;omega) fun i y v hy hv'=> ?_)
      ·simp[AY,hop,h,Bg,AN hu,hfs,asAgg,part,g1,g2 n rfl]
      ·have hi:i<n:=by have:=(AB.1 hy).1;omega
       rw[hget i hi] at hy;rw[Array.getElem?_extract] at hv';split at hv'
       ·exact hv _ y v hy hv'
       ·cases hv'
     ·exact hk.elim
  |_=>rw[h] at h0;cases h0
 ·exact hk.elim
theorem c4n {X:Aa}{i:Nat}(hop:o.op= .extract X i){x:a0h}(hx:a0g X=AA x)(hk:a0a (std P A ro E) (.extractF x i) st K)(hr:Rel E st a w S ρ):Yld P o a w S ρ st.h K:=by
 have h0:=a0t hr.ts hx;simp only[a0a,a0i] at hk;split at hk
 ·rename_i cs e1;rw[e1] at h0;cases h:a.eval X with
  |tuple vs=>
   rw[h] at h0;cases h0 with
   |tuple _ _ hl hv=>
    have run: ∀{y:AV},cs[i]? =AA y-> ∃hlt:i<vs.size,(AY a.eval o).run P w= .ok (.value vs[i]) w/\VR w S ρ y vs[i]:=fun {y} hy=>by
     have hlt:=(AB.1 hy).1;have hlt':i<vs.size:=by omega
     refine⟨hlt',?_,hv _ y _ hy (by simp[hlt'])⟩;simp[AY,hop,h,Ba,hlt']
    split at hk
    ·rename_i ys hy;obtain⟨hlt,hrun,hvr⟩:=run hy;generalize vs[i]=u at hrun hvr;cases hvr with
     |agg _ us hl hvs=>obtain⟨xs',h',S',hk,k,hl',hv'⟩:=a5l (vs:=us.toList) hr.sim (by simpa using hl) (fun i x v hx hu=>hvs i x v hx (by simpa using hu)) hk;exact⟨_,_,_,_,[],S',ρ,.inl hrun,hk,k.chg,.agg _ us (by simpa using hl') fun i x v hx hu=>hv' i x v hx (by simpa using hu)⟩
    ·rename_i l hy;obtain⟨hlt,hrun,hvr⟩:=run hy;obtain⟨x',h',S',hk,k,hv'⟩:=b2b hr.sim hvr hk;exact⟨_,_,_,_,[],S',ρ,.inl hrun,hk,k.chg,hv'⟩
    ·rename_i y _ _ hy;obtain⟨hlt,hrun,hvr⟩:=run hy;obtain⟨x',h',S',hk,k,hv'⟩:=b0b hr.sim hvr hk;exact⟨_,_,_,_,[],S',ρ,.inl hrun,hk,k.chg,hv'⟩
    ·exact hk.elim
  |_=>rw[h] at h0;cases h0
 ·exact hk.elim
theorem c8n {X:Aa}{i:Nat}(hop:o.op= .extract X i){x:a0h}(hx:a0g X=AA x)(hk:a0a (std P A ro E) (.extract x i) st K)(hr:Rel E st a w S ρ):Yld P o a w S ρ st.h K:=by
 have h0:=a0t hr.ts hx;simp only[a0a,a0i] at hk;split at hk
 ·rename_i cs e1;rw[e1] at h0;cases h:a.eval X with
  |tuple vs=>
   rw[h] at h0;cases h0 with
   |tuple _ _ hl hv=>
    split at hk
    ·rename_i y hy;have hlt:=(AB.1 hy).1;have hlt':i<vs.size:=by omega
     refine .same hr.sim (v:=vs[i]) ?_ hk (hv _ y _ hy (by simp[hlt']));simp[AY,hop,h,Ba,hlt']
    ·exact hk.elim
  |_=>rw[h] at h0;cases h0
 ·exact hk.elim
theorem a6l {x:AV}{v:AE}{K:IX->Prop}(h:VR w S ρ x v)(hk:a9r x K): ∃n:IX,v= .int .i64 n.val/\K n:=by
 unfold a9r at hk;split at hk
 ·exact⟨_,h.int,hk⟩
 ·exact hk.elim
theorem a0o (n:IX):nat (std P A ro E) n=n.val.toNat:=by cases n<;>rfl
theorem d6m {t e:AJ}{X I:Aa}(hop:o.op= .indexAddr t X I)(hu:P.underlying t=AA (.slice e)){sz:Nat}(hsz:a1x P e=AA sz){x i:a0h}(hx:a0g X=AA x)(hi:a0g I=AA i)
 (hk:a0a (std P A ro E) (.iaddr sz x i) st K) (hr:Rel E st a w S ρ):Yld P o a w S ρ st.h K:=by
 obtain⟨hn0,hszr⟩:=a1s hsz;have h0:=a0t hr.ts hx;have h1:=a0t hr.ts hi;simp only[a0a] at hk;obtain⟨n,hn,hk⟩:=a6l h1 hk;have run: ∀(pa:BJ) (len cap:Nat),a.eval X= .slice (AA pa) len cap->0<=n.val->n.val<len->(AY a.eval o).run P w= .ok (.value (.pointer (AA (pa.add (n.val.toNat*sz))))) w:=by intro pa len cap hp h2 h3;simp[AY,hop,BM,hn,Be,hp,AN hu,h2,h3,hszr]
 revert hk h0 run;generalize opd st.ts x=p;generalize a.eval X=v;intro h0 hk run;unfold a2l at hk;have data: ∀{sz' m:Nat} {e:Nat->List DV},DVR w S (.sl sz' m e) v->sz=sz'->0<=n.val->n.val<m->K (.dptr (e n.val.toNat) 0) st.h []->Yld P o a w S ρ st.h K:=by
  intro sz' m e hd hs h2 h3 hk;subst hs;cases hd with
  |sl0 sz e a cap=>omega
  |sl _ _ _ b off cap f hb hc hl hv hrr=>
   have hi:n.val.toNat<m:=by omega
   refine .same hr.sim (by rw[run _ _ _ rfl h2 h3,a1n]) hk ?_;have:=VR.dptr (w:=w) (S:=S) (ρ:=ρ) (e n.val.toNat) 0 b (off+n.val.toNat*sz) (f n.val.toNat) (hb (by omega)) (fun j hj=>hv _ hi j (by rw[hl _ hi] at hj;exact hj)) (hrr _ hi);simpa using this
 split at hk
 ·rename_i l sz' s m f;split at hk
  ·rename_i hs;have hs:=AG hs;subst hs;obtain⟨⟨h2,h3⟩,hk⟩:(0<=n.val/\n.val<m)/\_:=hk;rw[a3n,a0o] at hk;cases h0 with
   |msl _ _ _ _ _ ob C cap aa hρ hc hcap ha=>
    have hcp:0<cap:=by rw[hcap];split<;>omega
    have hb: ∃b,ob=AA b:=by
     cases ob with
     |some b=>exact⟨b,rfl⟩
     |none=>obtain⟨oo,_,h5⟩:=hr.sim.obj l _ C hρ;have:C=0:=h5.1;omega
    obtain⟨b,rfl⟩:=hb;have e1:=ha hcp;subst e1;refine .same hr.sim (by rw[run _ _ _ rfl h2 h3,a1n]) hk ?_;have:=VR.aptr (w:=w) (S:=S) (ρ:=ρ) l sz (s.getD 0+n.val.toNat) 0 b C hρ;simpa [AX] using this
  ·exact hk.elim
 ·split at hk
  ·rename_i hs;obtain⟨⟨h2,h3⟩,hk⟩:(0<=n.val/\n.val<_)/\_:=hk;rw[a0o] at hk;cases h0 with
   |d hd=>exact data hd (AG hs) h2 h3 hk
  ·exact hk.elim
 ·split at hk
  ·rename_i hs;obtain⟨⟨h2,h3⟩,hk⟩:(0<=n.val/\n.val<_)/\_:=hk;rw[a0o] at hk;cases h0 with
   |dfs _ _ _ _ hd=>exact data hd (AG hs) h2 h3 hk
  ·exact hk.elim
 ·exact hk.elim
theorem d1w {t e:AJ}{X I:Aa}{n:Nat}(hop:o.op= .indexAddr t X I)(hu:P.underlying t=AA (.array n e)){sz:Nat}(hsz:a1x P e=AA sz){x i:a0h}(hx:a0g X=AA x)(hi:a0g I=AA i)
 (hk:a0a (std P A ro E) (.iaddrA n sz x i) st K) (hr:Rel E st a w S ρ):Yld P o a w S ρ st.h K:=by
 obtain⟨hn0,hszr⟩:=a1s hsz;have h0:=a0t hr.ts hx;have h1:=a0t hr.ts hi;simp only[a0a] at hk;obtain⟨m,hm,hk⟩:=a6l h1 hk;split at hk
 ·rename_i l off e1;split at hk
  ·rename_i k;split at hk
   ·rename_i hlt;simp only[An,beq'_eq,beq_iff_eq] at hlt;obtain⟨h2,h3⟩:=hlt;have h2:k.toNat+1<=n:=by simpa [BK] using h2
    rw[e1] at h0;cases h:a.eval X with
    |pointer pa=>
     rw[h] at h0;cases h0 with
     |ptr _ _ b C hρ=>
      refine .same hr.sim (v:= .pointer (AA ⟨b,off+k.toNat*sz,AD⟩)) ?_ hk (.ptr l _ b C hρ);have h4:0<=k:=by rw[<-h3];exact BV _
      have h5:k<n:=by omega
      simp[AY,hop,BM,hm,Be,h,AN hu,Ap,IX.val,h4,h5,hszr,a1n]
    |_=>rw[h] at h0;cases h0
   ·exact hk.elim
  ·rename_i k;obtain⟨⟨h4,h5⟩,hk⟩:=hk;have h4:0<=k:=h4;have h5:k<n:=h5;rw[e1] at h0;cases h:a.eval X with
   |pointer pa=>
    rw[h] at h0;cases h0 with
    |ptr _ _ b C hρ=>refine .same hr.sim (v:= .pointer (AA ⟨b,off+k.toNat*sz,AD⟩)) ?_ hk (.ptr l _ b C hρ);simp[AY,hop,BM,hm,Be,h,AN hu,Ap,IX.val,h4,h5,hszr,a1n]
   |_=>rw[h] at h0;cases h0
 ·exact hk.elim
end
section
variable {P:AW} {A:Ann} {ro:Option Nat} {E:Ent} {c:Nat} {o:BN} {io:IOp} {st:St} {K:AV->List a0f->List Nat->Prop}
 {a:Bm} {w:AK} {S:Nat->Prop} {ρ:Rho} {h:List a0f}
def Els (w:AK)(S:Nat->Prop)(sz n:Nat)(e:Nat->List DV)(a:Option BJ)(cap:Nat):Prop:=
 n=0\/ ∃b off,a=AA ⟨b,off,AD⟩/\n<=cap/\ ∀i,i<n->(e i).length=sz/\
  ∀j,j<sz-> ∃u,w.cell? ⟨b,off+i*sz+j,AD⟩=AA u/\ ∀x,(e i)[j]? =AA x->DVR w S x u
theorem b4z {x:AV}{v:AE}{K:Nat->Nat->(Nat->List DV)->Prop}(hs:Sim w S ρ h)(h0:VR w S ρ x v)(hk:b3s (std P A ro E) h x K):
 ∃sz n e a cap,K sz n e/\v= .slice a n cap/\Els w S sz n e a cap:=by
 have data: ∀{sz n:Nat} {e:Nat->List DV} {v:AE},DVR w S (.sl sz n e) v-> ∃a cap,v= .slice a n cap/\Els w S sz n e a cap:=by
  intro sz n e v hd;cases hd with
  |sl0 sz e a cap=>exact⟨a,cap,rfl,.inl rfl⟩
  |sl sz n e b off cap f hb hc hl hv hr=>exact⟨_,cap,rfl,.inr ⟨b,off,rfl,hc,fun i hi=>⟨hl i hi,fun j hj=>⟨f i j,hv i hi j hj,fun x hx=>hr i hi j x hx⟩⟩⟩⟩
 unfold b3s at hk;split at hk
 ·cases h0 with
  |d hd=>obtain⟨a,cap,h1,h2⟩:=data hd;exact⟨_,_,_,a,cap,hk,h1,h2⟩
 ·cases h0 with
  |dfs sz n e a hd=>obtain⟨a,cap,h1,h2⟩:=data hd;exact⟨_,_,_,a,cap,hk,h1,h2⟩
 ·rename_i l sz s n f;cases h0 with
  |msl _ _ _ _ _ ob C cap aa hρ hc hcap ha=>
   obtain⟨oo,h1,h2⟩:=hs.obj l ob C hρ;simp only[a0i,h1] at hk;have main: ∀{sz' m:Nat} {e:Nat->List DV},(oo= .arr sz' m e\/oo= .frz sz' m e)->AH sz sz'=AT->s.getD 0+n<=m->K sz n (fun j=>e (s.getD 0+j))->
    ∃sz1 n1 e1 a' cap',K sz1 n1 e1/\Value.slice aa n cap= .slice a' n1 cap'/\Els w S sz1 n1 e1 a' cap':=by
    intro sz' m e ho hsz hle hk;have hsz:=AG hsz;subst hsz;refine⟨sz,n,_,aa,cap,hk,rfl,?_⟩;by_cases hn:n=0
    ·exact .inl hn
    ·obtain⟨b,vs,ty,fr,rfl,h3,h4,h5,h6⟩:=a8u ho h2 (by omega);have hcp:0<cap:=by rw[hcap];split<;>omega
     refine .inr ⟨b,s.getD 0*sz,ha hcp,by rw[hcap];split<;>omega,fun i hi=> ?_⟩;have hrow:=b1w h3 h4 h5 h6 (i:=s.getD 0+i) (by omega);refine⟨hrow.1,fun j hj=>⟨_,?_,(hrow.2 j hj).2⟩⟩;rw[<-(hrow.2 j hj).1,AX]
   split at hk
   ·simp only[a3n,a6g] at hk;rename_i heq;cases heq;split at hk
    ·rename_i hsz;obtain⟨hle,hk⟩:(s.getD 0+n<=_)/\_:=hk;exact main (.inl rfl) hsz hle hk
    ·exact hk.elim
   ·simp only[a3n,a6g] at hk;rename_i heq;cases heq;split at hk
    ·rename_i hsz;obtain⟨hle,hk⟩:(s.getD 0+n<=_)/\_:=hk;exact main (.inr rfl) hsz hle hk
    ·exact hk.elim
   ·exact hk.elim
 ·exact hk.elim
theorem a1y {sz n:Nat}{e:Nat->List DV}{aa:Option BJ}{cap:Nat}(he:Els w S sz n e aa cap)(ha:n=0-> ∀x,aa=AA x->True):
 ∃cs:Array AE,(AZ sz n (.slice aa n cap)).run P w= .ok cs w/\cs.size=n*sz/\(∀i,i<n->(e i).length=sz)/\
  ∀i,i<n-> ∀(j:Nat) (x:DV) (u:AE),(e i)[j]? =AA x->cs[i*sz+j]? =AA u->DVR w S x u:=by
 rcases he with hn|⟨b,off,rfl,hc,h1⟩
 ·subst hn;refine⟨#[],?_,by simp,fun i hi=>by omega,fun i hi=>by omega⟩;cases aa with
  |none=>simp[AZ]
  |some x=>simp[AZ,loadCells,Bo]
 ·by_cases hsz:sz=0
  ·subst hsz;refine⟨#[],?_,by simp,fun i hi=>(h1 i hi).1,fun i hi j x u hx hu=>by simp at hu⟩;simp[AZ,loadCells,Bo]
  ·have hex: ∀k,∃u,k<n*sz->w.cell? ⟨b,off+k,AD⟩=AA u/\ ∀x,(e (k/sz))[k % sz]? =AA x->DVR w S x u:=by
    intro k;by_cases hk:k<n*sz
    ·have hi:k/sz<n:=(Nat.div_lt_iff_lt_mul (by omega)).2 hk;have hj:k % sz<sz:=Nat.mod_lt _ (by omega);obtain⟨u,hu,hr⟩:=(h1 _ hi).2 _ hj;refine⟨u,fun _=>⟨?_,hr⟩⟩;rw[<-hu,BC];congr 3;rw[Bi];exact (Nat.div_add_mod k sz).symm
    ·exact⟨Av,fun h=>absurd h hk⟩
   have hch:=fun k=>(hex k).choose_spec;have hrun:=Bn (P:=P) w ⟨b,off,AD⟩ (n*sz) (fun k=>(hex k).choose) (fun k hk=>by rw[a1n];exact (hch k hk).1);refine⟨_,by simpa [AZ] using hrun,by simp,fun i hi=>(h1 i hi).1,fun i hi j x u hx hu=> ?_⟩;have hj:j<sz:=by have:=(AB.1 hx).1;rw[(h1 i hi).1] at this;exact this
   have hlt:i*sz+j<n*sz:=by have:(i+1)*sz<=n*sz:=AO _ (by omega);rw[AX] at this;omega
   have h3:=hch (i*sz+j) hlt;simp only[Ae,AR,BR hlt,Option.map_some,Option.some.injEq] at hu;subst hu;refine h3.2 x ?_;rw[Bi,Nat.mul_add_div (by omega),Nat.mul_add_mod,Nat.div_eq_of_lt hj,BY hj,A3];exact hx
theorem a2r {zs:List DV}{z:AE}(hd:d2l z=AA zs){sz:Nat}(hsz:zs.length=sz)(n:Nat)(S:Nat->Prop)(w:AK):
 ∀i,i<n-> ∀(j:Nat) (x:DV) (u:AE),zs[j]? =AA x->((A5 (n*sz)).map (z.cells[· % z.cells.size]!))[i*sz+j]? =AA u->DVR w S x u:=by
 intro i hi j x u hx hu;obtain⟨h1,h2⟩:=a4y hd;have hj:j<sz:=by rw[<-hsz];exact (AB.1 hx).1
 have hlt:i*sz+j<n*sz:=by have:(i+1)*sz<=n*sz:=AO _ (by omega);rw[AX] at this;omega
 have hcs:z.cells.size=sz:=by rw[<-h1,hsz]
 simp[hlt,hcs] at hu;rw[BY hj] at hu;exact h2 w S j x u hx (by rw[<-hu];simp[hcs,hj])
theorem a0n {t e:AJ}(h:a2a P t=AA e):P.underlying t=AA (.slice e):=by
 simp[a2a,AC] at h;obtain⟨d,hd,h⟩:=h;split at h
 ·cases h;exact hd
 ·cases h
theorem b4v {t:AJ}{b:Nat}(h:a5j P t=AA b): ∃i,P.info? t=AA i/\i.bytes=b:=by simpa [a5j] using h
theorem b3n {n:Int}(h0:0<=n)(h1:n<=9223372036854775807):IntKind.i64.wrap n=n:=by unfold IntKind.wrap;simp[IntKind.bits,IntKind.signed];omega
theorem b8a {t:AJ}{N M:Aa}(hop:o.op= .makeSlice t N M)(hNM:a.eval N=a.eval M){e:AJ}(he:P.underlying t=AA (.slice e)){sz b:Nat}{zs:List DV}(hsz:a1x P e=AA sz)
 (hz:a5d P e=AA zs) (hb:a5j P e=AA b) (hzl:zs.length=sz) (hb':b<=250) {x:a0h} (hx:a0g N=AA x)
 (hk:a0a (std P A ro E) (.mkslice sz zs b x) st K) (hr:Rel E st a w S ρ):Yld P o a w S ρ st.h K:=by
 obtain⟨hn0,hszr⟩:=a1s hsz;obtain⟨i,z,hi,hz0,hd⟩:=a5f hz;obtain⟨i',hi',hbi⟩:=b4v hb;rw[hi] at hi';cases hi';have h0:=a0t hr.ts hx;simp only[a0a] at hk;obtain⟨n,hn,hk⟩:=a6l h0 hk;obtain⟨h1,h2,hk⟩:(0<=n.val)/\(n.val<=(big:Nat))/\_:=hk;rw[a0o,a0u,a0r] at hk;simp only[big] at h2;obtain⟨hl,hv⟩:=a4y hd;have hfresh:ρ st.h.length=AD:=hr.sim.fresh (AM _);have hw:IntKind.i64.wrap n.val=n.val:=b3n h1 (by omega);have hnn:((n.val.toNat:Nat):Int)=n.val:=Int.toNat_of_nonneg h1;have hbn:((b:Nat):Int)*n.val<=281474976710656:=by
  have hb0:(0:Int)<=(b:Int):=BV _;have hb1:(b:Int)<=250:=by omega
  have h3:=Int.mul_le_mul_of_nonneg_right hb1 h1;omega
 refine⟨.slice (AA ⟨w.heap.size,0,AD⟩) n.val.toNat n.val.toNat,{w with heap:=w.heap.push (.cells ((A5 (n.val.toNat*sz)).map (z.cells[· % z.cells.size]!)) e)},_,_,[],S,_,.inl ?_,hk,
  Chg.new hr.sim hfresh (.cells ((A5 (n.val.toNat*sz)).map (z.cells[· % z.cells.size]!)) e) (.arr sz n.val.toNat ((std P A ro E).rep n.val.toNat zs)) n.val.toNat
   (fun w' hw'=>⟨(A5 (n.val.toNat*sz)).map (z.cells[· % z.cells.size]!),e,by rw[hw'];simp,by simp,AM _,fun i hi=>by rw[show (std P A ro E).rep n.val.toNat zs i=zs from if_pos hi];exact⟨hzl,fun j y u hy hu=>a2r hd hzl _ S w' i hi j y u hy hu⟩⟩),
  .msl _ _ AD _ AF (AA w.heap.size) n.val.toNat _ _ (by simp) (by simp) (by simp) (by simp)⟩
 have hti:(A4 e).run P w= .ok i w:=by simp[A4,hi]
 simp only[AY,hop,<-hNM,hn,Instr.makeSlice,Az,AN he,Aj,asInt,Be,Ak,hti,hw,hbi];rw[if_neg (by
  simp only[Bool.or_eq_true,decide_eq_true_eq];omega)]
 simp only[Aj,Az,run_askRoom,hszr];have r0: ∀f:Nat->AE,(A5 0).map f= #[]:=fun f=>by apply Array.ext';simp
 by_cases hm:n.val.toNat*sz=0
 ·simp[hm,Bb,r0]
 ·simp[hm,Bb,a3m hi hz0]
end
theorem Chg.world {w w1 w2:AK}{S S':Nat->Prop}{ρ ρ':Rho}{h h':List a0f}{pg:List Nat}(k:Chg w S ρ h w1 S' ρ' h' pg)(hh:w2.heap=w1.heap)(h1:w2.os=w1.os)(h2:w2.tape=w1.tape/\w1.drawn<=w2.drawn)(h3:w2.output=w1.output):
 Chg w S ρ h w2 S' ρ' h' pg where
 sim:=⟨fun b hb=>by rw[hh];exact k.sim.sblk b hb,fun l ob C hl=>by
  obtain⟨o,h4,h5⟩:=k.sim.obj l ob C hl;refine⟨o,h4,?_⟩;cases ob with
  |none=>exact h5
  |some b=>exact a0z.mono (fun _ h=>h) (fun _ _=>by rw[hh]) (fun _ _ h=>h) (by rw[hh]) h5,k.sim.inj,k.sim.own⟩
 len:=k.len
 ext:=⟨h1.trans k.ext.os,k3o k.ext.tape h2,h3.trans k.ext.output,by rw[hh];exact k.ext.size,k.ext.mono,fun b hb=>by rw[hh];exact k.ext.cell b hb,k.ext.news,fun b hb hn=>by rw[hh];exact k.ext.frame b hb hn,k.ext.owned⟩
 keep:=k.keep
 low:=k.low
section
variable {P:AW} {A:Ann} {ro:Option Nat} {E:Ent} {c:Nat} {o:BN} {io:IOp} {st:St} {K:AV->List a0f->List Nat->Prop}
 {a:Bm} {w:AK} {S:Nat->Prop} {ρ:Rho} {h:List a0f}
theorem getD_some (X:Array AE)(i:Nat)(h:i<X.size):X[i]? =AA (X.getD i Av):=by simp[h]
theorem c6q (need:Nat): ∀(r c:Nat),BW need r c<=max c (2*need+192):=by
 intro r
 induction r with
 |zero=>intro c;simp[BW];omega
 |succ r ih=>
  intro c;unfold BW;split
  ·omega
  ·have:=ih (c+(c+768)/4);omega
theorem b1u {need cap:Nat}(h:cap<need):Am need cap<=2*need+192:=by
 unfold Am;split
 ·omega
 ·split
  ·omega
  ·have:=c6q need 4 cap;omega
theorem a6j {t u e e':AJ}{sz b:Nat}{base a2:Option BJ}{n cap m cap2:Nat}{old new:Array AE}{zs:List DV}
 (ht:P.underlying t=AA (.slice e)) (hu:P.underlying u=AA (.slice e')) (hsz:a1x P e=AA sz) (hb:a5j P e=AA b) (hb':b<=250) (hz:a5d P e=AA zs)
 (hroom:cap<n+m) (hbig:n+m<=big)
 (hold:(AZ sz n (.slice base n cap)).run P w.drew= .ok old w.drew)
 (hnew:(AZ sz m (.slice a2 m cap2)).run P w.drew= .ok new w.drew):
 ∃(newCap:Nat) (rest:Array AE),n+m<=newCap/\rest.size=(newCap-(n+m))*zs.length/\
  (Ad #[t,u] t #[.slice base n cap,.slice a2 m cap2]).run P w= .ok (.slice (AA ⟨w.heap.size,0,AD⟩) (n+m) newCap) (w.drew.alloc (.cells (old++(new++rest)) e)):=by
 obtain⟨hn0,hszr⟩:=a1s hsz;obtain⟨i,z,hi,hz0,hd⟩:=a5f hz;obtain⟨i',hi',hbi⟩:=b4v hb;rw[hi] at hi';cases hi';have hti: ∀w:AK,(A4 e).run P w= .ok i w:=fun w=>by simp[A4,hi]
 simp only[big] at hbig;have hcap:=b1u hroom;have hmul:Am (n+m) cap*b<=281474976710656:=by have h1:Am (n+m) cap*b<=(2*(n+m)+192)*250:=Nat.mul_le_mul hcap hb';omega
 refine⟨(A6 (n+m) cap e).cut (w.tape w.drawn (.appendCap (n+m) cap e)),BP z.cells ((A6 (n+m) cap e).cut (w.tape w.drawn (.appendCap (n+m) cap e))-(n+m)),?_,?_,?_⟩
 ·simp only[Bu];omega
 ·obtain⟨h1,_⟩:=a4y hd;simp[BP,h1]
 ·have hf: ∀k:Nat,(A6 (n+m) cap e).forced=AF:=fun _=>rfl;have h1: ¬n+m<=cap:=by omega
  have h2: ¬((9223372036854775807:Int)<(n:Int)+(m:Int)/\b=0):=by omega
  have h3: ¬Am (n+m) cap*b>281474976710656:=by omega
  simp[Ad,AN ht,AN hu,hszr,BH,hti,hbi,h1,h2,h3,hf 0,hold,hnew,a3m hi hz0,Bb]
theorem a5o {t u e e':AJ}{sz:Nat}{b off:Nat}{a2:Option BJ}{n cap m cap2:Nat}{new vs:Array AE}{ty:AJ}
 (ht:P.underlying t=AA (.slice e)) (hu:P.underlying u=AA (.slice e')) (hsz:a1x P e=AA sz)
 (hroom:n+m<=cap) (hnew:(AZ sz m (.slice a2 m cap2)).run P w= .ok new w) (hb:w.heap[b]? =AA (.cells vs ty (0,0))) (hl:off+n*sz+new.size<=vs.size)
 (h1: ∀v,v∈new.toList->v.oneCell'=AT):
 (Ad #[t,u] t #[.slice (AA ⟨b,off,AD⟩) n cap,.slice a2 m cap2]).run P w= .ok (.slice (AA ⟨b,off,AD⟩) (n+m) cap)
   (w.setRow b (vs.toList.take (off+n*sz)++new.toList++vs.toList.drop (off+n*sz+new.toList.length)).toArray):=by
 obtain⟨hn0,hszr⟩:=a1s hsz;have hst:=Bd (P:=P) b (off+n*sz) ty new.toList 0 vs w hb (by simpa using hl) h1;simp only[A3] at hst;simp[Ad,AN ht,AN hu,hszr,BH,hroom,hnew,a1n,hst]
theorem a5h {t u e e':AJ}{sz:Nat}{a2:Option BJ}{cap2:Nat}{new:Array AE}
 (ht:P.underlying t=AA (.slice e)) (hu:P.underlying u=AA (.slice e')) (hsz:a1x P e=AA sz)
 (hnew:(AZ sz 0 (.slice a2 0 cap2)).run P w= .ok new w):
 (Ad #[t,u] t #[.slice AD 0 0,.slice a2 0 cap2]).run P w= .ok (.slice AD 0 0) w:=by
 obtain⟨hn0,hszr⟩:=a1s hsz;simp[Ad,AN ht,AN hu,hszr,BH,hnew]
theorem Els.drew {sz n:Nat}{e:Nat->List DV}{aa:Option BJ}{cap:Nat}(h:Els w S sz n e aa cap):Els w.drew S sz n e aa cap:=by
 rcases h with h|⟨b,off,h1,h2,h3⟩
 ·exact .inl h
 ·refine .inr ⟨b,off,h1,h2,fun i hi=>⟨(h3 i hi).1,fun j hj=> ?_⟩⟩;obtain⟨u,h4,h5⟩:=(h3 i hi).2 j hj;exact⟨u,h4,fun x hx=>DVR.mono (w:=w) (w':=w.drew) (fun _ h=>h) (fun _ _=>rfl) (h5 x hx)⟩
theorem b0z {sz n m newCap:Nat}{e e2:Nat->List DV}{old new rest:Array AE}{zl:Nat}(hz:zl=sz)(hn:old.size=n*sz)(hm:new.size=m*sz)(hr:rest.size=(newCap-(n+m))*zl)(hle:n+m<=newCap)
 (ho:(∀i,i<n->(e i).length=sz)/\ ∀i,i<n-> ∀(j:Nat) (x:DV) (u:AE),(e i)[j]? =AA x->old[i*sz+j]? =AA u->DVR w S x u)
 (hnw:(∀i,i<m->(e2 i).length=sz)/\ ∀i,i<m-> ∀(j:Nat) (x:DV) (u:AE),(e2 i)[j]? =AA x->new[i*sz+j]? =AA u->DVR w S x u):
 (old++(new++rest)).size=newCap*sz/\ ∀i,i<n+m->((std P A ro E).app n e e2 i).length=sz/\
   ∀(j:Nat) (x:DV) (u:AE),((std P A ro E).app n e e2 i)[j]? =AA x->(old++(new++rest))[i*sz+j]? =AA u->DVR w S x u:=by
 subst hz;refine⟨?_,fun i hi=> ?_⟩
 ·simp[hn,hm,hr,<-AX];congr 1;omega
 ·show (if i<n then e i else e2 (i-n)).length=zl/\ ∀(j:Nat) (x:DV) (u:AE),(if i<n then e i else e2 (i-n))[j]? =AA x->_;by_cases h1:i<n
  ·rw[if_pos h1];refine⟨ho.1 i h1,fun j x u hx hu=> ?_⟩;have hj:j<zl:=by have:=(AB.1 hx).1;rw[ho.1 i h1] at this;exact this
   have:(i+1)*zl<=n*zl:=AO _ (by omega);rw[AX] at this;rw[BI (by omega)] at hu;exact ho.2 i h1 j x u hx hu
  ·rw[if_neg h1];have h2:i-n<m:=by omega
   refine⟨hnw.1 _ h2,fun j x u hx hu=> ?_⟩;have hj:j<zl:=by have:=(AB.1 hx).1;rw[hnw.1 _ h2] at this;exact this
   have h3:(i-n+1)*zl<=m*zl:=AO _ (by omega);rw[AX] at h3;have h4:i*zl=n*zl+(i-n)*zl:=by rw[<-AX];congr 1;omega
   rw[Array.getElem?_append_right (by omega),BI (by omega)] at hu;rw[show i*zl+j-old.size=(i-n)*zl+j by omega] at hu;exact hnw.2 _ h2 j x u hx hu
theorem Els.zero {sz:Nat}{e:Nat->List DV}{aa:Option BJ}{cap:Nat}:Els w S sz 0 e aa cap:= .inl rfl
theorem a8z {t u e e':AJ}{sz b:Nat}{zs:List DV}{v v2:AE}{n cap m:Nat}{es es2:Nat->List DV}{base a2:Option BJ}{cap2:Nat}{mu:Bool}
 (hop: ∀r w',(Ad #[t,u] t #[v,v2]).run P w= .ok r w'->(AY a.eval o).run P w= .ok (.value r) w')
 (ht:P.underlying t=AA (.slice e)) (hu:P.underlying u=AA (.slice e')) (hsz:a1x P e=AA sz) (hb:a5j P e=AA b) (hb':b<=250) (hz:a5d P e=AA zs) (hzl:zs.length=sz)
 (hs:Sim w S ρ h) (hv:v= .slice base n cap) (hv2:v2= .slice a2 m cap2) (he:Els w S sz n es base cap) (he2:Els w S sz m es2 a2 cap2) (hroom:cap<n+m) (hbig:n+m<=big)
 (hk:if mu then K (.msl h.length sz AD (n+m) AF) (h++[.arr sz (n+m) ((std P A ro E).app n es es2)]) [] else K (.d (.sl sz (n+m) ((std P A ro E).app n es es2))) h []):
 Yld P o a w S ρ h K:=by
 subst hv hv2;obtain⟨old,hold,ho1,ho2⟩:=a1y (P:=P) he.drew (fun _ _ _=>trivial);obtain⟨new,hnew,hn1,hn2⟩:=a1y (P:=P) he2.drew (fun _ _ _=>trivial);obtain⟨newCap,rest,hle,hrs,hrun⟩:=a6j ht hu hsz hb hb' hz hroom hbig hold hnew;have hrows: ∀w':AK,(∀b,S b->w'.heap[b]? =w.heap[b]?)->_:=fun w' hw'=>b0z (P:=P) (A:=A) (ro:=ro) (E:=E) (w:=w') (S:=S) (sz:=sz) (newCap:=newCap) (rest:=rest) hzl ho1 hn1 hrs hle
  ⟨ho2.1,fun i hi j x u hx hu=>DVR.mono (w:=w.drew) (w':=w') (fun _ h=>h) hw' (ho2.2 i hi j x u hx hu)⟩ ⟨hn2.1,fun i hi j x u hx hu=>DVR.mono (w:=w.drew) (w':=w') (fun _ h=>h) hw' (hn2.2 i hi j x u hx hu)⟩
 have hpush: ∀w':AK,w'.heap=w.heap.push (.cells (old++(new++rest)) e)-> ∀b,S b->w'.heap[b]? =w.heap[b]? :=by intro w' hw' b hb;rw[hw',Ag,if_neg];have:=hs.sblk b hb;omega
 have hfresh:ρ h.length=AD:=hs.fresh (AM _);cases mu with
 |true=>simp only[if_true] at hk;have k:=Chg.new hs hfresh (.cells (old++(new++rest)) e) (.arr sz (n+m) ((std P A ro E).app n es es2)) newCap (fun w' hw'=>⟨_,e,by rw[hw'];simp,(hrows w' (hpush w' hw')).1,hle,(hrows w' (hpush w' hw')).2⟩);refine⟨_,_,_,_,[],S,_,.inl (hop _ _ hrun),hk,k.world (w2:=w.drew.alloc (.cells (old++(new++rest)) e)) rfl rfl ⟨rfl,Bk _⟩ rfl,?_⟩;exact .msl _ _ AD _ AF (AA w.heap.size) newCap _ _ (by simp) (by simpa using hle) (by simp) (by simp)
 |false=>
  simp only[Bool.false_eq_true,if_false] at hk;have k:=Chg.new hs hfresh (.cells (old++(new++rest)) e) (.arr sz (n+m) ((std P A ro E).app n es es2)) newCap (fun w' hw'=>⟨_,e,by rw[hw'];simp,(hrows w' (hpush w' hw')).1,hle,(hrows w' (hpush w' hw')).2⟩)
  let w2:AK:=w.drew.alloc (.cells (old++(new++rest)) e)
  have hh:w2.heap=w.heap.push (.cells (old++(new++rest)) e):=rfl;have hS': ∀b,S b->w2.heap[b]? =w.heap[b]? :=hpush w2 hh;have hlast:w2.heap[w.heap.size]? =AA (.cells (old++(new++rest)) e (0,0)):=by rw[hh];simp
  let S':Nat->Prop:=fun b=>S b\/b=w.heap.size
  have hold': ∀b,b<w.heap.size->w2.heap[b]? =w.heap[b]? :=fun b hb=>by rw[hh,Ag,if_neg (by omega)]
  obtain⟨hr1,hr2⟩:=hrows w2 hS';refine⟨_,w2,_,_,[],S',ρ,.inl (hop _ _ hrun),hk,⟨⟨fun b hb=> ?_,fun l ob C hl=> ?_,hs.inj,fun l b C ao hl hao hf=> ?_⟩,AM _,⟨rfl,⟨rfl,Bk _⟩,rfl,by rw[hh];simp,fun _ h=> .inl h,hS',fun b hb=> ?_,fun b hb _=>hold' b hb,fun l b C hl=> .inr ⟨l,C,hl⟩⟩,fun _ _ _ h=>h,fun _ _ _=>rfl⟩,.d ?_⟩
  ·rw[hh];simp;rcases hb with hb|hb
   ·have:=hs.sblk b hb;omega
   ·omega
  ·obtain⟨o',h1,h2⟩:=hs.obj l ob C hl;refine⟨o',h1,?_⟩;cases ob with
   |none=>exact h2
   |some b=>exact a0z.mono (fun _ h=> .inl h) hS' (fun _ _ h=>h) (hold' b (hs.blk hl)) h2
  ·intro hb;rcases hb with hb|hb
   ·exact hs.own l b C ao hl hao hf hb
   ·have:=hs.blk hl;omega
  ·rcases hb with hb|hb
   ·exact .inl hb
   ·exact .inr (.inl (by omega))
  ·refine .sl sz (n+m) _ w.heap.size 0 newCap (fun i j=>(old++(new++rest)).getD (i*sz+j) Av) (fun _=> .inr rfl) hle (fun i hi=>(hr2 i hi).1) (fun i hi j hj=> ?_) (fun i hi j x hx=> ?_)
   ·rw[cell?_of hlast,Bh];have:i*sz+j<(old++(new++rest)).size:=by rw[hr1];have:(i+1)*sz<=newCap*sz:=AO _ (by omega);rw[AX] at this;omega
    exact getD_some _ _ this
   ·have hj:j<sz:=by have:=(AB.1 hx).1;rw[(hr2 i hi).1] at this;exact this
    have:i*sz+j<(old++(new++rest)).size:=by rw[hr1];have:(i+1)*sz<=newCap*sz:=AO _ (by omega);rw[AX] at this;omega
    exact ((hr2 i hi).2 j x _ hx (getD_some _ _ this)).mono (fun _ h=> .inl h) (fun _ _=>rfl)
end
end Go.Vf
