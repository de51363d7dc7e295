/- The executor's sixth text. Conditions: none. -/
import Derived.OrdersIn
import Derived.KernelRfl
import Derived.Laws.Sem
import GoSem.ClaimKeys
import Derived.Laws.Cells
import Derived.Laws.CopyRow
import Derived.Laws.Rows
import Derived.Laws.Entries
import Derived.ChangeKeysEq
import Derived.RangeFuncCalls
import Derived.RangeFuncLeaves
open Option renaming some->AA,bind_eq_some_iff->AC,none->AD
open List renaming getElem?_eq_some_iff->AB,getElem?_append_left->AI,getElem?_append_right->AQ,getElem?_map->AS,getElem?_set_ne->AT,length_take->Aa,append_assoc->Ab,getElem?_toArray->Ad,getElem?_take_of_lt->Ag,length_append->Ah,range->Aq,getElem?_drop->Ar,getElem?_eq_getElem->At,getElem_of_mem->A8,getElem_mem->BB,replicate->BI,getElem?_set_self->BL,getElem?_range->BO,map_cons->BZ
open Go renaming Value->AE,TypeId->AJ,World->AK,run_underlying->AN,IntKind->AP,Program->AU,execOp->AX,Operand->AZ,undef->Au,BinOp->Ax,typeInfo->A2,loadVar->A5,FuncId->A6,MapEntry->BD,Addr->BG,Oper->BK,Deferred->BW,newRow->BY,run_storeCells_at->Ba,asIntOf->Bb,storeVar->Bi,Act->Bj,run_loadCells->Bk,loadCellsFrom->Bl,Code->Bp,isAgg->Bq
open Bool renaming false->AF,true->AR,and_eq_true->Am
open Nat renaming eq_of_beq_eq_true->AG,beq->AH,le_refl->AL,mul_le_mul_right->AO,add_mul->AW,le_trans->Ak,add_zero->Az,ble->A7,add_assoc->A9,blt->BH,lt_of_lt_of_le->BQ,mod_eq_of_lt->BV,zero_add->Be,mul_comm->Bf,mul_one->Bg,le_succ->Bh,min->Bs
open Pure renaming pure->AM
open Go.Builtin renaming firstCells->AY,append_->Ac,nextslicecap->Al,lenOf->BE,zeroCells->BM,growBy->BS
open BitVec renaming ofInt->Ae
open Array renaming getElem?_push->Af,getElem?_eq_some_iff->Ap,getElem?_eq_getElem->As,range->A3,eq_empty_of_size_eq_zero->BA,getD_eq_getD_getElem?->BC,getElem?_append_left->BF,length_toList->BN
open Go.Result renaming andThen_ok->Ai,andThen->BU
open Go.Sem renaming run_pure->Aj,run_bind->Ay
open Go.Op renaming intCmp->An,intArith->Av,unary->Bc,equalIn->Bm,intDiv->Bn
open Go.Instr renaming sureAddr->Ao,indexAt->BJ,extract->BX,field->Bd
open Ne renaming symm->Aw
open Go.Question renaming appendCap->A4,cut->Br
open Int renaming beq'->BP,natCast_nonneg->BR,tdiv->Bo
set_option linter.unusedSimpArgs false
set_option linter.unusedVariables false
namespace Go.Vf
open Go
inductive KC where
 |i (n:Int)
 |o (b:Bool)
 |s (l:List UInt8)
 deriving DecidableEq
inductive IX where
 |v (n:Int)
 |l (n:Int)
def IX.val:IX->Int
 | .v n=>n
 | .l n=>n
inductive DV where
 |int (k:AP) (n:IX)
 |bool (b:Bool)
 |str (l:List UInt8)
 |nil
 |sl (sz n:Nat) (e:Nat->List DV)
 |raw (v:AE)
inductive AV where
 |d (x:DV)
 |any
 |lc
 |agg (cs:List AV)
 |tuple (vs:List AV)
 |ptr (l off:Nat)
 |ii (l sz i off:Nat)
 |d9 (row:List DV) (off:Nat)
 |lm (sz n:Nat) (e:Nat->List DV)
 |bi (l sz:Nat) (start:Option Nat) (len:Nat) (full:Bool)
 |d7 (l off n:Nat)
 |map (l:Nat)
 |fn (f:A6) (first cap:List AV)
 |ge (m:Nat)
 |yl (l:Nat)
inductive Lv where
 |normal
 |exit (id:Nat)
 |ret
inductive Wz where
 |ready
 |busy
 |done (lv:Lv)
 |VM (lv:Lv)
def Lv.jump:Lv->Option Bp
 | .normal=>AD
 | .exit id=>AA (.exit id)
 | .ret=>AA .ret
def Wz.state:Wz->LoopState
 | .ready=> .ready
 | .busy=> .busy
 | .done _=> .done
 | .VM _=> .exhausted
def Wz.Wy:Wz->Option Bp
 | .done lv=>lv.jump
 | .VM lv=>lv.jump
 |_=>AD
inductive ae where
 |var (cs:List AV)
 |arr (sz n:Nat) (e:Nat->List DV)
 |t0 (sz n:Nat) (e:Nat->List DV)
 |map (wide:Bool) (ks:List AP) (n:Nat) (f:List KC->Option Int)
 |dz (wide:Bool) (ks:List AP) (keys:List (List KC)) (ap:List AV)
 |loop (s:Wz) (ts:List AV) (ps:List Nat) (code:Bp->Bp->Prop)
 |gone
 |n7 (ap:List AV)
 |iter (m:AV) (since:Nat) (seen:List Nat)
def ae.frozen:ae->Bool
 | .t0 .. =>AR
 | .gone=>AR
 |_=>AF
abbrev lw:=Nat->Option (Option Nat×Nat)
inductive qn (w:AK)(S:Nat->Prop):DV->AE->Prop
 |int (k:AP) (n:IX):qn w S (.int k n) (.int k n.val)
 |bool (b:Bool):qn w S (.bool b) (.bool b)
 |str (l:List UInt8):qn w S (.str l) (.string ⟨l.toArray⟩)
 |nil:qn w S .nil (.slice AD 0 0)
 |raw (v:AE) (h:v.oneCell'=AR):qn w S (.raw v) v
 |VO (sz:Nat) (e:Nat->List DV) (a:Option BG) (cap:Nat):qn w S (.sl sz 0 e) (.slice a 0 cap)
 |sl (sz n:Nat) (e:Nat->List DV) (b off cap:Nat) (f:Nat->Nat->AE) (hb:0<n->S b) (hc:n<=cap)
   (hl: ∀i,i<n->(e i).length=sz)
   (hv: ∀i,i<n-> ∀j,j<sz->w.cell? ⟨b,off+i*sz+j,AD⟩=AA (f i j))
   (hr: ∀i,i<n-> ∀(j:Nat) (x:DV),(e i)[j]? =AA x->qn w S x (f i j)):qn w S (.sl sz n e) (.slice (AA ⟨b,off,AD⟩) n cap)
inductive VR (w:AK)(S:Nat->Prop)(ρ:lw):AV->AE->Prop
 |d {x:DV} {v:AE} (h:qn w S x v):VR w S ρ (.d x) v
 |any (v:AE):VR w S ρ .any v
 |lc:VR w S ρ .lc Au
 |agg (cs:List AV) (vs:Array AE) (hl:cs.length=vs.size) (h: ∀(i:Nat) (x:AV) (v:AE),cs[i]? =AA x->vs[i]? =AA v->VR w S ρ x v):VR w S ρ (.agg cs) (.agg vs)
 |tuple (cs:List AV) (vs:Array AE) (hl:cs.length=vs.size) (h: ∀(i:Nat) (x:AV) (v:AE),cs[i]? =AA x->vs[i]? =AA v->VR w S ρ x v):VR w S ρ (.tuple cs) (.tuple vs)
 |ptr (l off b C:Nat) (h:ρ l=AA (AA b,C)):VR w S ρ (.ptr l off) (.pointer (AA ⟨b,off,AD⟩))
 |ii (l sz i off b C:Nat) (h:ρ l=AA (AA b,C)):VR w S ρ (.ii l sz i off) (.pointer (AA ⟨b,i*sz+off,AD⟩))
 |d9 (row:List DV) (off b base:Nat) (f:Nat->AE) (hb:S b) (hv: ∀j,j<row.length->w.cell? ⟨b,base+j,AD⟩=AA (f j))
   (hr: ∀(j:Nat) (x:DV),row[j]? =AA x->qn w S x (f j)):VR w S ρ (.d9 row off) (.pointer (AA ⟨b,base+off,AD⟩))
 |lm (sz n:Nat) (e:Nat->List DV) (a:Option BG) (h:qn w S (.sl sz n e) (.slice a n n)):VR w S ρ (.lm sz n e) (.slice a n n)
 |bi (l sz:Nat) (start:Option Nat) (len:Nat) (full:Bool) (ob:Option Nat) (C cap:Nat) (a:Option BG) (h:ρ l=AA (ob,C)) (hc:start.getD 0+len<=C)
   (b9:cap=if full then len else C-start.getD 0) (ha:0<cap->a=ob.map fun b=>⟨b,start.getD 0*sz,AD⟩):
   VR w S ρ (.bi l sz start len full) (.slice a len cap)
 |d7 (l off n b C cap:Nat) (h:ρ l=AA (AA b,C)) (hc:n<=cap):VR w S ρ (.d7 l off n) (.slice (AA ⟨b,off,AD⟩) n cap)
 |map (l b C:Nat) (h:ρ l=AA (AA b,C)):VR w S ρ (.map l) (.map (AA b))
 |fn (f:A6) (first cap:List AV) (us vs:Array AE) (nw:first.length=us.size) (h1: ∀(i:Nat) (x:AV) (v:AE),first[i]? =AA x->us[i]? =AA v->VR w S ρ x v)
   (hl:cap.length=vs.size) (h: ∀(i:Nat) (x:AV) (v:AE),cap[i]? =AA x->vs[i]? =AA v->VR w S ρ x v):
   VR w S ρ (.fn f first cap) (.func (.func f) us vs)
 |ge (m:Nat) (n:Int) (h:(m:Int)<=n):VR w S ρ (.ge m) (.int .i64 n)
 |yl (l b C:Nat) (h:ρ l=AA (AA b,C)):VR w S ρ (.yl l) (.func (.yield b) #[] #[])
def KC.ofValue:AE->Option KC
 | .int _ n=>AA (.i n)
 | .bool x=>AA (.o x)
 | .string t=>AA (.s t.data.toList)
 |_=>AD
def keyOf (v:AE):Option (List KC):=v.cells.toList.mapM KC.ofValue
def xn (k:List KC):List BD->Option Int
 |[]=>AD
 |e::es=>if keyOf e.key=AA k then (match e.val with| .int _ n=>AA n|_=>AD) else xn k es
def px (wide:Bool)(ks:List AP)(v:AE):Prop:=
 (if wide then∃cs,v= .agg cs else∃k n,v= .int k n)/\ ∃ns:List Int,ns.length=ks.length/\v.cells.toList=List.zipWith Value.int ks ns/\
   ∀(i:Nat) (k:AP) (n:Int),ks[i]? =AA k->ns[i]? =AA n->k.wrap n=n
structure Ol (wide:Bool)(ks:List AP)(es:List BD)(n:Nat)(f:List KC->Option Int):Prop where
 len:es.length=n
 keys: ∀e,e∈es->px wide ks e.key
 ap: ∀e,e∈es-> ∃m,e.val= .int .i64 m
 find: ∀k,xn k es=f k
 nd:es.Pairwise (fun a b=>a.key≠b.key)
structure g2b (wide:Bool)(ks:List AP)(es:List BD)(keys:List (List KC)):Prop where
 len:keys.length=es.length
 shape: ∀e,e∈es->px wide ks e.key
 WQ: ∀(i:Nat) (e:BD) (k:List KC),es[i]? =AA e->keys[i]? =AA k->keyOf e.key=AA k
 nd:es.Pairwise (fun a b=>a.key≠b.key)
 born: ∀(i:Nat) (e:BD),es[i]? =AA e->e.born=i
def fv (w:AK)(S:Nat->Prop)(ρ:lw)(b C:Nat):ae->Prop
 | .var cs=> ∃vs ty,w.heap[b]? =AA (.cells vs ty (0,0))/\vs.size=cs.length/\ ∀(i:Nat) (x:AV) (v:AE),cs[i]? =AA x->vs[i]? =AA v->VR w S ρ x v
 | .arr sz n e=> ∃vs ty,w.heap[b]? =AA (.cells vs ty (0,0))/\vs.size=C*sz/\n<=C/\
    ∀i,i<n->(e i).length=sz/\ ∀(j:Nat) (x:DV) (v:AE),(e i)[j]? =AA x->vs[i*sz+j]? =AA v->qn w S x v
 | .t0 sz n e=>S b/\ ∃vs ty fr,w.heap[b]? =AA (.cells vs ty fr)/\vs.size=C*sz/\n<=C/\
    ∀i,i<n->(e i).length=sz/\ ∀(j:Nat) (x:DV) (v:AE),(e i)[j]? =AA x->vs[i*sz+j]? =AA v->qn w S x v
 | .map wide ks n f=> ∃es clock,w.heap[b]? =AA (.map es clock)/\Ol wide ks es.toList n f
 | .dz wide ks keys ap=> ∃es clock,w.heap[b]? =AA (.map es clock)/\g2b wide ks es.toList keys/\(es.size=ap.length/\clock=es.size)/\ ∀(i:Nat) (x:AV) (e:BD),ap[i]? =AA x->es[i]? =AA e->VR w S ρ x e.val
 | .loop s ts ps code=> ∃r:Loop,w.heap[b]? =AA (.loop r)/\r.state=s.state/\r.pending=s.Wy/\r.params.toList=ps/\code r.assign r.body/\
    r.tmps.size=ts.length/\ ∀(i:Nat) (x:AV) (v:AE),ts[i]? =AA x->r.tmps[i]? =AA v->VR w S ρ x v
 | .gone=>S b
 | .iter m since seen=> ∃bm,w.heap[b]? =AA (.mapIter (AA bm) since seen.reverse.toArray since)/\VR w S ρ m (.map (AA bm))
 | .n7 ap=> ∃vs ty,w.heap[b]? =AA (.cells vs ty (0,0))/\vs.size=C/\ap.length<=C/\ ∀(i:Nat) (x:AV) (v:AE),ap[i]? =AA x->vs[i]? =AA v->VR w S ρ x v
def Oi (w:AK)(S:Nat->Prop)(ρ:lw)(ob:Option Nat)(C:Nat)(o:ae):Prop:=
 match ob with
 |some b=>fv w S ρ b C o
 |none=>C=0/\ ∃sz e,o= .arr sz 0 e\/o= .t0 sz 0 e
structure v4 (w:AK)(S:Nat->Prop)(ρ:lw)(h:List ae):Prop where
 i0: ∀b,S b->b<w.heap.size
 obj: ∀l ob C,ρ l=AA (ob,C)-> ∃o,h[l]? =AA o/\Oi w S ρ ob C o
 inj: ∀l l' b C C',ρ l=AA (AA b,C)->ρ l'=AA (AA b,C')->l=l'
 own: ∀l b C o,ρ l=AA (AA b,C)->h[l]? =AA o->o.frozen=AF-> ¬S b
theorem k3o {a b c:AK}(h:b.tape=a.tape/\a.drawn<=b.drawn)(k:c.tape=b.tape/\b.drawn<=c.drawn):c.tape=a.tape/\a.drawn<=c.drawn:=⟨k.1.trans h.1,Ak h.2 k.2⟩
structure Ext (w:AK)(S:Nat->Prop)(ρ:lw)(w':AK)(S':Nat->Prop)(ρ':lw):Prop where
 os:w'.os=w.os
 tape:w'.tape=w.tape/\w.drawn<=w'.drawn
 output:w'.output=w.output
 size:w.heap.size<=w'.heap.size
 mono: ∀b,S b->S' b
 cell: ∀b,S b->w'.heap[b]? =w.heap[b]?
 news: ∀b,S' b->S b\/w.heap.size<=b\/ ∃l C,ρ l=AA (AA b,C)
 frame: ∀b,b<w.heap.size->(∀l C,ρ l≠AA (AA b,C))->w'.heap[b]? =w.heap[b]?
 owned: ∀l b C,ρ' l=AA (AA b,C)->w.heap.size<=b\/ ∃l C,ρ l=AA (AA b,C)
theorem Ext.refl (w:AK)(S:Nat->Prop)(ρ:lw):Ext w S ρ w S ρ:=
 ⟨rfl,⟨rfl,AL _⟩,rfl,AL _,fun _ h=>h,fun _ _=>rfl,fun _ h=> .inl h,fun _ _ _=>rfl,fun l _ C h=> .inr ⟨l,C,h⟩⟩
theorem Ext.trans {w w' w'':AK}{S S' Om:Nat->Prop}{ρ ρ' ρ'':lw}(h:Ext w S ρ w' S' ρ')(k:Ext w' S' ρ' w'' Om ρ''):Ext w S ρ w'' Om ρ'' where
 os:=k.os.trans h.os
 tape:=⟨k.tape.1.trans h.tape.1,Ak h.tape.2 k.tape.2⟩
 output:=k.output.trans h.output
 size:=Ak h.size k.size
 mono b hb:=k.mono b (h.mono b hb)
 cell b hb:=(k.cell b (h.mono b hb)).trans (h.cell b hb)
 news b hb:=by
  rcases k.news b hb with h1|h1|⟨l,C,h1⟩
  ·exact h.news b h1
  ·exact .inr (.inl (Ak h.size h1))
  ·rcases h.owned l b C h1 with h2|h2
   ·exact .inr (.inl h2)
   ·exact .inr (.inr h2)
 frame b hb hn:=by
  refine (k.frame b (BQ hb h.size) fun l C hl=> ?_).trans (h.frame b hb hn);rcases h.owned l b C hl with h2|⟨l',C',h2⟩
  ·omega
  ·exact hn _ _ h2
 owned l b C hl:=by
  rcases k.owned l b C hl with h1|⟨l',C',h1⟩
  ·exact .inl (Ak h.size h1)
  ·exact h.owned _ _ _ h1
theorem cell?_congr {w w':AK}{b o:Nat}(h:w'.heap[b]? =w.heap[b]?):w'.cell? ⟨b,o,AD⟩=w.cell? ⟨b,o,AD⟩:=by simp only[World.cell?,h]
theorem cell?_of {w:AK}{b o:Nat}{c:Array AE}{ty:AJ}{fr:Nat×Nat}(h:w.heap[b]? =AA (.cells c ty fr)):w.cell? ⟨b,o,AD⟩=c[o]? :=by simp[World.cell?,h]
theorem qn.mono {w w':AK}{S S':Nat->Prop}(hS: ∀b,S b->S' b)(hw: ∀b,S b->w'.heap[b]? =w.heap[b]?){x:DV}{v:AE}(h:qn w S x v):qn w' S' x v:=by
 induction h with
 |int k n=>exact .int k n
 |bool b=>exact .bool b
 |str l=>exact .str l
 |nil=>exact .nil
 |raw v h=>exact .raw v h
 |VO sz e a cap=>exact .VO sz e a cap
 |sl sz n e b off cap f hb hc hl hv _ ih=>refine .sl sz n e b off cap f (fun h=>hS b (hb h)) hc hl (fun i hi j hj=> ?_) ih;rw[cell?_congr (hw b (hb (by omega)))];exact hv i hi j hj
theorem VR.mono {w w':AK}{S S':Nat->Prop}{ρ ρ':lw}(hS: ∀b,S b->S' b)(hw: ∀b,S b->w'.heap[b]? =w.heap[b]?)
 (hρ: ∀l p,ρ l=AA p->ρ' l=AA p) {x:AV} {v:AE} (h:VR w S ρ x v):VR w' S' ρ' x v:=by
 induction h with
 |d h=>exact .d (h.mono hS hw)
 |any v=>exact .any v
 |lc=>exact .lc
 |agg cs vs hl _ ih=>exact .agg cs vs hl ih
 |tuple cs vs hl _ ih=>exact .tuple cs vs hl ih
 |ptr l off b C h=>exact .ptr l off b C (hρ _ _ h)
 |ii l sz i off b C h=>exact .ii l sz i off b C (hρ _ _ h)
 |d9 row off b base f hb hv hr=>refine .d9 row off b base f (hS b hb) (fun j hj=> ?_) (fun j x hx=>(hr j x hx).mono hS hw);rw[cell?_congr (hw b hb)];exact hv j hj
 |lm sz n e a h=>exact .lm sz n e a (h.mono hS hw)
 |bi l sz start len full ob C cap a h hc b9 ha=>exact .bi l sz start len full ob C cap a (hρ _ _ h) hc b9 ha
 |d7 l off n b C cap h hc=>exact .d7 l off n b C cap (hρ _ _ h) hc
 |map l b C h=>exact .map l b C (hρ _ _ h)
 |fn f first cap us vs nw _ hl _ uz ih=>exact .fn f first cap us vs nw uz hl ih
 |ge m n h=>exact .ge m n h
 |yl l b C h=>exact .yl l b C (hρ _ _ h)
theorem fv.mono {w w':AK}{S S':Nat->Prop}{ρ ρ':lw}(hS: ∀b,S b->S' b)(hw: ∀b,S b->w'.heap[b]? =w.heap[b]?)
 (hρ: ∀l p,ρ l=AA p->ρ' l=AA p) {b C:Nat} (hb:w'.heap[b]? =w.heap[b]?) {o:ae} (h:fv w S ρ b C o):fv w' S' ρ' b C o:=by
 cases o with
 |var cs=>obtain⟨vs,ty,h1,h2,h3⟩:=h;exact⟨vs,ty,hb▸h1,h2,fun i x v hx hv=>(h3 i x v hx hv).mono hS hw hρ⟩
 |arr sz n e=>obtain⟨vs,ty,h1,h2,h3,h4⟩:=h;exact⟨vs,ty,hb▸h1,h2,h3,fun i hi=>⟨(h4 i hi).1,fun j x v hx hv=>((h4 i hi).2 j x v hx hv).mono hS hw⟩⟩
 |t0 sz n e=>obtain⟨h0,vs,ty,fr,h1,h2,h3,h4⟩:=h;exact⟨hS b h0,vs,ty,fr,hb▸h1,h2,h3,fun i hi=>⟨(h4 i hi).1,fun j x v hx hv=>((h4 i hi).2 j x v hx hv).mono hS hw⟩⟩
 |map wide ks n f=>obtain⟨es,clock,h1,h2⟩:=h;exact⟨es,clock,hb▸h1,h2⟩
 |dz wide ks keys ap=>obtain⟨es,clock,h1,h2,h3,h4⟩:=h;exact⟨es,clock,hb▸h1,h2,h3,fun i x e hx he=>(h4 i x e hx he).mono hS hw hρ⟩
 |loop s ts ps code=>obtain⟨r,h1,h2,h3,h4,h5,h6,h7⟩:=h;exact⟨r,hb▸h1,h2,h3,h4,h5,h6,fun i x v hx hv=>(h7 i x v hx hv).mono hS hw hρ⟩
 |gone=>exact hS b h
 |n7 ap=>obtain⟨vs,ty,h1,h2,h3,h4⟩:=h;exact⟨vs,ty,hb▸h1,h2,h3,fun i x v hx hv=>(h4 i x v hx hv).mono hS hw hρ⟩
 |iter m since seen=>obtain⟨bm,h1,h2⟩:=h;exact⟨bm,hb▸h1,h2.mono hS hw hρ⟩
structure St where
 ts:List AV
 h:List ae
 mv:List Nat
inductive ah where
 |t (i:Nat)
 |c (v:AV)
inductive Mode where
 |borrow
 |share
 |raw
 |data
 |fresh
 deriving DecidableEq
def RX (op:Ax)(k:AP)(a b:Int):Int:=
 match op with
 | .and=>k.wrap (Ae k.bits a&&&Ae k.bits b).toNat
 | .or=>k.wrap (Ae k.bits a|||Ae k.bits b).toNat
 | .xor=>k.wrap (Ae k.bits a^^^Ae k.bits b).toNat
 |_=>k.wrap (Ae k.bits a&&& ~~~Ae k.bits b).toNat
def T1 (op:Ax)(k:AP)(a b:Int):Int:=
 match op with
 | .shl=>k.wrap (a*2^(Bs b.toNat k.bits))
 |_=>a.fdiv (2^(Bs b.toNat k.bits))
def Oq:Ax->Nat
 | .shl=>1
 | .shr=>1
 | .and=>2
 | .or=>2
 | .xor=>2
 | .andNot=>2
 |_=>0
inductive CK where
 |i (k:AP)
 |o
 deriving DecidableEq
inductive qr where
 |mv (x:ah)
 |VA (sz:Nat)
 |V5 (sz:Nat)
 |pick (c a b:ah)
 |alloc (zs:List DV)
 |box (x:ah)
 |build (zs:List DV) (parts:List (Nat×Nat×ah))
 |x8 (sz len:Nat) (zs:List DV) (parts:List (Nat×ah)) (mu:Bool)
 |load (agg:Option Nat) (x:ah)
 |store (sz:Nat) (a x:ah)
 |T8 (x:ah)
 |bin (op:Ax) (x y:ah)
 |WC (op:Ax) (x y:ah)
 |Yb (neg:Bool) (ks:List AP) (x y:ah)
 |un (op:UnOp) (x:ah)
 |conv (k:AP) (x:ah)
 |WT (f:A6) (first cap:List ah)
 |x6 (wide:Bool) (ks:List AP)
 |mp (sz:Nat) (zs:List DV) (bytes:Nat) (n:ah)
 |slice (sz:Nat) (x:ah) (lo hi mx:Option ah)
 |VH (n:Nat) (x:ah) (lo hi:Option ah)
 |VX (off:Nat) (x:ah)
 |field (off:Nat) (agg:Option Nat) (x:ah)
 |VG (sz:Nat) (x i:ah)
 |z5 (n sz:Nat) (x i:ah)
 |lookup (wide:Bool) (ks:List AP) (ok:Bool) (m k:ah)
 |Id (wide:Bool) (ks:List AP) (m k x:ah)
 |extract (x:ah) (i:Nat)
 |call (f:ah) (args:List ah) (m:Mode)
 |len (x:ah)
 |V8 (x:ah)
 |cap (x:ah)
 |min (x y:ah)
 |append (sz bytes:Nat) (x y:ah) (mu:Bool)
 |copy (sz:Nat) (x y:ah)
 |bad
 |oq (sz:Nat) (x y:ah)
 |clear (sz:Nat) (zs:List DV) (x:ah)
 |Vy (neg:Bool) (x:ah)
 |Vo (sz:Nat) (x:ah) (lo hi:Option ah)
 |idxs (l:List UInt8) (x:ah)
 |VI (sz:Nat) (x:ah) (lo hi mx:Option ah)
 |XE (x y:ah)
 |pi (sz bytes:Nat) (x y:ah) (mu:Bool)
 |og (wide:Bool) (ks:List AP)
 |m9 (wide:Bool) (ks:List AP) (ok:Bool) (z:AV) (m k:ah)
 |n9 (wide:Bool) (ks:List AP) (m k x:ah)
 |Wf (neg:Bool) (ks:List CK) (x y:ah)
 |max (x y:ah)
 |bw (op:Ax) (x y:ah)
 |t6 (sz len:Nat) (zs:List DV) (parts:List (Nat×ah))
 |pm (x:ah) (i:Nat)
 |SW (wide:Bool) (ks:List AP) (z:AV) (m k:ah)
 |VW (m s x:ah)
 |t5 (sz bytes:Nat) (x y:ah)
 |v6 (sz:Nat)
 |Wq
 |x5 (bytes:Nat) (x y:ah)
 |Wp (sz:Nat)
 |W8 (x:ah)
 |W7 (x:ah)
 |W2 (x:ah)
structure jm where
 dst:Option Nat
 guard:Option (Nat×Bool)
 op:qr
inductive Kl where
 |i|r|a|p|m
 deriving DecidableEq
def qr.kl:qr->Kl
 | .mv _=> .i
 | .pick .. => .i
 | .build .. => .i
 | .T8 _=> .i
 | .bin .. => .i
 | .WC .. => .i
 | .Yb .. => .i
 | .Wf .. => .i
 | .un .. => .i
 | .conv .. => .i
 | .WT .. => .i
 | .slice .. => .i
 | .VH .. => .i
 | .VX .. => .i
 | .field .. => .i
 | .VG .. => .i
 | .z5 .. => .i
 | .extract .. => .i
 | .len _=> .i
 | .min .. => .i
 | .max .. => .i
 | .bw .. => .i
 | .Vy .. => .i
 | .idxs .. => .i
 | .VI .. => .i
 | .load .. => .r
 | .lookup .. => .r
 | .m9 .. => .r
 | .V8 _=> .r
 | .alloc _=> .a
 | .V5 _=> .a
 | .box _=> .a
 | .mp .. => .a
 | .x6 .. => .a
 | .og .. => .a
 | .call _ _ .data=> .p
 | .t6 .. => .i
 | .t5 .. => .i
 | .v6 _=> .i
 |_=> .m
def qx:Option ah->List ah
 |none=>[]
 |some x=>[x]
def qr.VL:qr->List ah
 | .mv x=>[x]
 | .VA _=>[]
 | .V5 _=>[]
 | .pick c a b=>[c,a,b]
 | .alloc _=>[]
 | .box x=>[x]
 | .build _ ps=>ps.map (·.2.2)
 | .x8 _ _ _ ps _=>ps.map (·.2)
 | .load _ x=>[x]
 | .store _ a x=>[a,x]
 | .T8 x=>[x]
 | .bin _ x y=>[x,y]
 | .WC _ x y=>[x,y]
 | .Yb _ _ x y=>[x,y]
 | .Wf _ _ x y=>[x,y]
 | .un _ x=>[x]
 | .conv _ x=>[x]
 | .WT _ l m=>l++m
 | .x6 .. =>[]
 | .mp _ _ _ n=>[n]
 | .slice _ x a b c=>x::(qx a++qx b++qx c)
 | .VH _ x a b=>x::(qx a++qx b)
 | .VX _ x=>[x]
 | .field _ _ x=>[x]
 | .VG _ x y=>[x,y]
 | .z5 _ _ x y=>[x,y]
 | .lookup _ _ _ x y=>[x,y]
 | .Id _ _ x y z=>[x,y,z]
 | .extract x _=>[x]
 | .call f as _=>f::as
 | .len x=>[x]
 | .V8 x=>[x]
 | .cap x=>[x]
 | .min x y=>[x,y]
 | .max x y=>[x,y]
 | .bw _ x y=>[x,y]
 | .append _ _ x y _=>[x,y]
 | .copy _ x y=>[x,y]
 | .bad=>[]
 | .oq _ x y=>[x,y]
 | .clear _ _ x=>[x]
 | .Vy _ x=>[x]
 | .Vo _ x a b=>x::(qx a++qx b)
 | .idxs _ x=>[x]
 | .VI _ x a b c=>x::(qx a++qx b++qx c)
 | .XE x y=>[x,y]
 | .pi _ _ x y _=>[x,y]
 | .og .. =>[]
 | .m9 _ _ _ _ x y=>[x,y]
 | .n9 _ _ x y z=>[x,y,z]
 | .t6 _ _ _ ps=>ps.map (·.2)
 | .pm x _=>[x]
 | .SW _ _ _ x y=>[x,y]
 | .VW x y z=>[x,y,z]
 | .t5 _ _ x y=>[x,y]
 | .v6 _=>[]
 | .Wq=>[]
 | .Wp _=>[]
 | .x5 _ x y=>[x,y]
 | .W8 x=>[x]
 | .W7 x=>[x]
 | .W2 x=>[x]
def qr.at:qr->Option ah
 | .load _ x=>AA x
 | .lookup _ _ _ m _=>AA m
 | .m9 _ _ _ _ m _=>AA m
 | .V8 x=>AA x
 | .store _ a _=>AA a
 |_=>AD
def Mf:List ah->List Nat
 |[]=>[]
 | .t i::l=>i::Mf l
 | .c _::l=>Mf l
def jm.Vv (o:jm):List Nat:=
 match o.guard with
 |none=>Mf o.op.VL
 |some (j,_)=>j::Mf o.op.VL
structure cz where
 o:jm
 i:Nat
 slot:Nat
 av:List Nat
 YS:List Nat
 alone:Bool
 watch:Bool
inductive gy where
 |skip
 |ops (l:List jm)
 |draw (n:Nat) (l:List cz)
 |seq (a b:gy)
 |cond (c:ah) (a b:gy)
 |block (id:Nat) (c:gy)
 |loop (c:gy)
 |range (f:ah) (params:List Nat) (assign body:gy)
 |exit (id:Nat)
 |scope (c:gy)
 |label (l:Nat)
 |ret
structure We where
 t8:Int->Int->Int
 Vz:Int->Int->Int
 Xg:Int->Int->Int
 Xv:Int->Int->Int
 W4:Int->Int->Int
 Wc:AP->Int->Int
 Vu:Int->Int->Bool
 WA:Int->Int->Bool
 md:Int->Int->Bool
 VY:Bool->Int->Int->Int
 jp:Bool->Bool
 V4:Bool->Bool->Bool
 beq:Bool->Bool->Bool
 Zf:Bool->Bool->Bool->Bool
 ofNat:Nat->Int
 toNat:Int->Nat
 fd:Nat->Nat->Nat
 T9:Nat->Nat->Nat
 wp:Nat->Nat->Nat
 Zr:Nat->Nat->Bool
 inr:AP->Int->Prop
 Yv:Int->Nat->Prop
 VZ:Nat->Nat->Prop
 VN:Nat->Nat->Prop
 ut:Int->Int->Prop
 nz:Int->Prop
 mt:Prop->Prop->Prop
 Yt:List Nat->Nat->Prop->(Nat->Prop)->Prop
 top:Prop
 Yq:(Nat->List DV)->Nat->List DV->Nat->List DV
 app:Nat->(Nat->List DV)->(Nat->List DV)->Nat->List DV
 shift:(Nat->List DV)->Nat->Nat->List DV
 YJ:Nat->Nat->(Nat->List DV)->Prop
 put:Nat->Nat->(Nat->List DV)->(Nat->List DV)->Nat->List DV
 rep:Nat->List DV->Nat->List DV
 WU:Nat->Nat->Nat
 YK:List UInt8->Int->Int
 Yn:Ax->AP->Int->Int->Int
 XN:Ax->AP->Int->Int->Int
 W6:(List KC->Option Int)->List KC->Int
 WG:(List KC->Option Int)->List KC->Bool
 Xx:(List KC->Option Int)->List KC->Int->List KC->Option Int
 WF:(List KC->Option Int)->List KC->Nat->Nat
 same:AV->AV->Prop
 Wr:Bool->A6->List AV->(AV->Prop)->Prop
 Ym:A6->List AV->(AV->List ae->Prop)->Prop
 call:A6->List AV->List ae->(List Nat->AV->List ae->Prop)->Prop
 X8:Nat->List AV->List ae->(List Nat->AV->List ae->Prop)->Prop
 loop:gy->(Lv->St->Prop)->St->Prop
 range:ah->List Nat->gy->gy->(Lv->St->Prop)->St->Prop
def ax {α:Type}:List α->Nat->Option α
 |[],_=>AD
 |x::_,0=>AA x
 |_::l,i+1=>ax l i
def b8 {α:Type}:List α->Nat->α->List α
 |[],_,_=>[]
 |_::l,0,y=>y::l
 |x::l,i+1,y=>x::b8 l i y
def po {α:Type}:List α->Nat->Nat->Option (List α)
 |_,0,0=>AA []
 |[],0,_+1=>AD
 |x::l,0,n+1=>match po l 0 n with|some r=>AA (x::r)|none=>AD
 |[],_+1,_=>AD
 |_::l,i+1,n=>po l i n
def qm {α:Type}:List α->Nat->List α->Option (List α)
 |l,0,[]=>AA l
 |[],_,_=>AD
 |_::l,0,y::new=>match qm l 0 new with|some r=>AA (y::r)|none=>AD
 |x::l,i+1,new=>match qm l i new with|some r=>AA (x::r)|none=>AD
def tu {α β:Type}(f:α->β):List α->List β
 |[]=>[]
 |x::l=>f x::tu f l
def ba {α:Type}:List α->List α->List α
 |[],m=>m
 |x::l,m=>x::ba l m
def az {α:Type}:List α->Nat
 |[]=>0
 |_::l=>az l+1
def i7 (ts:List AV):ah->AV
 | .c v=>v
 | .t i=>match ax ts i with|some v=>v|none=> .any
def AV.cells:AV->List AV
 | .agg cs=>cs
 |v=>[v]
mutual
def AV.norm:AV->AV
 | .d (.int k n)=> .d (.int k (.v n.val))
 | .agg cs=> .agg (AV.rg cs)
 | .tuple cs=> .tuple (AV.rg cs)
 | .fn f us cs=> .fn f (AV.rg us) (AV.rg cs)
 |v=>v
def AV.rg:List AV->List AV
 |[]=>[]
 |v::l=>v.norm::AV.rg l
end
mutual
def AV.forget (l:Nat)(all:Bool):AV->AV
 | .agg cs=> .agg (AV.ip l all cs)
 | .tuple cs=> .tuple (AV.ip l all cs)
 | .fn f us cs=> .fn f (AV.ip l all us) (AV.ip l all cs)
 | .ptr m off=>if (if all then A7 l m else AH l m) then .any else .ptr m off
 | .ii m sz i off=>if (if all then A7 l m else AH l m) then .any else .ii m sz i off
 | .bi m sz s n f=>if (if all then A7 l m else AH l m) then .any else .bi m sz s n f
 | .d7 m off n=>if (if all then A7 l m else AH l m) then .any else .d7 m off n
 | .map m=>if (if all then A7 l m else AH l m) then .any else .map m
 | .yl m=>if (if all then A7 l m else AH l m) then .any else .yl m
 |v=>v
def AV.ip (l:Nat)(all:Bool):List AV->List AV
 |[]=>[]
 |v::r=>v.forget l all::AV.ip l all r
end
mutual
def AV.shift (k:Nat):AV->AV
 | .agg cs=> .agg (AV.n4 k cs)
 | .tuple cs=> .tuple (AV.n4 k cs)
 | .fn f us cs=> .fn f (AV.n4 k us) (AV.n4 k cs)
 | .ptr m off=> .ptr (k+m) off
 | .ii m sz i off=> .ii (k+m) sz i off
 | .bi m sz s n f=> .bi (k+m) sz s n f
 | .d7 m off n=> .d7 (k+m) off n
 | .map m=> .map (k+m)
 | .yl m=> .yl (k+m)
 |v=>v
def AV.n4 (k:Nat):List AV->List AV
 |[]=>[]
 |v::r=>v.shift k::AV.n4 k r
end
def ae.shift (k:Nat):ae->ae
 | .var cs=> .var (AV.n4 k cs)
 | .dz wide ks keys ap=> .dz wide ks keys (AV.n4 k ap)
 | .n7 ap=> .n7 (AV.n4 k ap)
 | .iter m n l=> .iter (m.shift k) n l
 | .loop s ts ps code=> .loop s (AV.n4 k ts) ps code
 |o=>o
def KF (k:Nat):List ae->List ae
 |[]=>[]
 |o::r=>o.shift k::KF k r
def ae.forget (l:Nat)(all:Bool):ae->ae
 | .var cs=> .var (AV.ip l all cs)
 | .dz wide ks keys ap=> .dz wide ks keys (AV.ip l all ap)
 | .n7 ap=> .n7 (AV.ip l all ap)
 | .iter m n s=> .iter (m.forget l all) n s
 | .loop s ts ps code=> .loop s (AV.ip l all ts) ps code
 |o=>o
def pq (l:Nat)(all:Bool):List ae->List ae
 |[]=>[]
 |o::r=>o.forget l all::pq l all r
def St.i5 (st:St):List Nat->St
 |[]=>st
 |l::pg=>St.i5 ⟨AV.ip l AF st.ts,st.h,l::st.mv⟩ pg
def St.put (st:St)(dst:Option Nat)(v:AV):St:=
 match dst with
 |none=>st
 |some d=>⟨b8 st.ts d v,st.h,st.mv⟩
def St.ld (st:St)(h:List ae):St:=⟨st.ts,h,st.mv⟩
def AV.one:AV->Bool
 | .lc=>AF
 | .any=>AF
 | .agg _=>AF
 | .tuple _=>AF
 |_=>AR
def tv:List AV->Bool
 |[]=>AR
 |v::l=>if v.one then tv l else AF
def mf (k:List KC):List (List KC)->List AV->Option AV
 |k'::ks,v::vs=>if k'=k then AA v else mf k ks vs
 |_,_=>AD
def HM (k:List KC)(x:AV):List (List KC)->List AV->Option (List AV)
 |k'::ks,v::vs=>if k'=k then AA (x::vs) else match HM k x ks vs with|some l=>AA (v::l)|none=>AD
 |_,_=>AD
def pw (k:List KC):List (List KC)->Nat->Option Nat
 |[],_=>AD
 |k'::ks,n=>if k'=k then AA n else pw k ks (n+1)
def Yw:List AP->List KC->List AV
 |k::ks,.i n::r=> .d (.int k (.v n))::Yw ks r
 |_,_=>[]
def m2l (wide:Bool)(ks:List AP)(kc:List KC):AV:=
 if wide then .agg (Yw ks kc) else match Yw ks kc with|v::_=>v|[]=> .any
section
variable (S:We)
def Re (e:Nat->List DV):Option Nat->Nat->List DV
 |none=>e
 |some s=>S.shift e s
def GU:Option Nat->Nat->Nat
 |none,n=>n
 |some s,n=>S.fd s n
def um (h:List ae)(v:AV)(K:Nat->Nat->(Nat->List DV)->Prop):Prop:=
 match v with
 | .d (.sl sz n e)=>K sz n e
 | .lm sz n e=>K sz n e
 | .bi l sz s n _=>match ax h l with
   |some (.arr sz' m e)=>if AH sz sz' then S.mt (S.VN (GU S s n) m) (K sz n (Re S e s)) else False
   |some (.t0 sz' m e)=>if AH sz sz' then S.mt (S.VN (GU S s n) m) (K sz n (Re S e s)) else False
   |_=>False
 |_=>False
def W1:List AV->Option (List DV)
 |[]=>AA []
 | .d x::r=>match W1 r with|some l=>AA (x::l)|none=>AD
 | .fn f [] []::r=>match W1 r with|some l=>AA (.raw (.func (.func f) #[] #[])::l)|none=>AD
 |_::_=>AD
def MP:List (List AV)->Option (List (List DV))
 |[]=>AA []
 |r::rs=>match W1 r,MP rs with
  |some l,AA ls=>AA (l::ls)
  |_,_=>AD
def MU:AV->AV
 | .d (.raw (.func (.func f) us vs))=>if AH us.size 0&&AH vs.size 0 then .fn f [] [] else .any
 |v=>v
def rowAt:List (List DV)->Nat->List DV
 |[],_=>[]
 |r::_,0=>r
 |_::rs,i+1=>rowAt rs i
def HT (h:List ae)(v:AV)(K:AV->Prop):Prop:=
 match v with
 | .d7 l off n=>match ax h l with
   |some (.var cs)=>match po cs off n with
    |some c=>match W1 c with
     |some ds=>K (.d (.sl 1 n (rowAt (tu (fun x=>[x]) ds))))
     |none=>False
    |none=>False
   |_=>False
 | .bi .. =>um S h v fun sz n e=>K (.d (.sl sz n e))
 | .lm sz n e=>K (.d (.sl sz n e))
 |v=>K v
def NH (h:List ae)(vs:List AV)(K:List AV->Prop):Prop:=
 match vs with
 |[]=>K []
 |v::r=>HT S h v fun v'=>NH h r fun r'=>K (v'::r')
def HU (h:List ae)(vs:List AV)(K:List AV->Prop):Prop:=
 match vs with
 |[]=>K []
 | .agg cs::r=>NH S h cs fun jw=>HU h r fun r'=>K (.agg jw::r')
 |v::r=>HT S h v fun v'=>HU h r fun r'=>K (v'::r')
def uv (h:List ae)(v:AV)(K:AV->List ae->Prop):Prop:=
 match v with
 | .bi l sz s n f=>um S h (.bi l sz s n f) fun sz n e=>match ax h l with
   |some (.arr sz' m e')=>K (.d (.sl sz n e)) (b8 h l (.t0 sz' m e'))
   |_=>K (.d (.sl sz n e)) h
 | .lm sz n e=>K (.d (.sl sz n e)) h
 |v=>K v h
def G3 (h:List ae)(vs:List AV)(K:List AV->List ae->Prop):Prop:=
 match vs with
 |[]=>K [] h
 |v::r=>uv S h v fun v' h'=>G3 h' r fun r' h''=>K (v'::r') h''
def IW (h:List ae)(l:Nat)(K:AV->List ae->Prop):Prop:=
 match ax h l with
 |some (.var cs)=>G3 S h cs fun jw h'=>match W1 jw with
  |some row=>K (.d9 row 0) (b8 h' l .gone)
  |none=>False
 |_=>False
def wu (h:List ae)(vs:List AV)(K:List AV->List ae->Prop):Prop:=
 match vs with
 |[]=>K [] h
 | .agg cs::r=>G3 S h cs fun jw h'=>wu h' r fun r' h''=>K (.agg jw::r') h''
 | .ptr l 0::r=>IW S h l fun v' h'=>wu h' r fun r' h''=>K (v'::r') h''
 |v::r=>uv S h v fun v' h'=>wu h' r fun r' h''=>K (v'::r') h''
def K0 (h:List ae)(v:AV)(K:List DV->List ae->Prop):Prop:=
 G3 S h v.cells fun cs h'=>match W1 cs with|some l=>K l h'|none=>False
def H9 (op:Ax)(k:AP)(x y:IX)(K:DV->Prop):Prop:=
 match op with
 | .add=>match x,y with
   | .l a,.l b=>S.mt (S.inr k (a+b)) (K (.int k (.l (a+b))))
   |x,y=>S.mt (S.inr k (S.t8 x.val y.val)) (K (.int k (.v (S.t8 x.val y.val))))
 | .sub=>match x,y with
   | .l a,.l b=>S.mt (S.inr k (a-b)) (K (.int k (.l (a-b))))
   |x,y=>S.mt (S.inr k (S.Vz x.val y.val)) (K (.int k (.v (S.Vz x.val y.val))))
 | .mul=>S.mt (S.inr k (S.Xg x.val y.val)) (K (.int k (.v (S.Xg x.val y.val))))
 | .quo=>S.mt (S.nz y.val) (S.mt (S.inr k (S.Xv x.val y.val)) (K (.int k (.v (S.Xv x.val y.val)))))
 | .rem=>S.mt (S.nz y.val) (K (.int k (.v (S.W4 x.val y.val))))
 | .eql=>match x,y with
   | .l a,.l b=>K (.bool (BP a b))
   |x,y=>K (.bool (S.md x.val y.val))
 | .neq=>match x,y with
   | .l a,.l b=>K (.bool (Bool.not (BP a b)))
   |x,y=>K (.bool (S.jp (S.md x.val y.val)))
 | .lss=>K (.bool (S.Vu x.val y.val))
 | .gtr=>K (.bool (S.Vu y.val x.val))
 | .leq=>K (.bool (S.WA x.val y.val))
 | .geq=>K (.bool (S.WA y.val x.val))
 |_=>False
def YU (op:Ax)(k k':AP)(a b:Int)(K:Int->Prop):Prop:=
 match Oq op with
 |1=>S.mt (S.ut 0 b) (K (S.XN op k a b))
 |2=>if k=k' then K (S.Yn op k a b) else False
 |_=>False
def My:List AP->List AV->List AV->Option Bool
 |[],[],[]=>AA AR
 |k::ks,.d (.int k1 x)::xs,.d (.int k2 y)::ys=>if k=k1 then (if k=k2 then match My ks xs ys with
  |some b=>AA (S.V4 (S.md x.val y.val) b)
  |none=>AD else AD) else AD
 |_,_,_=>AD
def Gv:List CK->List AV->List AV->Option Bool
 |[],[],[]=>AA AR
 | .i k::ks,.d (.int k1 x)::xs,.d (.int k2 y)::ys=>if k=k1 then (if k=k2 then match Gv ks xs ys with
   |some b=>AA (S.V4 (S.md x.val y.val) b)
   |none=>AD else AD) else AD
 | .o::ks,.d (.bool x)::xs,.d (.bool y)::ys=>match Gv ks xs ys with
   |some b=>AA (S.V4 (S.beq x y) b)
   |none=>AD
 |_,_,_=>AD
def y8:List AP->List AV->(List KC->Prop)->Prop
 |[],[],K=>K []
 |k::ks,.d (.int k' x)::xs,K=>if k=k' then S.mt (S.inr k x.val) (y8 ks xs fun l=>K (.i x.val::l)) else False
 |_,_,_=>False
def wb (wide:Bool)(ks:List AP)(v:AV)(K:List KC->Prop):Prop:=
 match v with
 | .agg cs=>if wide then y8 S ks cs K else False
 |v=>if wide then False else y8 S ks [v] K
def MC:AV->(Bool->Prop)->Prop
 | .d (.bool b),K=>K b
 |_,_=>False
def ql:AV->(IX->Prop)->Prop
 | .d (.int .i64 n),K=>K n
 |_,_=>False
def tg (ts:List AV):List ah->List AV
 |[]=>[]
 |x::l=>i7 ts x::tg ts l
def Ic (ts:List AV):List AV->List (Nat×Nat×ah)->Option (List AV)
 |cs,[]=>AA cs
 |cs,(off,sz,x)::r=>if AH (az (i7 ts x).cells) sz&&tv (i7 ts x).cells then match qm cs off (i7 ts x).cells with
    |some jw=>Ic ts jw r
    |none=>AD
  else AD
def zz (ts:List AV)(sz:Nat):List (List AV)->List (Nat×ah)->Option (List (List AV))
 |rs,[]=>AA rs
 |rs,(i,x)::r=>if AH (az (i7 ts x).cells) sz&&tv (i7 ts x).cells then match ax rs i with
    |some _=>zz ts sz (b8 rs i (i7 ts x).cells) r
    |none=>AD
  else AD
def w8 {α:Type}(x:α):Nat->List α
 |0=>[]
 |n+1=>x::w8 x n
def IY (h:List ae)(rs:List (List AV))(K:List (List DV)->List ae->Prop):Prop:=
 match rs with
 |[]=>K [] h
 |r::rs=>G3 S h r fun cs h'=>match W1 cs with
  |some l=>IY h' rs fun ls h''=>K (l::ls) h''
  |none=>False
def Gk (row:List DV)(off:Nat)(agg:Option Nat)(K:AV->Prop):Prop:=
 match agg with
 |none=>match ax row off with|some v=>K (.d v)|none=>False
 |some m=>match po row off m with|some c=>K (.agg (tu .d c))|none=>False
def Gl (h:List ae)(p:AV)(agg:Option Nat)(K:AV->Prop):Prop:=
 match p with
 | .ptr l off=>match ax h l with
   |some (.var cs)=>match agg with
    |none=>match ax cs off with|some v=>K v|none=>False
    |some n=>match po cs off n with|some c=>K (.agg c)|none=>False
   |_=>False
 | .ii l sz i off=>match ax h l with
   |some (.arr sz' n e)=>if AH sz sz' then S.mt (S.VZ i n) (Gk (e i) off agg K) else False
   |some (.t0 sz' n e)=>if AH sz sz' then S.mt (S.VZ i n) (Gk (e i) off agg K) else False
   |some (.n7 ap)=>if AH sz 1&&AH off 0 then match agg with
    |none=>match ax ap i with|some v=>K v|none=>False
    |some _=>False
    else False
   |_=>False
 | .d9 row off=>Gk row off agg K
 |_=>False
def Ta:Option ae->Option (List AV)
 |some (.n7 ap)=>AA ap
 |_=>AD
def IB (h:List ae)(p v:AV)(sz:Nat)(K:List ae->Prop):Prop:=
 match p with
 | .ptr l off=>if AH (az v.cells) sz&&tv v.cells then match ax h l with
   |some (.var cs)=>match qm cs off v.cells with|some jw=>K (b8 h l (.var jw))|none=>False
   |_=>False
   else False
 | .ii l sz' i off=>if AH (az v.cells) sz&&tv v.cells then match Ta (ax h l) with
   |some ap=>if AH sz' 1&&AH off 0&&AH sz 1 then match ax v.cells 0 with
    |some x=>S.mt (S.VZ i (az ap)) (K (b8 h l (.n7 (b8 ap i x))))
    |none=>False
    else False
   |none=>K0 S h v fun new h'=>match ax h' l with
   |some (.arr ec n e)=>if AH sz' ec then S.mt (S.VZ i n) (match qm (e i) off new with
     |some row=>K (b8 h' l (.arr ec n (S.Yq e i row)))
     |none=>False) else False
   |_=>False
   else False
 |_=>False
def AV.free:AV->Bool
 | .d _=>AR
 | .lm .. =>AR
 | .d9 .. =>AR
 | .fn _ [] []=>AR
 |_=>AF
def sd:List AV->Bool
 |[]=>AR
 | .agg cs::l=>if V7 cs then sd l else AF
 |v::l=>if v.free then sd l else AF
where V7:List AV->Bool
 |[]=>AR
 |v::l=>if v.free then V7 l else AF
def AV.W5:AV->Bool
 | .ptr .. =>AR
 | .ii .. =>AR
 | .d9 .. =>AR
 |_=>AF
def VU:Nat:=1073741824
def rz (ts:List AV)(x:Option ah)(d:IX)(K:IX->Prop):Prop:=
 match x with
 |none=>K d
 |some o=>ql (i7 ts o) K
def nat (S:We):IX->Nat
 | .v n=>S.toNat n
 | .l n=>n.toNat
def Iy (s:Option Nat)(lo:IX):Option Nat:=
 match lo with
 | .l 0=>s
 |lo=>match s with
  |none=>AA (nat S lo)
  |some t=>AA (S.fd t (nat S lo))
def n4 (e:Nat->List DV)(lo:IX):Nat->List DV:=
 match lo with
 | .l 0=>e
 |lo=>S.shift e (nat S lo)
def xg (ts:List AV)(sz:Nat)(x:AV)(lo hi mx:Option ah)(K:AV->Prop):Prop:=
 match x with
 | .bi l sz' s n f=>if AH sz sz' then
    rz ts lo (.l 0) fun lo=>rz ts hi (.v (S.ofNat n)) fun hi=>
     S.mt (S.ut 0 lo.val) (S.mt (S.ut lo.val hi.val) (S.mt (S.ut hi.val (S.ofNat n)) (
      match mx with
      |none=>if f then S.mt (hi.val=S.ofNat n) (K (.bi l sz (Iy S s lo) (S.T9 (nat S hi) (nat S lo)) AR)) else K (.bi l sz (Iy S s lo) (S.T9 (nat S hi) (nat S lo)) AF)
      |some m=>ql (i7 ts m) fun m=>S.mt (m.val=hi.val) (K (.bi l sz (Iy S s lo) (S.T9 (nat S hi) (nat S lo)) AR)))))
   else False
 | .d (.sl sz' n e)=>if AH sz sz' then
    rz ts lo (.l 0) fun lo=>rz ts hi (.v (S.ofNat n)) fun hi=>
     S.mt (S.ut 0 lo.val) (S.mt (S.ut lo.val hi.val) (S.mt (S.ut hi.val (S.ofNat n)) (
      match mx with
      |none=>K (.d (.sl sz (S.T9 (nat S hi) (nat S lo)) (n4 S e lo)))
      |some m=>ql (i7 ts m) fun m=>S.mt (m.val=hi.val) (K (.lm sz (S.T9 (nat S hi) (nat S lo)) (n4 S e lo))))))
   else False
 | .d .nil=>rz ts lo (.l 0) fun lo=>rz ts hi (.l 0) fun hi=>S.mt (lo.val=0) (S.mt (hi.val=0) (match mx with
    |none=>K (.d .nil)
    |some m=>ql (i7 ts m) fun m=>S.mt (m.val=0) (K (.d .nil))))
 |_=>False
def idx (i:IX)(n:Nat)(K:Nat->Prop):Prop:=S.mt (S.Yv i.val n) (K (nat S i))
def JA (sz:Nat)(x:AV)(i:IX)(K:AV->Prop):Prop:=
 match x with
 | .bi l sz' s n _=>if AH sz sz' then idx S i n fun j=>K (.ii l sz (GU S s j) 0) else False
 | .d (.sl sz' n e)=>if AH sz sz' then idx S i n fun j=>K (.d9 (e j) 0) else False
 | .lm sz' n e=>if AH sz sz' then idx S i n fun j=>K (.d9 (e j) 0) else False
 |_=>False
def zm (sz:Nat)(h:List ae)(v:AV)(K:Nat->Nat->(Nat->List DV)->Prop):Prop:=
 match v with
 | .d .nil=>K sz 0 fun _=>[]
 | .d (.raw (.slice _ 0 _))=>K sz 0 fun _=>[]
 |v=>um S h v K
def KI (h:List ae)(sz:Nat)(x y:AV)(mu:Bool)(K:AV->List ae->List Nat->Prop):Prop:=
 zm S sz h y fun qf m e2=>if AH sz qf then (
  match x with
  | .d .nil=>S.mt (S.VN m VU) (if mu then K (.bi (az h) sz AD m AF) (ba h [.arr sz m e2]) [] else K (.d (.sl sz m e2)) h [])
  | .lm sz' n e=>if AH sz sz' then S.mt (S.VN (S.fd n m) VU) (S.mt (S.VZ 0 m) (
     if mu then K (.bi (az h) sz AD (S.fd n m) AF) (ba h [.arr sz (S.fd n m) (S.app n e e2)]) []
     else K (.d (.sl sz (S.fd n m) (S.app n e e2))) h [])) else False
  | .bi l sz' AD n AF=>if AH sz sz' then match ax h l with
     |some (.arr ec n' e)=>if AH sz ec then S.mt (n'=n) (S.mt (S.VN (S.fd n m) VU)
       (K (.bi l sz AD (S.fd n m) AF) (pq l AF (b8 h l (.arr sz (S.fd n m) (S.app n e e2)))) [l])) else False
     |_=>False else False
  | .bi l sz' s n AR=>if AH sz sz' then um S h (.bi l sz' s n AR) fun _ n e=>S.mt (S.VN (S.fd n m) VU) (S.mt (S.VZ 0 m) (
     if mu then K (.bi (az h) sz AD (S.fd n m) AF) (ba h [.arr sz (S.fd n m) (S.app n e e2)]) []
     else K (.d (.sl sz (S.fd n m) (S.app n e e2))) h [])) else False
  |_=>False) else False
def y7:AV->Bool
 | .d .nil=>AR
 | .d (.sl _ 0 _)=>AR
 | .lm _ 0 _=>AR
 | .bi _ _ _ 0 _=>AR
 |_=>AF
def f7l (n:Nat):Option Nat->Nat
 |none=>n
 |some s=>S.T9 n s
def NS:Option Nat->Nat
 |none=>0
 |some s=>s
def NT (h:List ae)(sz:Nat)(x y:AV)(K:AV->List ae->Prop):Prop:=
 zm S sz h y fun qf m e2=>if AH sz qf then (
  match x with
  | .bi l sz' s n AF=>if AH sz sz' then match ax h l with
     |some (.arr ec n' e)=>if AH sz ec then S.mt (S.VN (S.fd (GU S s n) m) n') (
       K (.bi l sz s (S.fd n m) AF) (b8 h l (.arr sz n' (S.put (GU S s n) m e e2)))) else False
     |_=>False else False
  |_=>False) else False
def zh (e:Nat->List DV):Nat->Option (List AV)
 |0=>AA []
 |k+1=>match zh e k with
  |some l=>match e k with
   |[x]=>AA (ba l [.d x])
   |_=>AD
  |none=>AD
def NU (h:List ae)(sz:Nat)(x y:AV)(K:AV->List ae->Prop):Prop:=
 zm S sz h y fun qf m e2=>if AH sz qf then (
  match x with
  | .bi l sz' s n _=>if AH sz sz' then match ax h l with
     |some (.arr ec n' e)=>if AH sz ec then S.mt (S.VN (GU S s n) n') (
       K (.d (.int .i64 (.v (S.ofNat (S.WU n m))))) (b8 h l (.arr sz n' (S.put (NS s) (S.WU n m) e e2)))) else False
     |_=>False else False
  | .d7 l off n=>if AH sz 1 then match ax h l with
     |some (.var cs)=>match zh e2 (S.WU n m) with
      |some new=>match qm cs off new with
       |some jw=>K (.d (.int .i64 (.v (S.ofNat (S.WU n m))))) (b8 h l (.var jw))
       |none=>False
      |none=>False
     |_=>False else False
  |_=>False) else False
def NX (h:List ae)(y:AV)(K:List AV->Prop):Prop:=
 match y with
 | .d .nil=>K []
 | .d (.sl 1 n e)=>match zh e n with|some l=>K l|none=>False
 | .bi l 1 s n _=>match ax h l with
   |some (.n7 ap)=>match po ap (NS s) n with|some c=>K c|none=>False
   |_=>False
 |_=>False
def Rg (h:List ae)(x y:AV)(K:AV->List ae->List Nat->Prop):Prop:=
 NX h y fun new=>match x with
  | .bi l 1 AD n AF=>match ax h l with
    |some (.n7 ap)=>S.mt (az ap=n) (S.mt (S.VN (S.fd n (az new)) VU) (S.mt (tv new=AR)
      (K (.bi l 1 AD (S.fd n (az new)) AF) (pq l AF (b8 h l (.n7 (ba ap new)))) [l])))
    |_=>False
  |_=>False
def Iz (ts:List AV)(sz sz' n:Nat)(lo hi mx:Option ah)(K:Prop):Prop:=
 if AH sz sz' then rz ts lo (.l 0) fun lo=>rz ts hi (.v (S.ofNat n)) fun hi=>rz ts mx (.v (S.ofNat n)) fun mx=>
  S.mt (S.ut 0 lo.val) (S.mt (S.ut lo.val hi.val) (S.mt (S.ut hi.val mx.val) (S.mt (S.ut mx.val (S.ofNat n)) K))) else False
def af (o:qr)(st:St)(K:AV->List ae->List Nat->Prop):Prop:=
 match o with
 | .mv x=>K (i7 st.ts x) st.h []
 | .VA sz=>K (.bi (az st.h) sz AD 0 AF) (ba st.h [.arr sz 0 fun _=>[]]) []
 | .V5 sz=>K (.bi (az st.h) sz AD 0 AF) (ba st.h [.arr sz 0 fun _=>[]]) []
 | .pick c a b=>MC (i7 st.ts c) fun
   |true=>K (i7 st.ts a) st.h []
   |false=>K (i7 st.ts b) st.h []
 | .alloc zs=>K (.ptr (az st.h) 0) (ba st.h [.var (tu .d zs)]) []
 | .box x=>if tv (i7 st.ts x).cells then K (.ptr (az st.h) 0) (ba st.h [.var (i7 st.ts x).cells]) [] else False
 | .build zs ps=>match Ic st.ts (tu .d zs) ps with|some cs=>K (.agg cs) st.h []|none=>False
 | .x8 sz len zs ps mu=>match zz st.ts sz (w8 (tu .d zs) len) ps with
   |some rs=>IY S st.h rs fun rows h'=>
     if mu then K (.bi (az h') sz AD len AF) (ba h' [.arr sz len (rowAt rows)]) [] else K (.d (.sl sz len (rowAt rows))) h' []
   |none=>False
 | .load agg x=>Gl S st.h (i7 st.ts x) agg fun v=>K v st.h []
 | .store sz a x=>IB S st.h (i7 st.ts a) (i7 st.ts x) sz fun h'=>K (.lc) h' []
 | .T8 x=>if (i7 st.ts x).W5 then K (i7 st.ts x) st.h [] else False
 | .bin op x y=>match i7 st.ts x,i7 st.ts y with
   | .d (.int k a),.d (.int k' b)=>if k=k' then H9 S op k a b fun v=>K (.d v) st.h [] else False
   | .d (.int .i64 a),.ge m=>match op with
     | .gtr=>S.mt (S.ut a.val (S.ofNat m)) (K (.d (.bool AF)) st.h [])
     |_=>False
   |_,_=>False
 | .WC op x y=>match i7 st.ts x,i7 st.ts y with
   | .d (.bool a),.d (.bool b)=>match op with
     | .eql=>K (.d (.bool (S.beq a b))) st.h []
     | .neq=>K (.d (.bool (S.jp (S.beq a b)))) st.h []
     |_=>False
   |_,_=>False
 | .Yb neg ks x y=>match i7 st.ts x,i7 st.ts y with
   | .agg xs,.agg ys=>match My S ks xs ys with
     |some b=>K (.d (.bool (if neg then S.jp b else b))) st.h []
     |none=>False
   |_,_=>False
 | .un op x=>match op,i7 st.ts x with
   | .not,.d (.bool AR)=>K (.d (.bool AF)) st.h []
   | .not,.d (.bool AF)=>K (.d (.bool AR)) st.h []
   | .neg,.d (.int k n)=>S.mt (S.inr k (S.Vz 0 n.val)) (K (.d (.int k (.v (S.Vz 0 n.val)))) st.h [])
   |_,_=>False
 | .conv k x=>match i7 st.ts x with
   | .d (.int _ n)=>K (.d (.int k (.v (S.Wc k n.val)))) st.h []
   |_=>False
 | .WT f first cap=>K (.fn f (tg st.ts first) (tg st.ts cap)) st.h []
 | .x6 wide ks=>K (.map (az st.h)) (ba st.h [.map wide ks 0 fun _=>AD]) []
 | .mp sz zs _ n=>ql (i7 st.ts n) fun n=>S.mt (S.ut 0 n.val) (S.mt (S.ut n.val (S.ofNat VU))
    (K (.bi (az st.h) sz AD (nat S n) AF) (ba st.h [.arr sz (nat S n) (S.rep (nat S n) zs)]) []))
 | .slice sz x lo hi mx=>xg S st.ts sz (i7 st.ts x) lo hi mx fun v=>K v st.h []
 | .VH n x lo hi=>match i7 st.ts x with
   | .ptr l off=>rz st.ts lo (.l 0) fun lo=>rz st.ts hi (.l n) fun hi=>
      S.mt (S.ut 0 lo.val) (S.mt (S.ut lo.val hi.val) (S.mt (S.ut hi.val (S.ofNat n)) (match S.T9 (nat S hi) (nat S lo) with
       |0=>K (.d (.sl 1 0 fun _=>[])) st.h []
       |m+1=>K (.d7 l (S.fd off (nat S lo)) (m+1)) st.h [])))
   |_=>False
 | .VX off x=>match i7 st.ts x with
   | .ptr l o=>K (.ptr l (o+off)) st.h []
   | .ii l sz i o=>K (.ii l sz i (o+off)) st.h []
   | .d9 row o=>K (.d9 row (o+off)) st.h []
   |_=>False
 | .field off agg x=>match i7 st.ts x with
   | .agg cs=>match agg with
     |none=>match ax cs off with|some v=>K v st.h []|none=>False
     |some n=>match po cs off n with|some c=>K (.agg c) st.h []|none=>False
   |_=>False
 | .VG sz x i=>ql (i7 st.ts i) fun i=>JA S sz (i7 st.ts x) i fun v=>K v st.h []
 | .z5 n sz x i=>ql (i7 st.ts i) fun i=>match i7 st.ts x with
   | .ptr l off=>match i with
     | .l i=>if BH i.toNat n&&BP (Int.ofNat i.toNat) i then K (.ptr l (off+i.toNat*sz)) st.h [] else False
     | .v i=>S.mt (S.Yv i n) (K (.ptr l (S.fd off (S.wp (S.toNat i) sz))) st.h [])
   |_=>False
 | .lookup wide ks ok m k=>match i7 st.ts m with
   | .map l=>match ax st.h l with
     |some (.map ct dt _ f)=>if wide=ct/\ks=dt then wb S wide ks (i7 st.ts k) fun kc=>
       if ok then K (.tuple [.d (.int .i64 (.v (S.W6 f kc))),.d (.bool (S.WG f kc))]) st.h [] else K (.d (.int .i64 (.v (S.W6 f kc)))) st.h [] else False
     |_=>False
   |_=>False
 | .Id wide ks m k x=>match i7 st.ts m with
   | .map l=>match ax st.h l with
     |some (.map ct dt n f)=>if wide=ct/\ks=dt then wb S wide ks (i7 st.ts k) fun kc=>
       ql (i7 st.ts x) fun x=>K .lc (b8 st.h l (.map wide ks (S.WF f kc n) (S.Xx f kc x.val))) [] else False
     |_=>False
   |_=>False
 | .extract x i=>match i7 st.ts x with
   | .tuple vs=>match ax vs i with|some v=>K v st.h []|none=>False
   |_=>False
 | .call f args m=>match MU (i7 st.ts f) with
   | .fn f first cap=>match m with
     | .borrow=>HU S st.h (ba first (ba (tg st.ts args) cap)) fun vs=>if sd vs then S.Wr AR f (AV.rg vs) fun v=>K v st.h [] else False
     | .share=>wu S st.h (ba first (ba (tg st.ts args) cap)) fun vs h'=>if sd vs then S.Wr AF f (AV.rg vs) fun v=>K v h' [] else False
     | .data=>if sd (ba first (ba (tg st.ts args) cap)) then S.Wr AF f (AV.rg (ba first (ba (tg st.ts args) cap))) fun v=>K v st.h [] else False
     | .fresh=>wu S st.h (ba first (ba (tg st.ts args) cap)) fun vs h'=>if sd vs then
        S.Ym f (AV.rg vs) fun x os=>K (x.shift (az h')) (ba h' (KF (az h') os)) [] else False
     | .raw=>S.call f (AV.rg (ba first (ba (tg st.ts args) cap))) st.h fun pg v h''=>K v h'' pg
   | .yl l=>if m= .raw then S.X8 l (AV.rg (tg st.ts args)) st.h fun pg v h''=>K v h'' pg else False
   |_=>False
 | .len x=>match i7 st.ts x with
   | .d .nil=>K (.d (.int .i64 (.l 0))) st.h []
   | .d (.sl _ n _)=>K (.d (.int .i64 (.v (S.ofNat n)))) st.h []
   | .lm _ n _=>K (.d (.int .i64 (.v (S.ofNat n)))) st.h []
   | .bi _ _ _ n _=>K (.d (.int .i64 (.v (S.ofNat n)))) st.h []
   | .d7 _ _ n=>K (.d (.int .i64 (.v (S.ofNat n)))) st.h []
   |_=>False
 | .V8 x=>match i7 st.ts x with
   | .map l=>match ax st.h l with
     |some (.map _ _ n _)=>K (.d (.int .i64 (.v (S.ofNat n)))) st.h []
     |some (.dz _ _ keys _)=>K (.d (.int .i64 (.v (S.ofNat (az keys))))) st.h []
     |_=>False
   |_=>False
 | .cap x=>match i7 st.ts x with
   | .bi l sz s n f=>match ax st.h l with
     |some (.arr sz' m _)=>if AH sz sz' then (if f then K (.d (.int .i64 (.v (S.ofNat n)))) st.h []
       else K (.ge (f7l S m s)) st.h []) else False
     |_=>False
   |_=>False
 | .min x y=>match i7 st.ts x,i7 st.ts y with
   | .d (.int k a),.d (.int k' b)=>if k=k' then K (.d (.int k (.v (S.VY (S.Vu b.val a.val) b.val a.val)))) st.h [] else False
   |_,_=>False
 | .bw op x y=>match i7 st.ts x,i7 st.ts y with
   | .d (.int k a),.d (.int k' b)=>YU S op k k' a.val b.val fun n=>K (.d (.int k (.v n))) st.h []
   |_,_=>False
 | .max x y=>match i7 st.ts x,i7 st.ts y with
   | .d (.int k a),.d (.int k' b)=>if k=k' then K (.d (.int k (.v (S.VY (S.Vu a.val b.val) b.val a.val)))) st.h [] else False
   |_,_=>False
 | .append sz _ x y mu=>KI S st.h sz (i7 st.ts x) (i7 st.ts y) mu K
 | .copy sz x y=>NU S st.h sz (i7 st.ts x) (i7 st.ts y) fun v h'=>K v h' []
 | .bad=>False
 | .oq sz x y=>NT S st.h sz (i7 st.ts x) (i7 st.ts y) fun v h'=>K v h' []
 | .clear sz zs x=>match i7 st.ts x with
   | .bi l sz' s n _=>if AH sz sz' then match ax st.h l with
     |some (.arr ec n' e)=>if AH sz ec then S.mt (S.VN (GU S s n) n') (K .any (b8 st.h l (.arr sz n' (S.put (NS s) n e (S.rep n zs)))) []) else False
     |_=>False else False
   |_=>False
 | .Vy neg x=>match i7 st.ts x with
   | .d .nil=>K (.d (.bool (if neg then AF else AR))) st.h []
   | .d (.sl _ n _)=>S.mt (S.VZ 0 n) (K (.d (.bool neg)) st.h [])
   | .lm _ n _=>S.mt (S.VZ 0 n) (K (.d (.bool neg)) st.h [])
   | .bi _ _ _ n _=>S.mt (S.VZ 0 n) (K (.d (.bool neg)) st.h [])
   | .d (.raw (.slice AD _ _))=>K (.d (.bool (if neg then AF else AR))) st.h []
   | .d (.raw (.slice (AA _) _ _))=>K (.d (.bool neg)) st.h []
   |_=>False
 | .Vo sz x lo hi=>match i7 st.ts x with
   | .bi l sz' s n AF=>if AH sz sz' then match ax st.h l with
     |some (.arr ec n' _)=>if AH sz ec then rz st.ts lo (.l 0) fun lo=>rz st.ts hi (.v (S.ofNat n)) fun hi=>
       S.mt (S.ut 0 lo.val) (S.mt (S.ut lo.val hi.val) (S.mt (S.VN (GU S s (nat S hi)) n') (K (.bi l sz (Iy S s lo) (S.T9 (nat S hi) (nat S lo)) AF) st.h []))) else False
     |_=>False else False
   |_=>False
 | .idxs l x=>match i7 st.ts x with
   | .d (.int _ i)=>S.mt (S.Yv i.val (az l)) (K (.d (.int .u8 (.v (S.YK l i.val)))) st.h [])
   |_=>False
 | .VI sz x lo hi mx=>match i7 st.ts x with
   | .bi _ sz' _ n _=>Iz S st.ts sz sz' n lo hi mx (K .any st.h [])
   | .d (.sl sz' n _)=>Iz S st.ts sz sz' n lo hi mx (K .any st.h [])
   |_=>False
 | .XE x y=>match i7 st.ts x,i7 st.ts y with
   | .bi l _ _ n1 _,.bi l' _ _ n2 _=>if AH l l' then False else S.mt (S.VZ 0 n1)<|S.mt (S.VZ 0 n2)<|match ax st.h l,ax st.h l' with
     |some (.arr 1 _ _),AA (.arr 1 n' _)=>S.mt (S.VZ 0 n') (K (.d (.bool AF)) st.h [])
     |_,_=>False
   |_,_=>False
 | .pi sz _ x y mu=>match i7 st.ts x,y7 (i7 st.ts y) with
   | .d .nil,AR=>K (.d .nil) st.h []
   | .lm sz' 0 e,AR=>K (.lm sz' 0 e) st.h []
   |x,_=>KI S st.h sz x (i7 st.ts y) mu K
 | .Wf neg ks x y=>match i7 st.ts x,i7 st.ts y with
   | .agg xs,.agg ys=>match Gv S ks xs ys with
     |some b=>K (.d (.bool (if neg then S.jp b else b))) st.h []
     |none=>False
   |_,_=>False
 | .og wide ks=>K (.map (az st.h)) (ba st.h [.dz wide ks [] []]) []
 | .m9 wide ks ok z m k=>match i7 st.ts m with
   | .map l=>match ax st.h l with
     |some (.dz ct dt keys ap)=>if wide=ct/\ks=dt then wb S wide ks (i7 st.ts k) fun kc=>match mf kc keys ap with
       |some v=>if ok then K (.tuple [v,.d (.bool AR)]) st.h [] else K v st.h []
       |none=>if ok then K (.tuple [z,.d (.bool AF)]) st.h [] else K z st.h []
      else False
     |_=>False
   |_=>False
 | .n9 wide ks m k x=>match i7 st.ts m with
   | .map l=>match ax st.h l with
     |some (.dz ct dt keys ap)=>if wide=ct/\ks=dt then wb S wide ks (i7 st.ts k) fun kc=>match HM kc (i7 st.ts x) keys ap with
       |some uk=>K .lc (b8 st.h l (.dz wide ks keys uk)) []
       |none=>K .lc (b8 st.h l (.dz wide ks (ba keys [kc]) (ba ap [i7 st.ts x]))) []
      else False
     |_=>False
   |_=>False
 | .t6 sz len zs ps=>match zz st.ts sz (w8 (tu .d zs) len) ps with
   |some rs=>match MP rs with
    |some rows=>K (.d (.sl sz len (rowAt rows))) st.h []
    |none=>False
   |none=>False
 | .pm x i=>match i7 st.ts x with
   | .tuple vs=>match ax vs i with
     |some (.agg cs)=>G3 S st.h cs fun jw h'=>K (.agg jw) h' []
     |some (.ptr l 0)=>IW S st.h l fun v' h'=>K v' h' []
     |some v=>uv S st.h v fun v' h'=>K v' h' []
     |none=>False
   |_=>False
 | .SW wide ks z m k=>match i7 st.ts m with
   | .map l=>match ax st.h l with
     |some (.dz ct dt keys ap)=>if wide=ct/\ks=dt then wb S wide ks (i7 st.ts k) fun kc=>match pw kc keys 0 with
       |some i=>match ax ap i with
        |some v=>K (.tuple [v,.d (.int .i64 (.v (S.ofNat i)))]) st.h []
        |none=>False
       |none=>K (.tuple [z,.d (.int .i64 (.v (S.ofNat (az keys))))]) (b8 st.h l (.dz wide ks (ba keys [kc]) (ba ap [z]))) []
      else False
     |_=>False
   |_=>False
 | .v6 sz=>K (.lm sz 0 fun _=>[]) st.h []
 | .Wq=>K (.bi (az st.h) 1 AD 0 AF) (ba st.h [.n7 []]) []
 | .Wp sz=>K (.bi (az st.h) sz AD 0 AF) (ba st.h [.arr sz 0 fun _=>[]]) []
 | .x5 _ x y=>Rg S st.h (i7 st.ts x) (i7 st.ts y) K
 | .t5 sz _ x y=>match i7 st.ts x,i7 st.ts y with
   | .d .nil,.d .nil=>K (.d .nil) st.h []
   | .d .nil,.d (.sl sz' m e)=>if AH sz sz' then S.mt (S.VN m VU) (K (.d (.sl sz m e)) st.h []) else False
   |_,_=>False
 | .W8 x=>match i7 st.ts x with
   | .map l=>match ax st.h l with
     |some (.dz _ _ keys _)=>K (.ptr (az st.h) 0) (ba st.h [.iter (.map l) (az keys) []]) []
     |_=>False
   |_=>False
 | .W7 x=>match i7 st.ts x with
   | .ptr l 0=>match ax st.h l with
     |some (.iter (.map m) since seen)=>match ax st.h m with
      |some (.dz _ _ keys _)=>S.mt (since=az keys) (S.Yt seen since (K (.tuple [.d (.bool AF)]) st.h [])
        fun i=>K (.tuple [.d (.bool AR),.any,.any]) (b8 st.h l (.iter (.map m) since (i::seen))) [])
      |_=>False
     |_=>False
   |_=>False
 | .W2 x=>match i7 st.ts x with
   | .ptr l 0=>match ax st.h l with
     |some (.iter (.map m) since (i::_))=>match ax st.h m with
      |some (.dz wide ks keys ap)=>S.mt (since=az keys) (match ax keys i with
       |some k=>match ax ap i with
        |some v=>K (.tuple [m2l wide ks k,v]) st.h []
        |none=>False
       |none=>False)
      |_=>False
     |_=>False
   |_=>False
 | .VW m s x=>match i7 st.ts m with
   | .map l=>match ax st.h l with
     |some (.dz wide ks keys ap)=>ql (i7 st.ts s) fun n=>idx S n (az ap) fun j=>K .lc (b8 st.h l (.dz wide ks keys (b8 ap j (i7 st.ts x)))) []
     |_=>False
   |_=>False
end
section
variable {α:Type}
theorem gw (l:List α)(i:Nat):(match l,i with
 |[],_=>AD
 |x::_,0=>AA x
 |_::l,i+1=>ax l i)=ax l i:=(ax.eq_def l i).symm
theorem gx (l:List α)(i:Nat)(y:α):(match l,i,y with
 |[],_,_=>[]
 |_::l,0,y=>y::l
 |x::l,i+1,y=>x::b8 l i y)=b8 l i y:=(b8.eq_def l i y).symm
theorem iq (l m:List α):(match l,m with
 |[],m=>m
 |x::l,m=>x::ba l m)=ba l m:=(ba.eq_def l m).symm
theorem ko (l:List α)(i n:Nat):(match l,i,n with
 |_,0,0=>AA []
 |[],0,_+1=>AD
 |x::l,0,n+1=>match po l 0 n with|some r=>AA (x::r)|none=>AD
 |[],_+1,_=>AD
 |_::l,i+1,n=>po l i n)=po l i n:=(po.eq_def l i n).symm
theorem kg (l:List α)(i:Nat)(m:List α):(match l,i,m with
 |l,0,[]=>AA l
 |[],_,_=>AD
 |_::l,0,y::new=>match qm l 0 new with|some r=>AA (y::r)|none=>AD
 |x::l,i+1,new=>match qm l i new with|some r=>AA (x::r)|none=>AD)=qm l i m:=(qm.eq_def l i m).symm
theorem fo (l:List α):(match l with
 |[]=>0
 |_::l=>az l+1)=az l:=(az.eq_def l).symm
end
theorem ki (l:Nat)(a:Bool)(h:List ae):(match h with
 |[]=>[]
 |o::r=>o.forget l a::pq l a r)=pq l a h:=(pq.eq_def l a h).symm
theorem j8 (l:Nat)(a:Bool)(h:List AV):(match h with
 |[]=>[]
 |v::r=>v.forget l a::AV.ip l a r)=AV.ip l a h:=(AV.ip.eq_def l a h).symm
theorem ja (k:List KC)(ks:List (List KC))(vs:List AV):(match ks,vs with
 |k'::ks,v::vs=>if k'=k then AA v else mf k ks vs
 |_,_=>AD)=mf k ks vs:=(mf.eq_def k ks vs).symm
theorem jb (k:List KC)(ks:List (List KC))(n:Nat):(match ks,n with
 |[],_=>AD
 |k'::ks,n=>if k'=k then AA n else pw k ks (n+1))=pw k ks n:=(pw.eq_def k ks n).symm
section
variable (S:We)
def e7y (next:St->Prop)(Q:Lv->St->Prop):Lv->St->Prop
 | .normal,st=>next st
 |e,st=>Q e st
def RY (id:Nat)(Q:Lv->St->Prop):Lv->St->Prop
 | .exit i,st=>if AH i id then Q .normal st else Q (.exit i) st
 |e,st=>Q e st
def St.VB (st:St)(j:Nat)(b:Bool):St:=st.put (AA j) (.d (.bool b))
def MQ (o:jm)(st:St)(K:St->Prop):Prop:=
 af S o.op st fun v h pg=>K (((st.ld h).i5 pg).put o.dst v)
def MR (o:jm)(st:St)(K:St->Prop):Prop:=
 match o.guard with
 |none=>MQ S o st K
 |some (j,want)=>match ax st.ts j with
  |some (.d (.bool b))=>match b with
   |true=>if want then MQ S o (st.VB j AR) K else K ((st.VB j AR).put o.dst .lc)
   |false=>if want then K ((st.VB j AF).put o.dst .lc) else MQ S o (st.VB j AF) K
  |some .lc=>K (st.put o.dst .lc)
  |_=>False
def R9:List jm->St->(St->Prop)->Prop
 |[],st,K=>K st
 |o::os,st,K=>MR S o st fun st=>R9 os st K
def ti (l:Nat)(o:qr)(st:St)(K:AV->ae->Prop):Prop:=
 match o with
 | .alloc zs=>K (.ptr l 0) (.var (tu .d zs))
 | .box x=>if tv (i7 st.ts x).cells then K (.ptr l 0) (.var (i7 st.ts x).cells) else False
 | .x6 wide ks=>K (.map l) (.map wide ks 0 fun _=>AD)
 | .og wide ks=>K (.map l) (.dz wide ks [] [])
 | .V5 sz=>K (.bi l sz AD 0 AF) (.arr sz 0 fun _=>[])
 | .mp sz zs _ n=>ql (i7 st.ts n) fun n=>S.mt (S.ut 0 n.val) (S.mt (S.ut n.val (S.ofNat VU)) (K (.bi l sz AD (nat S n) AF) (.arr sz (nat S n) (S.rep (nat S n) zs))))
 |_=>False
def ZA:AV->Option Nat
 | .ptr l _=>AA l
 | .ii l _ _ _=>AA l
 | .map l=>AA l
 |_=>AD
def Gx (base l:Nat):List Nat->Bool
 |[]=>AR
 |s::r=>if AH l (base+s) then AF else Gx base l r
def yn (base:Nat)(d:cz)(ts:List AV):Bool:=
 match d.av with
 |[]=>AR
 |_=>match d.o.op.at with
  |some x=>match i7 ts x with
   | .ptr l _=>Gx base l d.av
   | .ii l _ _ _=>if d.o.op.kl= .r then Gx base l d.av else AF
   | .map l=>if d.o.op.kl= .r then Gx base l d.av else AF
   | .d9 _ _=>if d.o.op.kl= .r then AR else AF
   |_=>AF
  |none=>AF
def z6 (o:jm)(st:St)(off:St->Prop)(on:St->Prop):Prop:=
 match o.guard with
 |none=>on st
 |some (j,want)=>match ax st.ts j with
  |some (.d (.bool b))=>match b with
   |true=>if want then on (st.VB j AR) else off (st.VB j AR)
   |false=>if want then off (st.VB j AF) else on (st.VB j AF)
  |some .lc=>off st
  |_=>False
def qy (base:Nat)(st:St)(k:Prop):List cz->Prop
 |[]=>k
 |r::rs=>if r.o.op.kl= .r then z6 r.o st (fun _=>qy base st k rs) fun st=>if yn base r st.ts then
   af S r.o.op st fun v _ _=>match r.o.dst with
    |some d=>S.mt (S.same v (i7 st.ts (.t d))) (qy base st k rs)
    |none=>qy base st k rs
   else False
  else qy base st k rs
mutual
def sy (pg:List Nat):AV->Bool
 | .agg cs=>Ia pg cs
 | .tuple cs=>Ia pg cs
 | .fn _ us cs=>if Ia pg us then Ia pg cs else AF
 | .ptr m _=>xl m pg
 | .ii m _ _ _=>xl m pg
 | .bi m _ _ _ _=>xl m pg
 | .d7 m _ _=>xl m pg
 | .map m=>xl m pg
 | .yl m=>xl m pg
 |_=>AR
def Ia (pg:List Nat):List AV->Bool
 |[]=>AR
 |v::l=>if sy pg v then Ia pg l else AF
def xl (m:Nat):List Nat->Bool
 |[]=>AR
 |l::pg=>if AH l m then AF else xl m pg
end
def yp (pg:List Nat)(ts:List AV):List Nat->Bool
 |[]=>AR
 |t::l=>if (match ax ts t with|some v=>sy pg v|none=>AR) then yp pg ts l else AF
def OD (o:jm):List Nat:=
 match o.dst with
 |none=>[]
 |some d=>[d]
def xj (pg:List Nat)(ts:List AV):List cz->Bool
 |[]=>AR
 |r::rs=>if yp pg ts r.o.Vv then (if yp pg ts (OD r.o) then xj pg ts rs else AF) else AF
def Mz (base s:Nat)(pg:List Nat):Bool:=
 match s with
 |0=>AR
 |s+1=>go base (base+(s+1)) pg
where go (base lim:Nat):List Nat->Bool
 |[]=>AR
 |l::pg=>if BH l base then go base lim pg else if A7 lim l then go base lim pg else AF
def sr (i:Nat):List Nat->Bool
 |[]=>AF
 |j::l=>if AH i j then AR else sr i l
def sx (d:cz):List cz->List cz
 |[]=>[]
 |r::F=>if sr r.i d.YS then sx d F else r::sx d F
def WM (base:Nat)(F:List cz)(d:cz)(st:St)(K:St->Prop):Prop:=
 match d.o.op.kl with
 | .a=>ti S (base+d.slot) d.o.op st fun v o=>K ((st.ld (b8 st.h (base+d.slot) o)).put d.o.dst v)
 | .m=>if yn base d st.ts then af S d.o.op st fun v h pg=>match pg with
    |[]=>qy S base ((st.ld h).put d.o.dst v) (K ((st.ld h).put d.o.dst v)) (sx d F)
    |pg=>if d.alone then K (((st.ld h).i5 pg).put d.o.dst v) else
      if Mz base d.slot pg then (if xj pg st.ts (sx d F) then qy S base (((st.ld h).i5 pg).put d.o.dst v) (K (((st.ld h).i5 pg).put d.o.dst v)) (sx d F) else False) else False
   else False
 | .r=>if yn base d st.ts then af S d.o.op st fun v _ _=>K (st.put d.o.dst v) else False
 |_=>af S d.o.op st fun v _ _=>K (st.put d.o.dst v)
def r9 (base:Nat)(F:List cz)(d:cz)(st:St)(K:St->Prop):Prop:=
 z6 d.o st (fun st=>K (st.put d.o.dst .lc)) fun st=>WM S base F d st K
def za (d:cz)(F:List cz):List cz:=if d.watch then d::F else F
def XK (base:Nat)(F:List cz)(ds:List cz)(st:St)(K:St->Prop):Prop:=
 match ds with
 |[]=>K st
 |d::ds=>r9 S base F d st fun st=>XK base (za d F) ds st K
def St.XX (st:St)(c:ah)(b:Bool):St:=
 match c with
 | .t j=>st.VB j b
 | .c _=>st
def ev:gy->(Lv->St->Prop)->St->Prop
 | .skip,Q,st=>Q .normal st
 | .ops l,Q,st=>R9 S l st (Q .normal)
 | .draw n l,Q,st=>XK S (az st.h) [] l ⟨st.ts,ba st.h (w8 (.var []) n),st.mv⟩ (Q .normal)
 | .seq a b,Q,st=>ev a (e7y (ev b Q) Q) st
 | .cond c a b,Q,st=>match i7 st.ts c with
   | .d (.bool x)=>match x with
     |true=>ev a Q (st.XX c AR)
     |false=>ev b Q (st.XX c AF)
   |_=>False
 | .block id c,Q,st=>ev c (RY id Q) st
 | .loop c,Q,st=>S.loop c Q st
 | .range f ps a b,Q,st=>S.range f ps a b Q st
 | .exit id,Q,st=>Q (.exit id) st
 | .scope c,Q,st=>S.mt S.top (ev c Q st)
 | .label _,Q,st=>Q .normal st
 | .ret,Q,st=>Q .ret st
end
structure t7 where
 ops:List (Nat×Nat×Nat):=[]
 refs:List (Nat×List (Nat×Bool)):=[]
def t7.at (a:t7)(r i:Nat):Nat:=
 match a.ops.find? fun (r',i',_)=>r==r'&&i==i' with
 |some (_,_,c)=>c
 |none=>0
def OE:AE->Option DV
 | .int k n=>AA (.int k (.l n))
 | .bool b=>AA (.bool b)
 | .string s=>AA (.str s.data.toList)
 | .slice AD 0 0=>AA .nil
 | .map AD=>AA (.raw (.map AD))
 | .pointer AD=>AA (.raw (.pointer AD))
 | .nilFunc=>AA (.raw .nilFunc)
 | .nilIface=>AA (.raw .nilIface)
 |_=>AD
def R6 (v:AE):Option (List DV):=v.cells.toList.mapM OE
def RV (v:AE):Option AV:=
 match v with
 | .agg cs=>do AM (.agg ((<-cs.toList.mapM OE).map .d))
 |v=>do AM (.d (<-OE v))
def bh:AZ->Option ah
 | .tmp t=>AA (.t t)
 | .const v=>do AM (.c (<-RV v))
 | .func f=>AA (.c (.fn f [] []))
 | .global _=>AD
def NF (l:Array AZ):Option (List ah):=l.toList.mapM bh
def mz:Option AZ->Option (Option ah)
 |none=>AA AD
 |some x=>do AM (AA (<-bh x))
def HX (P:AU)(t:AJ):Option Nat:=(P.info? t).map (·.size)
def zu (P:AU)(t:AJ):Option Nat:=(P.info? t).map (·.bytes)
def uo (P:AU)(t:AJ):Option (List DV):=do
 let i<-P.info? t
 R6 (<-i.zero)
def Ms (P:AU)(t:AJ):Option AV:=do
 let i<-P.info? t
 RV (<-i.zero)
def IK (P:AU)(t:AJ):Option (Option Nat):=do
 match<-P.underlying t with
 | .struct _| .array _ _=>AM (AA (<-HX P t))
 |_=>AM AD
def GB {α:Type}(P:AU)(g:AJ->Option (List α)):List Field->Nat->Option (List α)
 |[],_=>AA []
 |f::fs,off=>do
  let ks<-g f.type
  if f.offset=off/\ks.length=P.cellsOf f.type then
   let r<-GB P g fs (off+ks.length)
   AM (ks++r)
  else AD
def xo (P:AU):Nat->AJ->Option (List AP)
 |0,_=>AD
 |d+1,t=>
  match P.underlying t with
  |some (.int k)=>if P.cellsOf t=1 then AA [k] else AD
  |some (.struct fs)=>do
   let ks<-GB P (xo P d) fs.toList 0
   if ks.length=P.cellsOf t/\fs.all (·.name != "_")=AR then AM ks else AD
  |some (.array n e)=>do
   let ks<-xo P d e
   if ks.length=P.cellsOf e/\n*P.cellsOf e=P.cellsOf t then AM (BI n ks).flatten else AD
  |_=>AD
def ua (P:AU):Nat->AJ->Option (List CK)
 |0,_=>AD
 |d+1,t=>
  match P.underlying t with
  |some (.int k)=>if P.cellsOf t=1 then AA [.i k] else AD
  |some .bool=>if P.cellsOf t=1 then AA [.o] else AD
  |some (.struct fs)=>do
   let ks<-GB P (ua P d) fs.toList 0
   if ks.length=P.cellsOf t/\fs.all (·.name != "_")=AR then AM ks else AD
  |some (.array n e)=>do
   let ks<-ua P d e
   if ks.length=P.cellsOf e/\n*P.cellsOf e=P.cellsOf t then AM (BI n ks).flatten else AD
  |_=>AD
def KX (P:AU)(t:AJ):Option (List CK):=do
 let ks<-ua P (P.types.size+1) t
 if P.keyTypeAt 20 t then AM ks else AD
def y9 (P:AU)(t:AJ):Option (Bool×List AP):=do
 let ks<-xo P (P.types.size+1) t
 match P.underlying t with
 |some (.int _)=>AM (AF,ks)
 |some (.struct _)|some (.array _ _)=>if P.keyTypeAt 20 t/\P.keyType t/\t<P.types.size then AM (AR,ks) else AD
 |_=>AD
def U4 (op:Ax)(x y:ah):qr:=
 match Oq op with
 |0=> .bin op x y
 |_=> .bw op x y
def Oy (P:AU)(neg:Bool)(t:AJ)(x y:ah):Option qr:=
 match y9 P t with
 |some k=>AM (.Yb neg k.2 x y)
 |none=>do AM (.Wf neg (<-KX P t) x y)
def Kr (P:AU)(t:AJ):Option (AJ×AJ):=do
 match<-P.underlying t with
 | .map k e=>AM (k,e)
 |_=>AD
def QE (P:AU)(t:AJ):Option AP:=do
 match<-P.underlying t with
 | .int k=>AM k
 |_=>AD
def Nu (P:AU)(t:AJ):Option Unit:=do
 match<-QE P t with
 | .i64=>match (<-P.info? t).zero with
   |some (.int .i64 0)=>AM ()
   |_=>AD
 |_=>AD
def Ix (P:AU)(t:AJ):Option AJ:=do
 match<-P.underlying t with
 | .slice e=>AM e
 |_=>AD
def Sc (P:AU)(t:AJ)(f:Nat):Option Field:=do
 match<-P.underlying t with
 | .struct fs=>fs[f]?
 |_=>AD
def l6 (P:AU)(t:AJ):Option Nat:=do
 let n<-HX P t
 if n=0 then AD else AM n
def b9j (P:AU)(t:AJ):Option (Nat->Option (Nat×Nat)):=
 match P.underlying t with
 |some (.struct fs)=>match fs.toList.mapM (fun f=>(P.info? f.type).map fun i=>(f.offset,i.size)) with
  |some l=>AA fun i=>l.toArray[i]?
  |none=>AD
 |some (.array _ e)=>match P.info? e with
  |some ie=>AA fun i=>AA (i*ie.size,ie.size)
  |none=>AD
 |_=>AD
def d5l:Nat->Mode
 |0=> .borrow
 |1=> .share
 |2=> .raw
 |3=> .data
 |_=> .fresh
def R4 (c:Nat)(y:ah):Option qr:=
 if c=0 then AA (.mv y) else match y with
  | .c (.d .nil)=>AA (.VA c)
  |_=>AD
def U3 (P:AU)(c:Nat)(b:Builtin)(args:List AZ)(u7:List AJ):Option qr:=
 match b with
 | .len=>match args,u7 with
   |[x],[t]=>do
    match<-P.underlying t with
    | .slice _=>AM (.len (<-bh x))
    | .map _ _=>AM (.V8 (<-bh x))
    |_=>AD
   |_,_=>AD
 | .clear=>match args,u7 with
   |[x],[t]=>do
    let e<-Ix P t
    let sz<-l6 P e
    let zs<-uo P e
    if zs.length=sz then AM (.clear sz zs (<-bh x)) else AD
   |_,_=>AD
 | .cap=>match args,u7 with
   |[x],[t]=>do
    let _<-Ix P t
    AM (.cap (<-bh x))
   |_,_=>AD
 | .min=>match args with
   |[x,y]=>do AM (.min (<-bh x) (<-bh y))
   |_=>AD
 | .max=>match args with
   |[x,y]=>do AM (.max (<-bh x) (<-bh y))
   |_=>AD
 | .append=>match args,u7 with
   |[x,y],[t,u]=>do
    let e<-Ix P t
    let e'<-Ix P u
    let sz<-l6 P e
    let b<-zu P e
    let zs<-uo P e
    if e=e'/\b<=250/\zs.length=sz then (if c=5 then (if sz=1 then do AM (.x5 b (<-bh x) (<-bh y)) else AD) else if c=4 then do AM (.t5 sz b (<-bh x) (<-bh y)) else if c=2 then do AM (.oq sz (<-bh x) (<-bh y)) else if c=3 then do AM (.pi sz b (<-bh x) (<-bh y) AR) else do AM (.append sz b (<-bh x) (<-bh y) (c==1))) else AD
   |_,_=>AD
 | .copy=>match args,u7 with
   |[x,y],[t,u]=>do
    let e<-Ix P t
    let e'<-Ix P u
    let sz<-l6 P e
    if e=e' then AM (.copy sz (<-bh x) (<-bh y)) else AD
   |_,_=>AD
 |_=>AD
def QX:String:=String.ofList ([115,108,105,99,101,115,46,111,118,101,114,108,97,112,115,91,105,110,116,93].map Char.ofNat)
def ni (P:AU)(c:Nat)(o:BK):Option qr:=
 match o.op with
 | .move x| .assign x=>do R4 c (<-bh x)
 | .pick c a b=>do AM (.pick (<-bh c) (<-bh a) (<-bh b))
 | .alloc t=>do AM (.alloc (<-uo P t))
 | .box _ x=>do AM (.box (<-bh x))
 | .build t ps=>do
   let zs<-uo P t
   let oc<-b9j P t
   let l<-ps.toList.mapM fun ix=>do
    let os<-oc ix.1
    AM (os.1,os.2,<-bh ix.2)
   AM (.build zs l)
 | .buildSlice t n ps=>do
   let e<-Ix P t
   let sz<-l6 P e
   let zs<-uo P e
   if zs.length=sz/\n*sz<=1000000 then
    let l<-ps.toList.mapM fun ix=>do AM (ix.1,<-bh ix.2)
    if n=0/\c=4 then (if l.isEmpty/\sz=1 then AA .Wq else AD) else if n=0/\c=5 then (if l.isEmpty then AA (.Wp sz) else AD) else if n=0/\c=1 then (if l.isEmpty then AA (.V5 sz) else AD) else if n=0/\c=2 then (if l.isEmpty then AA (.v6 sz) else AD) else if c=2 then AM (.t6 sz n zs l) else AM (.x8 sz n zs l (c==1))
   else AD
 | .load t a=>do AM (.load (<-IK P t) (<-bh a))
 | .store t a x=>do AM (.store (<-HX P t) (<-bh a) (<-bh x))
 | .nilCheck x=>do AM (.T8 (<-bh x))
 | .binOp op t x y _=>do
   match<-P.underlying t with
   | .int _=>AM (U4 op (<-bh x) (<-bh y))
   | .bool=>AM (.WC op (<-bh x) (<-bh y))
   | .struct _=>match op with
     | .eql=>if P.eqGuardType P.depth t then AD else do Oy P AF t (<-bh x) (<-bh y)
     | .neq=>if P.eqGuardType P.depth t then AD else do Oy P AR t (<-bh x) (<-bh y)
     |_=>AD
   | .array _ _=>match op with
     | .eql=>if P.eqGuardType P.depth t then AD else do AM (.Wf AF (<-KX P t) (<-bh x) (<-bh y))
     | .neq=>if P.eqGuardType P.depth t then AD else do AM (.Wf AR (<-KX P t) (<-bh x) (<-bh y))
     |_=>AD
   | .slice _=>match op,y with
     | .eql,.const (.slice AD 0 0)=>do AM (.Vy AF (<-bh x))
     | .neq,.const (.slice AD 0 0)=>do AM (.Vy AR (<-bh x))
     |_,_=>AD
   |_=>AD
 | .unOp op _ x=>do AM (.un op (<-bh x))
 | .convert s d x=>do
   let _<-QE P s
   AM (.conv (<-QE P d) (<-bh x))
 | .makeFunc (.func f) first cap=>do AM (.WT f (<-NF first) (<-NF cap))
 | .makeMap t AD=>do
   let (kt,et)<-Kr P t
   let (wide,ks)<-y9 P kt
   if c=1 then AM (.og wide ks) else match Nu P et with
   |some _=>AM (.x6 wide ks)
   |none=>AM (.og wide ks)
 | .makeSlice t n m=>do
   let e<-Ix P t
   let sz<-l6 P e
   let zs<-uo P e
   let b<-zu P e
   let x<-bh n
   match n,m with
   | .tmp i,.tmp j=>if i=j/\zs.length=sz/\b<=250 then AM (.mp sz zs b x) else AD
   | .const (.int .i64 i),.const (.int .i64 j)=>if i=j/\zs.length=sz/\b<=250 then AM (.mp sz zs b x) else AD
   |_,_=>AD
 | .slice t x lo hi mx=>do
   match<-P.underlying t with
   | .slice e=>do
     let sz<-l6 P e
     if c=1 then match mx with
      |none=>AM (.Vo sz (<-bh x) (<-mz lo) (<-mz hi))
      |some _=>AD
     else if c=2 then match hi with
      |some _=>AM (.VI sz (<-bh x) (<-mz lo) (<-mz hi) (<-mz mx))
      |none=>AD
     else match hi,mx with
     |none,AA _=>AD
     |_,_=>AM (.slice sz (<-bh x) (<-mz lo) (<-mz hi) (<-mz mx))
   | .array n e=>do
     let k<-HX P e
     match mx with
     |none=>if k=1 then AM (.VH n (<-bh x) (<-mz lo) (<-mz hi)) else AD
     |_=>AD
   |_=>AD
 | .fieldAddr t x f=>do
   let f<-Sc P t f
   let _<-l6 P f.type
   AM (.VX f.offset (<-bh x))
 | .field t x f=>do
   let f<-Sc P t f
   AM (.field f.offset (<-IK P f.type) (<-bh x))
 | .indexAddr t x i=>do
   match<-P.underlying t with
   | .slice e=>do AM (.VG (<-l6 P e) (<-bh x) (<-bh i))
   | .array n e=>do AM (.z5 n (<-l6 P e) (<-bh x) (<-bh i))
   |_=>AD
 | .lookup t m k ok=>do
   let (kt,et)<-Kr P t
   let (wide,ks)<-y9 P kt
   if c=1 then AM (.m9 wide ks ok (<-Ms P et) (<-bh m) (<-bh k)) else match Nu P et with
   |some _=>AM (.lookup wide ks ok (<-bh m) (<-bh k))
   |none=>AM (.m9 wide ks ok (<-Ms P et) (<-bh m) (<-bh k))
 | .mapUpdate t m k x=>do
   let (kt,et)<-Kr P t
   let (wide,ks)<-y9 P kt
   if c=1 then AM (.n9 wide ks (<-bh m) (<-bh k) (<-bh x)) else match Nu P et with
   |some _=>AM (.Id wide ks (<-bh m) (<-bh k) (<-bh x))
   |none=>AM (.n9 wide ks (<-bh m) (<-bh k) (<-bh x))
 | .mapEntry t m k=>do
   let (kt,et)<-Kr P t
   let (wide,ks)<-y9 P kt
   AM (.SW wide ks (<-Ms P et) (<-bh m) (<-bh k))
 | .entryStore _ m s x=>do AM (.VW (<-bh m) (<-bh s) (<-bh x))
 | .range t x=>do
   let _<-Kr P t
   AM (.W8 (<-bh x))
 | .next x s=>if s then AD else do AM (.W7 (<-bh x))
 | .entry x=>do AM (.W2 (<-bh x))
 | .insert t m k x=>do
   let (kt,et)<-Kr P t
   let (wide,ks)<-y9 P kt
   if c=1 then AM (.n9 wide ks (<-bh m) (<-bh k) (<-bh x)) else match Nu P et with
   |some _=>AM (.Id wide ks (<-bh m) (<-bh k) (<-bh x))
   |none=>AM (.n9 wide ks (<-bh m) (<-bh k) (<-bh x))
 | .index t (.const (.string s)) i=>do
   match<-P.underlying t with
   | .string=>AM (.idxs s.data.toList (<-bh i))
   |_=>AD
 | .extract x i=>do
   let x<-bh x
   if c=1 then AM (.pm x i) else AM (.extract x i)
 | .call k=>match k.callee with
   | .value (.func f)=>match P.funcs[f]? with
     |some fn=>if fn.body.isNone&&fn.name==QX then match k.args.toList with
       |[x,y]=>do AM (.XE (<-bh x) (<-bh y))
       |_=>AD
      else do AM (.call (.c (.fn f [] [])) (<-NF k.args) (d5l c))
     |none=>AD
   | .value f=>do AM (.call (<-bh f) (<-NF k.args) (d5l c))
   | .builtin b=>U3 P c b k.args.toList k.argTypes.toList
   |_=>AD
 |_=>AD
def Oz (P:AU)(c:Nat)(o:BK):Option qr:=
 match ni P c o with
 |some x=>AA x
 |none=>AA .bad
def KZ (P:AU)(A:t7)(r:Nat)(ops:Array BK)(i:Nat)(o:BK):Option jm:=do
 let op<-Oz P (A.at r i) o
 match o.guard with
 |none=>AM ⟨o.dst,AD,op⟩
 |some (j,w)=>do
  let oj<-ops[j]?
  let d<-oj.dst
  AM ⟨o.dst,AA (d,w),op⟩
def GZ (P:AU)(A:t7)(r:Nat)(ops:Array BK):List BK->Nat->Option (List jm)
 |[],_=>AA []
 |o::l,i=>do
  let x<-KZ P A r ops i o
  let xs<-GZ P A r ops l (i+1)
  AM (x::xs)
def Ib (o:BK):List Nat:=(o.after.toList.filter (Region.binds .any ·)).map (·.on)
def R2:List BK->List (List Nat)->List (List Nat)
 |[],acc=>acc
 |o::os,acc=>R2 os (acc++[(Ib o++(Ib o).flatMap fun k=>acc.getD k []).eraseDups])
def MI (ops:List BK)(cl:List (List Nat)):Bool:=
 (Aq ops.length).all fun j=>(cl.getD j []).all fun p=>match ops[j]? with
   |some o=>sr p (Ib o)||(Ib o).any fun k=>sr p (cl.getD k [])
   |none=>AF
def Kl.XA:Kl->Nat
 | .i=>0
 | .r=>1
 | .a=>2
 |_=>3
def e4h (ops:List BK)(kl:List Nat):Nat->List Nat->List Nat->List Nat
 |0,_,acc=>acc
 |f+1,todo,acc=>
  let rs:=todo.filter fun j=>match ops[j]? with|some o=>(Ib o).all fun k=>sr k acc|none=>AF
  let pick:=[0,1,2,3].findSome? fun c=>rs.find? fun j=>kl.getD j 3==c
  match pick with
  |some j=>e4h ops kl f (todo.filter (· !=j)) (acc++[j])
  |none=>acc
def OC (o:jm)(l:List Nat):Bool:=
 match o.dst with
 |none=>AF
 |some d=>sr d l
def c0q (a b:jm):Bool:=
 match a.dst,b.dst with
 |some x,AA y=>AH x y
 |_,_=>AF
def S9 (a b:cz):Bool:=
 !OC a.o b.o.Vv&&!b.alone&&(!(b.o.op.kl== .m)||(a.watch&&!sr a.i b.YS))&&(match a.o.op.kl with
  | .m=>AF
  | .r=>match b.o.op.kl with
    | .a=>sr b.slot a.av
    |_=>AR
  | .a=>match b.o.op.kl with
    | .r=>sr a.slot b.av
    | .m=>sr a.slot b.av
    |_=>AR
  |_=>AR)
def KU (a b:cz):Bool:=!OC b.o a.o.Vv&&!c0q a.o b.o
def d7c (cl:List (List Nat))(a b:cz):Bool:=
 (!(a.watch&&b.watch)||(KU a b&&(!(a.o.op.kl== .r)||!(b.o.op.kl== .a)||sr b.slot a.av)))&&
 (!(b.o.op.kl== .a&&a.o.op.kl== .a)||!AH a.slot b.slot)&&
 (!(a.o.op.kl== .m&&b.o.op.kl== .a)||BH b.slot a.slot)&&(!(a.o.op.kl== .a&&b.o.op.kl== .m)||BH a.slot b.slot)&&
 !(a.alone&&b.o.op.kl== .a)&&
 (sr a.i (cl.getD b.i [])||(KU a b&&S9 a b))
def TH (cl:List (List Nat)):List cz->Bool
 |[]=>AR
 |a::l=>(l.all fun b=>d7c cl a b)&&TH cl l
def TL (ops:List BK):List Nat->List cz->Bool
 |_,[]=>AR
 |done,d::l=>(match ops[d.i]? with|some o=>(Ib o).all fun k=>sr k done|none=>AF)&&!sr d.i done&&TL ops (d.i::done) l
def d5j (u0:List jm)(cl:List (List Nat))(ref:List Nat):List cz:=
 let kls:=u0.map (·.op.kl)
 let as:=(Aq u0.length).filter fun j=>kls.getD j .m== .a
 let before (p j:Nat):Bool:=sr p (cl.getD j [])
 ref.filterMap fun j=>match u0[j]? with
  |none=>AD
  |some o=>AA {
    o,i:=j,slot:=if o.op.kl== .m then as.length else (as.filter (· <j)).length
    av:=if o.op.kl== .r||o.op.kl== .m then (as.filter fun k=>!before k j&&(o.op.kl== .r||!before j k)).map fun k=>(as.filter (· <k)).length else []
    YS:=if o.op.kl== .m then cl.getD j [] else []
    alone:=o.op.kl== .m&&(Aq u0.length).all fun k=>k==j||before k j||before j k
    watch:=(Aq u0.length).any fun k=>kls.getD k .i== .m&&k !=j&&!before k j&&!before j k}
def R3 (ops:List BK)(u0:List jm):Option (Nat×List cz):=
 let cl:=R2 ops []
 let ref:=e4h ops (u0.map (·.op.kl.XA)) ops.length (Aq ops.length) []
 let ds:=d5j u0 cl ref
 if ds.length=ops.length/\((Aq ops.length).all fun i=>sr i (ds.map (·.i)))=AR/\MI ops cl=AR/\TH cl ds=AR/\TL ops [] ds=AR/\(ds.all fun d=>!OC d.o d.o.Vv&&(!(d.o.op.kl== .a)||BH d.slot (u0.filter (·.op.kl== .a)).length))=AR then AA ((u0.filter (·.op.kl== .a)).length,ds) else AD
def comp (P:AU)(A:t7):Bp->Option gy
 | .skip=>AA .skip
 | .region id ops AF=>do AM (.ops (<-GZ P A id ops ops.toList 0))
 | .region id ops AR=>do
   let u0<-GZ P A id ops ops.toList 0
   let nd<-R3 ops.toList u0
   AM (.draw nd.1 nd.2)
 | .seq a b=>do AM (.seq (<-comp P A a) (<-comp P A b))
 | .cond c a b=>do AM (.cond (<-bh c) (<-comp P A a) (<-comp P A b))
 | .block id c=>do AM (.block id (<-comp P A c))
 | .loop c=>do AM (.loop (<-comp P A c))
 | .rangeFunc f ps a b=>do AM (.range (<-bh f) ps.toList (<-comp P A a) (<-comp P A b))
 | .exit id=>AA (.exit id)
 | .scope c=>do AM (.scope (<-comp P A c))
 | .label l=>AA (.label l)
 | .ret=>AA .ret
 |_=>AD
inductive ym where
 |t (i:Nat)
 |c (i:Nat) (agg:Option Nat)
def MJ (P:AU)(fn:Func):Option (List ym):=fn.results.toList.mapM fun
 | .tmp t=>AA (.t t)
 | .cell a t=>do AM (.c a (<-IK P t))
theorem cy {α:Type}(l:List α)(i:Nat):ax l i=l[i]? :=by
 induction l generalizing i with
 |nil=>simp[ax]
 |cons x l ih=>cases i<;>simp[ax,ih]
theorem fg {α:Type}(l:List α)(i:Nat)(y:α):b8 l i y=l.set i y:=by
 induction l generalizing i with
 |nil=>simp[b8]
 |cons x l ih=>cases i<;>simp[b8,ih]
theorem HN {α β:Type}(f:α->β)(l:List α):tu f l=l.map f:=by
 induction l with
 |nil=>rfl
 |cons x l ih=>simp[tu,ih]
theorem fi {α:Type}(l m:List α):ba l m=l++m:=by
 induction l with
 |nil=>rfl
 |cons x l ih=>simp[ba,ih]
theorem cv {α:Type}(l:List α):az l=l.length:=by
 induction l with
 |nil=>rfl
 |cons x l ih=>simp[az,ih]
theorem R7 {cs:List AV}{l:List DV}(h:W1 cs=AA l):l.length=cs.length/\ ∀(i:Nat) (x:DV),l[i]? =AA x-> ∃y,cs[i]? =AA y/\ ∀{w:AK} {S:Nat->Prop} {ρ:lw} {v:AE},VR w S ρ y v->qn w S x v:=by
 induction cs generalizing l with
 |nil=>simp[W1] at h;subst h;simp
 |cons c cs ih=>
  unfold W1 at h;split at h
  ·rename_i heq;cases heq
  ·rename_i x r heq;cases heq;split at h
   ·rename_i l' bu;cases h;obtain⟨h1,h2⟩:=ih bu;refine⟨by simp[h1],fun i y hy=> ?_⟩;cases i with
    |zero=>simp at hy;subst hy;exact⟨_,rfl,fun h=>by cases h with|d h=>exact h⟩
    |succ i=>simp at hy⊢;exact h2 i y hy
   ·cases h
  ·rename_i f r heq;cases heq;split at h
   ·rename_i l' bu;cases h;obtain⟨h1,h2⟩:=ih bu;refine⟨by simp[h1],fun i y hy=> ?_⟩;cases i with
    |zero=>
     simp at hy;subst hy;refine⟨_,rfl,fun h=> ?_⟩;cases h with
     |fn _ _ _ us vs h1 _ h2 _=>have e1:us= #[]:=BA (by simpa using h1.symm);have e2:vs= #[]:=BA (by simpa using h2.symm);subst e1 e2;exact .raw _ rfl
    |succ i=>simp at hy⊢;exact h2 i y hy
   ·cases h
  ·cases h
theorem xe (rs:List (List DV))(i:Nat):rowAt rs i=rs[i]?.getD []:=by
 induction rs generalizing i with
 |nil=>simp[rowAt]
 |cons r rs ih=>cases i<;>simp[rowAt,ih]
theorem L5 {α:Type}(x:α)(n:Nat):w8 x n=BI n x:=by
 induction n with
 |zero=>rfl
 |succ n ih=>simp[w8,ih,List.replicate_succ]
theorem c8g (ts:List AV)(l:List ah):tg ts l=l.map (i7 ts):=by
 induction l with
 |nil=>rfl
 |cons x l ih=>simp[tg,ih]
theorem Tf {α:Type}(l:List α)(i n:Nat)(c:List α)(h:po l i n=AA c):c.length=n/\ ∀j,j<n->c[j]? =l[i+j]? :=by
 induction l generalizing i n c with
 |nil=>cases i<;>cases n<;>simp[po] at h;subst h;simp
 |cons x l ih=>
  cases i with
  |zero=>
   cases n with
   |zero=>simp[po] at h;subst h;simp
   |succ n=>
    simp only[po] at h;cases hr:po l 0 n with
    |none=>simp[hr] at h
    |some r=>
     simp[hr] at h;subst h;have:=ih 0 n r hr;refine⟨by simp[this.1],fun j hj=> ?_⟩;cases j with
     |zero=>simp
     |succ j=>have:=this.2 j (by omega);simp at this;simp[this]
  |succ i=>simp only[po] at h;have:=ih i n c h;refine⟨this.1,fun j hj=> ?_⟩;rw[this.2 j hj,show i+1+j=(i+j)+1 by omega];simp
theorem Tl {α:Type}(l:List α)(i:Nat)(new:List α)(r:List α)(h:qm l i new=AA r):
 i+new.length<=l.length/\r=l.take i++new++l.drop (i+new.length):=by
 induction l generalizing i new r with
 |nil=>cases i<;>cases new<;>simp[qm] at h;subst h;simp
 |cons x l ih=>
  cases i with
  |zero=>
   cases new with
   |nil=>simp[qm] at h;subst h;simp
   |cons y new=>
    simp only[qm] at h;cases hr:qm l 0 new with
    |none=>simp[hr] at h
    |some r'=>simp[hr] at h;subst h;have:=ih 0 new r' hr;refine⟨by have:=this.1;simp at this⊢;omega,?_⟩;rw[this.2];simp
  |succ i=>
   simp only[qm] at h;cases hr:qm l i new with
   |none=>simp[hr] at h
   |some r'=>simp[hr] at h;subst h;have:=ih i new r' hr;refine⟨by have:=this.1;simp;omega,?_⟩;rw[this.2,show i+1+new.length=(i+new.length)+1 by omega];simp
theorem AV.LT (l:List AV):AV.rg l=l.map AV.norm:=by
 induction l with
 |nil=>rfl
 |cons x l ih=>simp[AV.rg,ih]
theorem AV.i4 (m:Nat)(all:Bool)(l:List AV):AV.ip m all l=l.map (AV.forget m all):=by
 induction l with
 |nil=>rfl
 |cons x l ih=>simp[AV.ip,ih]
theorem JT (m:Nat)(all:Bool)(l:List ae):pq m all l=l.map (ae.forget m all):=by
 induction l with
 |nil=>rfl
 |cons x l ih=>simp[pq,ih]
theorem VR.norm {w:AK}{S:Nat->Prop}{ρ:lw}{x:AV}{v:AE}(h:VR w S ρ x v):VR w S ρ x.norm v:=by
 have key: ∀{cs:List AV} {vs:Array AE},(∀(i:Nat) (x:AV) (v:AE),cs[i]? =AA x->vs[i]? =AA v->VR w S ρ x.norm v)->
  ∀(i:Nat) (x:AV) (v:AE),(AV.rg cs)[i]? =AA x->vs[i]? =AA v->VR w S ρ x v:=by
  intro cs vs ih i x v hx hv;rw[AV.LT,AS] at hx;cases hc:cs[i]? with
  |none=>simp[hc] at hx
  |some y=>simp[hc] at hx;subst hx;exact ih i y v hc hv
 induction h with
 | @d y u h=>
   cases y with
   |int k n=>cases h;exact .d (.int k (.v n.val))
   |_=>exact .d h
 |any v=>exact .any v
 |lc=>exact .lc
 |agg cs vs hl _ ih=>exact .agg _ vs (by simpa [AV.LT] using hl) (key ih)
 |tuple cs vs hl _ ih=>exact .tuple _ vs (by simpa [AV.LT] using hl) (key ih)
 |ptr l off b C h=>exact .ptr l off b C h
 |ii l sz i off b C h=>exact .ii l sz i off b C h
 |d9 row off b base f hb hv hr=>exact .d9 row off b base f hb hv hr
 |lm sz n e a h=>exact .lm sz n e a h
 |bi l sz start len full ob C cap a h hc b9 ha=>exact .bi l sz start len full ob C cap a h hc b9 ha
 |d7 l off n b C cap h hc=>exact .d7 l off n b C cap h hc
 |map l b C h=>exact .map l b C h
 |fn f first cap us vs nw _ hl _ uz ih=>exact .fn f _ _ us vs (by simpa [AV.LT] using nw) (key uz) (by simpa [AV.LT] using hl) (key ih)
 |ge m n h=>exact .ge m n h
 |yl l b C h=>exact .yl l b C h
def gone (l:Nat)(all:Bool)(m:Nat):Bool:=if all then A7 l m else AH l m
theorem VR.forget {w w':AK}{S S':Nat->Prop}{ρ ρ':lw}(hS: ∀b,S b->S' b)(hw: ∀b,S b->w'.heap[b]? =w.heap[b]?)(l:Nat)(all:Bool)
 (hρ: ∀m p,gone l all m=AF->ρ m=AA p->ρ' m=AA p) {x:AV} {v:AE} (h:VR w S ρ x v):VR w' S' ρ' (x.forget l all) v:=by
 have key: ∀{cs:List AV} {vs:Array AE},(∀(i:Nat) (x:AV) (v:AE),cs[i]? =AA x->vs[i]? =AA v->VR w' S' ρ' (x.forget l all) v)->
  ∀(i:Nat) (x:AV) (v:AE),(AV.ip l all cs)[i]? =AA x->vs[i]? =AA v->VR w' S' ρ' x v:=by
  intro cs vs ih i x v hx hv;rw[AV.i4,AS] at hx;cases hc:cs[i]? with
  |none=>simp[hc] at hx
  |some y=>simp[hc] at hx;subst hx;exact ih i y v hc hv
 induction h with
 |d h=>exact .d (h.mono hS hw)
 |any v=>exact .any v
 |lc=>exact .lc
 |agg cs vs hl _ ih=>exact .agg _ vs (by simpa [AV.i4] using hl) (key ih)
 |tuple cs vs hl _ ih=>exact .tuple _ vs (by simpa [AV.i4] using hl) (key ih)
 |ptr m off b C h=>
  show VR w' S' ρ' (if gone l all m then .any else _) _;cases hg:gone l all m
  ·exact .ptr m off b C (hρ _ _ hg h)
  ·exact .any _
 |ii m sz i off b C h=>
  show VR w' S' ρ' (if gone l all m then .any else _) _;cases hg:gone l all m
  ·exact .ii m sz i off b C (hρ _ _ hg h)
  ·exact .any _
 |d9 row off b base f hb hv hr=>refine .d9 row off b base f (hS b hb) (fun j hj=> ?_) (fun j x hx=>(hr j x hx).mono hS hw);rw[cell?_congr (hw b hb)];exact hv j hj
 |lm sz n e a h=>exact .lm sz n e a (h.mono hS hw)
 |bi m sz start len full ob C cap a h hc b9 ha=>
  show VR w' S' ρ' (if gone l all m then .any else _) _;cases hg:gone l all m
  ·exact .bi m sz start len full ob C cap a (hρ _ _ hg h) hc b9 ha
  ·exact .any _
 |d7 m off n b C cap h hc=>
  show VR w' S' ρ' (if gone l all m then .any else _) _;cases hg:gone l all m
  ·exact .d7 m off n b C cap (hρ _ _ hg h) hc
  ·exact .any _
 |map m b C h=>
  show VR w' S' ρ' (if gone l all m then .any else _) _;cases hg:gone l all m
  ·exact .map m b C (hρ _ _ hg h)
  ·exact .any _
 |fn f first cap us vs nw _ hl _ uz ih=>exact .fn f _ _ us vs (by simpa [AV.i4] using nw) (key uz) (by simpa [AV.i4] using hl) (key ih)
 |ge m n h=>exact .ge m n h
 |yl m b C h=>
  show VR w' S' ρ' (if gone l all m then .any else _) _;cases hg:gone l all m
  ·exact .yl m b C (hρ _ _ hg h)
  ·exact .any _
def Vw (w:AK)(S:Nat->Prop)(ρ:lw)(xs:List AV)(vs:Array AE):Prop:=
 xs.length=vs.size/\ ∀(i:Nat) (x:AV) (v:AE),xs[i]? =AA x->vs[i]? =AA v->VR w S ρ x v
def my:lw:=fun _=>AD
structure H5 (w w':AK):Prop where
 os:w'.os=w.os
 tape:w'.tape=w.tape/\w.drawn<=w'.drawn
 output:w'.output=w.output
 size:w.heap.size<=w'.heap.size
 frame: ∀b,b<w.heap.size->w'.heap[b]? =w.heap[b]?
def RM (P:AU)(f:A6):Prop:= ∃fn,P.funcs[f]? =AA fn/\fn.name≠ "runtime.NumGoroutine" /\fn.body≠AD
def au (P:AU)(own:Bool)(f:A6)(args:List AV)(r:AV):Prop:=
 RM P f/\ ∀(w:AK) (S:Nat->Prop) (vs:Array AE),(∀b,S b->b<w.heap.size)->Vw w S my args vs->
  Calls P f vs w fun e w'=> ∃v S',e= .returned v/\VR w' S' my r v/\(∀b,S' b->(own=AF/\S b)\/(w.heap.size<=b/\b<w'.heap.size))/\H5 w w'
def Mx (P:AU)(f:A6)(args:List AV)(K:AV->List ae->Prop):Prop:=
 RM P f/\ ∀(w:AK) (S:Nat->Prop) (vs:Array AE),(∀b,S b->b<w.heap.size)->Vw w S my args vs->
  Calls P f vs w fun e w'=> ∃v x os S' ρ',e= .returned v/\K x os/\VR w' S' ρ' x v/\v4 w' S' ρ' os/\(∀b,S b->S' b)/\(∀b,S' b->S b\/w.heap.size<=b)/\
   (∀l b C,ρ' l=AA (AA b,C)->w.heap.size<=b)/\H5 w w'
def ay (P:AU)(f:A6)(args:List AV)(h:List ae)(K:List Nat->AV->List ae->Prop):Prop:=
 RM P f/\ ∀(w:AK) (S:Nat->Prop) (ρ:lw) (vs:Array AE),v4 w S ρ h->Vw w S ρ args vs->
  Calls P f vs w fun e w'=> ∃v x pg h' S' ρ',e= .returned v/\K pg x h'/\VR w' S' ρ' x v/\v4 w' S' ρ' h'/\Ext w S ρ w' S' ρ'/\
   h.length<=h'.length/\ ∀l,l<h.length->l∉pg->ρ' l=ρ l
def lh (P:AU)(l:Nat)(args:List AV)(h:List ae)(K:List Nat->AV->List ae->Prop):Prop:=
 ∀(w:AK) (S:Nat->Prop) (ρ:lw) (vs:Array AE) (b C:Nat),v4 w S ρ h->Vw w S ρ args vs->ρ l=AA (AA b,C)->
  YieldAt Fence.wide 0 P b vs w fun e w'=> ∃v x pg h' S' ρ',e= .returned v/\K pg x h'/\VR w' S' ρ' x v/\v4 w' S' ρ' h'/\Ext w S ρ w' S' ρ'/\
   h.length<=h'.length/\ ∀l,l<h.length->l∉pg->ρ' l=ρ l
structure x4 where
 w:AK
 S:Nat->Prop
 ρ:lw
 base:Nat
 ds:List BW
structure JI (w:AK)(S:Nat->Prop)(ρ:lw)(n D:Nat):Prop where
 obj:w.heap[D]? =AA (.deferred (AA []))
 new:n<=D
 out: ∀l C,ρ l≠AA (AA D,C)
 YN: ¬S D
theorem JI.ext {w w':AK}{S S':Nat->Prop}{ρ ρ':lw}{n D:Nat}(m:JI w S ρ n D)(e:Ext w S ρ w' S' ρ'):JI w' S' ρ' n D:=by
 have hlt:D<w.heap.size:=(Ap.1 m.obj).1;refine⟨(e.frame D hlt m.out).trans m.obj,m.new,fun l C hl=> ?_,fun hs=> ?_⟩
 ·rcases e.owned l D C hl with h|⟨l',C',h⟩
  ·omega
  ·exact m.out _ _ h
 ·rcases e.news D hs with h|h|⟨l',C',h⟩
  ·exact m.YN h
  ·omega
  ·exact m.out _ _ h
def IH (w:AK)(S:Nat->Prop)(ρ:lw)(n:Nat)(base ds:List BW):Prop:=
 ∃Ds:List Nat,ds=Ds.map (fun D=>{target:= .collected D,args:= #[]})++base/\(∀D,D∈Ds->JI w S ρ n D)/\Ds.Pairwise (· ≠ ·)
theorem IH.nil (w:AK)(S:Nat->Prop)(ρ:lw)(n:Nat)(base:List BW):IH w S ρ n base base:=⟨[],rfl,by simp,.nil⟩
theorem IH.ext {w w':AK}{S S':Nat->Prop}{ρ ρ':lw}{n:Nat}{base ds:List BW}(m:IH w S ρ n base ds)(e:Ext w S ρ w' S' ρ'):IH w' S' ρ' n base ds:=by obtain⟨Ds,h1,h2,h3⟩:=m;exact⟨Ds,h1,fun D hD=>(h2 D hD).ext e,h3⟩
structure Rel (E:x4)(st:St)(a:Bj)(w:AK)(S:Nat->Prop)(ρ:lw):Prop where
 ts:Vw w S ρ st.ts a.tmps
 ds:IH w S ρ E.w.heap.size E.ds a.defers
 co:v4 w S ρ st.h
 ext:Ext E.w E.S E.ρ w S ρ
 v9: ∀l,l<E.base->l∉st.mv->ρ l=E.ρ l
 len:E.base<=st.h.length
def ri:Option Nat->Fence
 |none=>Fence.wide
 |some l=>Fence.wide.inRound l
def qc:Exit->Option Lv
 | .normal=>AA .normal
 | .exit id=>AA (.exit id)
 | .ret=>AA .ret
 |_=>AD
def c7n (E:x4)(Q:Lv->St->Prop):Exit->Bj->AK->Prop:=
 fun e a w=> ∃lv st S ρ,qc e=AA lv/\Q lv st/\Rel E st a w S ρ
def Y6 (P:AU)(ro:Option Nat)(E:x4)(c:Bp)(Q:Lv->St->Prop)(st:St):Prop:=
 ∀a w S ρ,Rel E st a w S ρ->c.wpIn (ri ro) 0 P (c7n E Q) a w
def ms (P:AU)(A:t7)(ro:Option Nat)(E:x4):We where
 t8 x y:=x+y
 Vz x y:=x-y
 Xg x y:=x*y
 Xv x y:=x.tdiv y
 W4 x y:=x.tmod y
 Wc k x:=k.wrap x
 Vu x y:=decide (x<y)
 WA x y:=decide (x<=y)
 md x y:=x==y
 VY c x y:=if c then x else y
 jp b:=!b
 V4 a b:=a&&b
 beq a b:=a==b
 Zf c a b:=if c then a else b
 ofNat n:=(n:Int)
 toNat n:=n.toNat
 fd a b:=a+b
 T9 a b:=a-b
 wp a b:=a*b
 Zr a b:=decide (a<b)
 inr k x:=k.wrap x=x
 Yv i n:=0<=i/\i<n
 VZ a b:=a<b
 VN a b:=a<=b
 ut a b:=a<=b
 nz x:=x≠0
 mt p q:=p/\q
 Yt seen n p q:=((∀i,i<n->i∈seen)->p)/\ ∀i,i<n->i∉seen->q i
 top:=ro=AD
 Yq e i row:=fun j=>if j=i then row else e j
 app n e e2:=fun j=>if j<n then e j else e2 (j-n)
 shift e s:=fun j=>e (s+j)
 YJ sz n e:= ∀i,i<n->(e i).length=sz
 put WQ m e e2:=fun j=>if WQ<=j/\j<WQ+m then e2 (j-WQ) else e j
 rep n zs:=fun i=>if i<n then zs else []
 WU m n:=min m n
 YK l i:=((l.getD i.toNat 0).toNat:Int)
 Yn:=RX
 XN:=T1
 W6 f k:=(f k).getD 0
 WG f k:=(f k).isSome
 Xx f k v:=fun k'=>if k'=k then AA v else f k'
 WF f k n:=if (f k).isSome then n else n+1
 same x y:=x=y
 Wr own f args K:= ∃r,au P own f args r/\K r
 Ym f args K:=Mx P f args K
 call f args h K:=ay P f args h K
 X8 l args h K:=lh P l args h K
 loop ic Q st:= ∀c,comp P A c=AA ic->Y6 P ro E (.loop c) Q st
 range f ps a b Q st:= ∀f' L8 a' b',bh f'=AA f->L8.toList=ps->comp P A a'=AA a->comp P A b'=AA b->Y6 P ro E (.rangeFunc f' L8 a' b') Q st
def uu:List Nat->List ae->List ae
 |[],h=>h
 |l::pg,h=>uu pg (pq l AF h)
def IT:List Nat->AV->AV
 |[],x=>x
 |l::pg,x=>IT pg (x.forget l AF)
structure n8 (w:AK)(S:Nat->Prop)(ρ:lw)(h:List ae)(w':AK)(S':Nat->Prop)(ρ':lw)(h':List ae)(pg:List Nat):Prop where
 co:v4 w' S' ρ' h'
 len:h.length<=h'.length
 ext:Ext w S ρ w' S' ρ'
 v9: ∀m p,m∉pg->ρ m=AA p->ρ' m=AA p
 low: ∀m,m<h.length->m∉pg->ρ' m=ρ m
theorem n8.refl {w:AK}{S:Nat->Prop}{ρ:lw}{h:List ae}(s:v4 w S ρ h):n8 w S ρ h w S ρ h []:=
 ⟨s,AL _,.refl w S ρ,fun _ _ _ h=>h,fun _ _ _=>rfl⟩
theorem n8.new {w:AK}{S:Nat->Prop}{ρ:lw}{h:List ae}(s:v4 w S ρ h)(hl:ρ h.length=AD)(o:Obj)(ao:ae)(C:Nat)
 (ho: ∀w':AK,w'.heap=w.heap.push o->fv w' S ρ w.heap.size C ao):
 n8 w S ρ h {w with heap:=w.heap.push o} S (fun m=>if m=h.length then AA (AA w.heap.size,C) else ρ m) (h++[ao]) []:=by
 have hold: ∀b,b<w.heap.size->(w.heap.push o)[b]? =w.heap[b]? :=fun b hb=>by rw[Af,if_neg (by omega)]
 have hρ: ∀m p,ρ m=AA p->(if m=h.length then AA (AA w.heap.size,C) else ρ m)=AA p:=by intro m p hm;rw[if_neg (fun e=>by subst e;simp[hl] at hm)];exact hm
 have hblk: ∀m b C',ρ m=AA (AA b,C')->b<w.heap.size:=by
  intro m b C' hm;obtain⟨o',_,h2⟩:=s.obj m (AA b) C' hm;have: ∃x,w.heap[b]? =AA x:=by
   cases o' with
   |var cs=>obtain⟨vs,ty,h3,_⟩:=h2;exact⟨_,h3⟩
   |arr sz n e=>obtain⟨vs,ty,h3,_⟩:=h2;exact⟨_,h3⟩
   |t0 sz n e=>obtain⟨_,vs,ty,fr,h3,_⟩:=h2;exact⟨_,h3⟩
   |map wide ks n f=>obtain⟨es,clock,h3,_⟩:=h2;exact⟨_,h3⟩
   |dz wide ks keys ap=>obtain⟨es,clock,h3,_⟩:=h2;exact⟨_,h3⟩
   |loop s ts ps code=>obtain⟨r,h3,_⟩:=h2;exact⟨_,h3⟩
   |gone=>exact⟨_,As (s.i0 b h2)⟩
   |n7 ap=>obtain⟨vs,ty,h3,_⟩:=h2;exact⟨_,h3⟩
   |iter m since seen=>obtain⟨bm,h3,_⟩:=h2;exact⟨_,h3⟩
  obtain⟨x,hx⟩:=this;exact (Ap.1 hx).1
 refine⟨⟨fun b hb=> ?_,fun m ob C' hm=> ?_,fun m m' b C1 C2 h1 h2=> ?_,fun m b C' ao' hm ju hf=> ?_⟩,by simp,⟨rfl,⟨rfl,AL _⟩,rfl,by simp,fun _ h=>h,fun b hb=>hold b (s.i0 b hb),fun _ h=> .inl h,fun b hb _=>hold b hb,fun m b C' hm=> ?_⟩,fun m p _ hm=>hρ m p hm,fun m hm _=>if_neg (by omega)⟩
 ·have:=s.i0 b hb;simp;omega
 ·show∃o,(h++[ao])[m]? =AA o/\_;by_cases e:m=h.length
  ·rw[if_pos e] at hm;cases hm;refine⟨ao,by simp[e],?_⟩;show fv _ _ _ _ _ _;refine (ho {w with heap:=w.heap.push o} rfl).mono (fun _ h=>h) (fun _ _=>rfl) hρ rfl
  ·rw[if_neg e] at hm;obtain⟨o',h1,h2⟩:=s.obj m ob C' hm;refine⟨o',by rw[AI (AB.1 h1).1];exact h1,?_⟩;cases ob with
   |none=>exact h2
   |some b=>exact fv.mono (fun _ h=>h) (fun b hb=>hold b (s.i0 b hb)) hρ (hold b (hblk m b C' hm)) h2
 ·by_cases e1:m=h.length<;>by_cases e2:m'=h.length
  ·rw[e1,e2]
  ·rw[if_pos e1] at h1;rw[if_neg e2] at h2;cases h1;have:=hblk _ _ _ h2;omega
  ·rw[if_neg e1] at h1;rw[if_pos e2] at h2;cases h2;have:=hblk _ _ _ h1;omega
  ·rw[if_neg e1] at h1;rw[if_neg e2] at h2;exact s.inj m m' b C1 C2 h1 h2
 ·by_cases e:m=h.length
  ·rw[if_pos e] at hm;cases hm;intro hs;have:=s.i0 _ hs;omega
  ·rw[if_neg e] at hm;obtain⟨o',h1,_⟩:=s.obj m _ C' hm;have ju:(h++[ao])[m]? =AA ao':=ju;rw[AI (AB.1 h1).1] at ju;exact s.own m b C' ao' hm ju hf
 ·by_cases e:m=h.length
  ·rw[if_pos e] at hm;cases hm;exact .inl (AL _)
  ·rw[if_neg e] at hm;exact .inr ⟨m,C',hm⟩
theorem v4.V2 {w:AK}{S:Nat->Prop}{ρ:lw}{h:List ae}(s:v4 w S ρ h){m b C:Nat}(hm:ρ m=AA (AA b,C)):b<w.heap.size:=by
 obtain⟨o',_,h2⟩:=s.obj m (AA b) C hm;have: ∃x,w.heap[b]? =AA x:=by
  cases o' with
  |var cs=>obtain⟨vs,ty,h3,_⟩:=h2;exact⟨_,h3⟩
  |arr sz n e=>obtain⟨vs,ty,h3,_⟩:=h2;exact⟨_,h3⟩
  |t0 sz n e=>obtain⟨_,vs,ty,fr,h3,_⟩:=h2;exact⟨_,h3⟩
  |map wide ks n f=>obtain⟨es,clock,h3,_⟩:=h2;exact⟨_,h3⟩
  |dz wide ks keys ap=>obtain⟨es,clock,h3,_⟩:=h2;exact⟨_,h3⟩
  |loop s ts ps code=>obtain⟨r,h3,_⟩:=h2;exact⟨_,h3⟩
  |gone=>exact⟨_,As (s.i0 b h2)⟩
  |n7 ap=>obtain⟨vs,ty,h3,_⟩:=h2;exact⟨_,h3⟩
  |iter m since seen=>obtain⟨bm,h3,_⟩:=h2;exact⟨_,h3⟩
 obtain⟨x,hx⟩:=this;exact (Ap.1 hx).1
theorem n8.set {w:AK}{S:Nat->Prop}{ρ:lw}{h:List ae}(s:v4 w S ρ h){l b C:Nat}{o o':ae}(vt:ρ l=AA (AA b,C))(hl:h[l]? =AA o)
 (hf:o.frozen=AF) {w':AK} (P5:w'.os=w.os) (Qo:w'.tape=w.tape/\w.drawn<=w'.drawn) (p9:w'.output=w.output) (bl:w'.heap.size=w.heap.size)
 (hw: ∀k,k≠b->w'.heap[k]? =w.heap[k]?) (ho:fv w' S ρ b C o'):
 n8 w S ρ h w' S ρ (h.set l o') []:=by
 have Kg: ¬S b:=s.own l b C o vt hl hf;have hS: ∀k,S k->w'.heap[k]? =w.heap[k]? :=fun k hk=>hw k (fun e=>Kg (e▸hk));have hlt:=(AB.1 hl).1;refine⟨⟨fun k hk=>by rw[bl];exact s.i0 k hk,fun m ob C' hm=> ?_,s.inj,fun m k C' ao hm ju PK=> ?_⟩,by simp,
  ⟨P5,Qo,p9,by rw[bl];exact AL _,fun _ h=>h,hS,fun _ h=> .inl h,fun k _ hn=>hw k (fun e=>hn l C (e▸vt)),fun m k C' hm=> .inr ⟨m,C',hm⟩⟩,
  fun _ _ _ hm=>hm,fun _ _ _=>rfl⟩
 ·show∃o,(h.set l o')[m]? =AA o/\_;by_cases e:m=l
  ·subst e;rw[vt] at hm;cases hm;exact⟨o',by simp[hlt],ho⟩
  ·obtain⟨o1,h1,h2⟩:=s.obj m ob C' hm;refine⟨o1,by rw[AT (Aw e)];exact h1,?_⟩;cases ob with
   |none=>exact h2
   |some k=>refine fv.mono (fun _ h=>h) hS (fun _ _ h=>h) (hw k fun ek=> ?_) h2;subst ek;exact e (s.inj m l k C' C hm vt)
 ·by_cases e:m=l
  ·subst e;rw[vt] at hm;cases hm;exact Kg
  ·exact s.own m k C' ao hm (by rw[<-ju];show _=(h.set l o')[m]?;rw[AT (Aw e)]) PK
theorem n8.t0 {w:AK}{S:Nat->Prop}{ρ:lw}{h:List ae}(s:v4 w S ρ h){l:Nat}{ob:Option Nat}{C sz n:Nat}{e:Nat->List DV}(vt:ρ l=AA (ob,C))
 (hl:h[l]? =AA (.arr sz n e)):n8 w S ρ h w (fun b=>S b\/ob=AA b) ρ (h.set l (.t0 sz n e)) []:=by
 have hlt:=(AB.1 hl).1;have hS: ∀b,S b->S b\/ob=AA b:=fun _ h=> .inl h;refine⟨⟨fun k hk=> ?_,fun m yg C' hm=> ?_,s.inj,fun m k C' ao hm ju PK=> ?_⟩,by simp,
  ⟨rfl,⟨rfl,AL _⟩,rfl,AL _,hS,fun _ _=>rfl,fun k hk=> ?_,fun _ _ _=>rfl,fun m k C' hm=> .inr ⟨m,C',hm⟩⟩,
  fun _ _ _ hm=>hm,fun _ _ _=>rfl⟩
 ·rcases hk with hk|hk
  ·exact s.i0 k hk
  ·subst hk;exact s.V2 vt
 ·show∃o,(h.set l (.t0 sz n e))[m]? =AA o/\_;by_cases em:m=l
  ·subst em;rw[vt] at hm;cases hm;refine⟨.t0 sz n e,by simp[hlt],?_⟩;obtain⟨o1,h1,h2⟩:=s.obj m ob C vt;rw[hl] at h1;cases h1;cases ob with
   |none=>obtain⟨hC,sz',e',h3|h3⟩:=h2<;>cases h3;exact⟨hC,sz,e,.inr rfl⟩
   |some b=>obtain⟨vs,ty,h3,h4,h5,h6⟩:=h2;exact⟨.inr rfl,vs,ty,_,h3,h4,h5,fun i hi=>⟨(h6 i hi).1,fun j x v hx hv=>((h6 i hi).2 j x v hx hv).mono hS fun _ _=>rfl⟩⟩
  ·obtain⟨o1,h1,h2⟩:=s.obj m yg C' hm;refine⟨o1,by rw[AT (Aw em)];exact h1,?_⟩;cases yg with
   |none=>exact h2
   |some k=>exact fv.mono hS (fun _ _=>rfl) (fun _ _ h=>h) rfl h2
 ·by_cases em:m=l
  ·subst em;have:(h.set m (.t0 sz n e))[m]? =AA ao:=ju;simp[hlt] at this;subst this;cases PK
  ·have Lr:h[m]? =AA ao:=by rw[<-ju];show _=(h.set l (.t0 sz n e))[m]?;rw[AT (Aw em)]
   intro hk;rcases hk with hk|hk
   ·exact s.own m k C' ao hm Lr PK hk
   ·subst hk;exact em (s.inj m l k C' C hm vt)
 ·rcases hk with hk|hk
  ·exact .inl hk
  ·subst hk;exact .inr (.inr ⟨l,C,vt⟩)
theorem K8 (l:Nat)(all:Bool)(h:List ae)(m:Nat):(pq l all h)[m]? =(h[m]?).map (ae.forget l all):=by rw[JT,AS]
theorem ae.x9 (l:Nat)(all:Bool)(o:ae):(o.forget l all).frozen=o.frozen:=by cases o<;>rfl
theorem fv.forget {w w':AK}{S S':Nat->Prop}{ρ ρ':lw}(hS: ∀b,S b->S' b)(hw: ∀b,S b->w'.heap[b]? =w.heap[b]?)(l:Nat)(all:Bool)
 (hρ: ∀m p,gone l all m=AF->ρ m=AA p->ρ' m=AA p) {b C:Nat} (hb:w'.heap[b]? =w.heap[b]?) {o:ae} (h:fv w S ρ b C o):
 fv w' S' ρ' b C (o.forget l all):=by
 cases o with
 |var cs=>
  obtain⟨vs,ty,h1,h2,h3⟩:=h;refine⟨vs,ty,hb▸h1,by simpa [AV.i4] using h2,fun i x v hx hv=> ?_⟩;rw[AV.i4,AS] at hx;cases hc:cs[i]? with
  |none=>simp[hc] at hx
  |some y=>simp[hc] at hx;subst hx;exact (h3 i y v hc hv).forget hS hw l all hρ
 |arr sz n e=>obtain⟨vs,ty,h1,h2,h3,h4⟩:=h;exact⟨vs,ty,hb▸h1,h2,h3,fun i hi=>⟨(h4 i hi).1,fun j x v hx hv=>((h4 i hi).2 j x v hx hv).mono hS hw⟩⟩
 |t0 sz n e=>obtain⟨h0,vs,ty,fr,h1,h2,h3,h4⟩:=h;exact⟨hS b h0,vs,ty,fr,hb▸h1,h2,h3,fun i hi=>⟨(h4 i hi).1,fun j x v hx hv=>((h4 i hi).2 j x v hx hv).mono hS hw⟩⟩
 |map wide ks n f=>obtain⟨es,clock,h1,h2⟩:=h;exact⟨es,clock,hb▸h1,h2⟩
 |dz wide ks keys ap=>
  obtain⟨es,clock,h1,h2,h3,h4⟩:=h;refine⟨es,clock,hb▸h1,h2,by simpa [AV.i4] using h3,fun i x v hx hv=> ?_⟩;rw[AV.i4,AS] at hx;cases hc:ap[i]? with
  |none=>simp[hc] at hx
  |some y=>simp[hc] at hx;subst hx;exact (h4 i y v hc hv).forget hS hw l all hρ
 |loop s ts ps code=>
  obtain⟨r,h1,h2,h3,h4,h5,h6,h7⟩:=h;refine⟨r,hb▸h1,h2,h3,h4,h5,by simpa [AV.i4] using h6,fun i x v hx hv=> ?_⟩;rw[AV.i4,AS] at hx;cases hc:ts[i]? with
  |none=>simp[hc] at hx
  |some y=>simp[hc] at hx;subst hx;exact (h7 i y v hc hv).forget hS hw l all hρ
 |gone=>exact hS b h
 |n7 ap=>
  obtain⟨vs,ty,h1,h2,h3,h4⟩:=h;refine⟨vs,ty,hb▸h1,h2,by simpa [AV.i4] using h3,fun i x v hx hv=> ?_⟩;rw[AV.i4,AS] at hx;cases hc:ap[i]? with
  |none=>simp[hc] at hx
  |some y=>simp[hc] at hx;subst hx;exact (h4 i y v hc hv).forget hS hw l all hρ
 |iter m since seen=>obtain⟨bm,h1,h2⟩:=h;exact⟨bm,hb▸h1,h2.forget hS hw l all hρ⟩
theorem n8.Yo {w:AK}{S:Nat->Prop}{ρ:lw}{h:List ae}(s:v4 w S ρ h){l:Nat}{ob:Option Nat}{C:Nat}(vt:ρ l=AA (ob,C))(hl:l<h.length)
 (o:Obj) (ao:ae) (ju:ao.frozen=AF) (C':Nat) (ho: ∀w':AK,w'.heap=w.heap.push o->fv w' S ρ w.heap.size C' ao):
 n8 w S ρ h {w with heap:=w.heap.push o} S (fun m=>if m=l then AA (AA w.heap.size,C') else ρ m) (pq l AF (h.set l ao)) [l]:=by
 have hold: ∀b,b<w.heap.size->(w.heap.push o)[b]? =w.heap[b]? :=fun b hb=>by rw[Af,if_neg (by omega)]
 have hρ: ∀m p,gone l AF m=AF->ρ m=AA p->(if m=l then AA (AA w.heap.size,C') else ρ m)=AA p:=by intro m p hg hm;rw[if_neg (fun e=>by subst e;simp[gone] at hg)];exact hm
 have jd: ∀m,m≠l->(pq l AF (h.set l ao))[m]? =(h[m]?).map (ae.forget l AF):=by intro m hm;rw[K8,AT (Aw hm)]
 have PM:(pq l AF (h.set l ao))[l]? =AA (ao.forget l AF):=by rw[K8];simp[hl]
 refine⟨⟨fun b hb=> ?_,fun m yg C1 hm=> ?_,fun m m' b C1 C2 h1 h2=> ?_,fun m b C1 ao' hm Lr hf=> ?_⟩,by rw[JT];simp,
  ⟨rfl,⟨rfl,AL _⟩,rfl,by simp,fun _ h=>h,fun b hb=>hold b (s.i0 b hb),fun _ h=> .inl h,fun b hb _=>hold b hb,fun m b C1 hm=> ?_⟩,
  fun m p hm hp=>hρ m p (by show AH l m=AF;cases hb:AH l m with|false=>rfl|true=>exact absurd (by simp[AG hb]) hm) hp,fun m _ hm=>if_neg (by simpa using hm)⟩
 ·have:=s.i0 b hb;simp;omega
 ·show∃o,(pq l AF (h.set l ao))[m]? =AA o/\_;by_cases em:m=l
  ·subst em;rw[if_pos rfl] at hm;cases hm;refine⟨_,PM,?_⟩;have h0:=ho {w with heap:=w.heap.push o} rfl;exact fv.forget (o:=ao) (fun _ h=>h) (fun _ _=>rfl) m AF hρ rfl h0
  ·rw[if_neg em] at hm;obtain⟨o',h1,h2⟩:=s.obj m yg C1 hm;refine⟨o'.forget l AF,by rw[jd m em,h1];rfl,?_⟩;cases yg with
   |none=>
    obtain⟨hC,sz',e',h3|h3⟩:=h2<;>subst h3
    ·exact⟨hC,sz',e',.inl rfl⟩
    ·exact⟨hC,sz',e',.inr rfl⟩
   |some b=>exact fv.forget (fun _ h=>h) (fun b hb=>hold b (s.i0 b hb)) l AF hρ (hold b (s.V2 hm)) h2
 ·by_cases e1:m=l<;>by_cases e2:m'=l
  ·rw[e1,e2]
  ·rw[if_pos e1] at h1;rw[if_neg e2] at h2;cases h1;have:=s.V2 h2;omega
  ·rw[if_neg e1] at h1;rw[if_pos e2] at h2;cases h2;have:=s.V2 h1;omega
  ·rw[if_neg e1] at h1;rw[if_neg e2] at h2;exact s.inj m m' b C1 C2 h1 h2
 ·by_cases em:m=l
  ·rw[if_pos em] at hm;cases hm;intro hs;have:=s.i0 _ hs;omega
  ·rw[if_neg em] at hm;have:(pq l AF (h.set l ao))[m]? =AA ao':=Lr;rw[jd m em] at this;cases hc:h[m]? with
   |none=>simp[hc] at this
   |some y=>simp[hc] at this;subst this;rw[ae.x9] at hf;exact s.own m b C1 y hm hc hf
 ·by_cases em:m=l
  ·rw[if_pos em] at hm;cases hm;exact .inl (AL _)
  ·rw[if_neg em] at hm;exact .inr ⟨m,C1,hm⟩
theorem n8.move {w:AK}{S:Nat->Prop}{ρ:lw}{h:List ae}(s:v4 w S ρ h){l:Nat}{ob:Option Nat}{C:Nat}(vt:ρ l=AA (ob,C))(hl:l<h.length)
 (o:Obj) (sz n:Nat) (e:Nat->List DV) (C':Nat) (ho: ∀w':AK,w'.heap=w.heap.push o->fv w' S ρ w.heap.size C' (.arr sz n e)):
 n8 w S ρ h {w with heap:=w.heap.push o} S (fun m=>if m=l then AA (AA w.heap.size,C') else ρ m) (pq l AF (h.set l (.arr sz n e))) [l]:=
 n8.Yo s vt hl o (.arr sz n e) rfl C' ho
theorem v4.forget {w:AK}{S:Nat->Prop}{ρ:lw}{h:List ae}(s:v4 w S ρ h)(l:Nat)(all:Bool):v4 w S ρ (pq l all h) where
 i0:=s.i0
 obj m ob C hm:=by
  obtain⟨o,h1,h2⟩:=s.obj m ob C hm;refine⟨o.forget l all,by rw[K8,h1];rfl,?_⟩;cases ob with
  |none=>
   obtain⟨hC,sz',e',h3|h3⟩:=h2<;>subst h3
   ·exact⟨hC,sz',e',.inl rfl⟩
   ·exact⟨hC,sz',e',.inr rfl⟩
  |some b=>exact fv.forget (fun _ h=>h) (fun _ _=>rfl) l all (fun _ _ _ h=>h) rfl h2
 inj:=s.inj
 own m b C o hm ho hf:=by
  rw[K8] at ho;cases hc:h[m]? with
  |none=>simp[hc] at ho
  |some y=>simp[hc] at ho;subst ho;rw[ae.x9] at hf;exact s.own m b C y hm hc hf
theorem n8.WX {w:AK}{S:Nat->Prop}{ρ:lw}{h:List ae}{w':AK}{S':Nat->Prop}{ρ':lw}{h':List ae}(c:n8 w S ρ h w' S' ρ' h' [])(pg:List Nat):
 n8 w S ρ h w' S' ρ' h' pg:=
 ⟨c.co,c.len,c.ext,fun m p _ hm=>c.v9 m p (by simp) hm,fun m hm _=>c.low m hm (by simp)⟩
theorem n8.WR {w:AK}{S:Nat->Prop}{ρ:lw}{h:List ae}{w':AK}{S':Nat->Prop}{ρ':lw}{h':List ae}{pg:List Nat}(c:n8 w S ρ h w' S' ρ' h' pg)(l:Nat):
 n8 w S ρ h w' S' ρ' (pq l AF h') pg:=
 ⟨c.co.forget l AF,by rw[JT];simpa using c.len,c.ext,c.v9,c.low⟩
theorem VR.Wk {w w':AK}{S S':Nat->Prop}(hS: ∀b,S b->S' b)(hw: ∀b,S b->w'.heap[b]? =w.heap[b]?){ρ':lw}(pg:List Nat):
 ∀{ρ:lw},(∀m p,m∉pg->ρ m=AA p->ρ' m=AA p)-> ∀{x:AV} {v:AE},VR w S ρ x v->VR w' S' ρ' (IT pg x) v:=by
 induction pg with
 |nil=>intro ρ hρ x v h;exact h.mono hS hw (fun m p=>hρ m p (by simp))
 |cons l pg ih=>
  intro ρ hρ x v h;have h1:VR w S (fun m=>if m=l then AD else ρ m) (x.forget l AF) v:=by refine VR.forget (fun _ h=>h) (fun _ _=>rfl) l AF (fun m p hg hm=> ?_) h;show (if m=l then AD else ρ m)=AA p;rw[if_neg (fun e=>by subst e;simp[gone] at hg)];exact hm
  refine ih (ρ:=fun m=>if m=l then AD else ρ m) (fun m p hm hp=> ?_) h1;by_cases e:m=l
  ·simp[e] at hp
  ·simp[e] at hp;exact hρ m p (by simp[e,hm]) hp
theorem JV (pg:List Nat): ∀(st:St),(st.i5 pg).ts=st.ts.map (IT pg)/\(st.i5 pg).h=st.h:=by
 induction pg with
 |nil=>intro st;simp[St.i5,IT]
 |cons l pg ih=>intro st;obtain⟨h1,h2⟩:=ih ⟨AV.ip l AF st.ts,st.h,l::st.mv⟩;refine⟨?_,h2⟩;show (St.i5 _ pg).ts=_;rw[h1];simp only[AV.i4,List.map_map];rfl
theorem d2t (pg:List Nat): ∀(st:St) (m:Nat),m∉(st.i5 pg).mv->m∉pg/\m∉st.mv:=by
 induction pg with
 |nil=>intro st m h;exact⟨by simp,h⟩
 |cons l pg ih=>intro st m h;have:=ih ⟨AV.ip l AF st.ts,st.h,l::st.mv⟩ m h;simp at this⊢;exact⟨⟨this.2.1,this.1⟩,this.2.2⟩
theorem Vk (pg:List Nat): ∀(h:List ae),(uu pg h).length=h.length:=by
 induction pg with
 |nil=>intro h;rfl
 |cons l pg ih=>intro h;simp[uu,ih,JT]
theorem Rel.step {E:x4}{st:St}{a:Bj}{w:AK}{S:Nat->Prop}{ρ:lw}(r:Rel E st a w S ρ){w':AK}{S':Nat->Prop}{ρ':lw}{h':List ae}{pg:List Nat}
 (c:n8 w S ρ st.h w' S' ρ' h' pg) (dst:Option Nat) {x:AV} {v:AE} (hv:VR w' S' ρ' x v):
 Rel E (((st.ld h').i5 pg).put dst x) (a.put dst v) w' S' ρ':=by
 have hp:=JV pg (st.ld h');have Gd:Vw w' S' ρ' ((st.ld h').i5 pg).ts a.tmps:=by
  refine⟨by rw[hp.1];simpa [St.ld] using r.ts.1,fun i y u hy hu=> ?_⟩;rw[hp.1,AS] at hy;cases hc:st.ts[i]? with
  |none=>simp[St.ld,hc] at hy
  |some z=>simp[St.ld,hc] at hy;subst hy;exact VR.Wk c.ext.mono c.ext.cell pg c.v9 (r.ts.2 i z u hc hu)
 have h1:v4 w' S' ρ' ((st.ld h').i5 pg).h:=by rw[hp.2];exact c.co
 have h2: ∀l,l<E.base->l∉((st.ld h').i5 pg).mv->ρ' l=E.ρ l:=by intro l hl hm;obtain⟨h3,h4⟩:=d2t pg _ l hm;rw[c.low l (BQ hl r.len) h3];exact r.v9 l hl h4
 have h3:E.base<=((st.ld h').i5 pg).h.length:=by rw[hp.2];exact Ak r.len c.len
 cases dst with
 |none=>exact⟨Gd,r.ds.ext c.ext,h1,r.ext.trans c.ext,h2,h3⟩
 |some d=>
  refine⟨⟨by simpa [St.put,Act.put,fg] using Gd.1,fun i y u hy hu=> ?_⟩,r.ds.ext c.ext,h1,r.ext.trans c.ext,h2,h3⟩;simp only[St.put,fg] at hy;simp only[Act.put] at hu;by_cases e:i=d
  ·subst e;rw[List.getElem?_set] at hy;rw[Array.getElem?_setIfInBounds] at hu;simp at hy hu;obtain⟨_,rfl⟩:=hy;obtain⟨_,rfl⟩:=hu;exact hv
  ·rw[AT (Aw e)] at hy;rw[Array.getElem?_setIfInBounds_ne (Aw e)] at hu;exact Gd.2 i y u hy hu
theorem v4.fresh {w:AK}{S:Nat->Prop}{ρ:lw}{h:List ae}(s:v4 w S ρ h){l:Nat}(hl:h.length<=l):ρ l=AD:=by
 cases e:ρ l with
 |none=>rfl
 |some p=>obtain⟨o,h1,_⟩:=s.obj l p.1 p.2 e;have:=(AB.1 h1).1;omega
theorem Va {w:AK}{S:Nat->Prop}{v:AE}{x:DV}(h:OE v=AA x):qn w S x v:=by
 unfold OE at h;split at h<;>first|(cases h;first|exact .int _ (.l _)|exact .bool _|exact .nil|exact .raw _ rfl)|skip
 case h_3 s=>
  cases h;exact .str s.data.toList
 all_goals cases h
theorem b3z {α β:Type}{f:α->Option β}: ∀{l:List α} {r:List β},l.mapM f=AA r->r.length=l.length/\ ∀(i:Nat) (x:α),l[i]? =AA x-> ∃y,r[i]? =AA y/\f x=AA y:=by
 intro l
 induction l with
 |nil=>intro r h;simp at h;subst h;simp
 |cons a l ih=>
  intro r h;simp[List.mapM_cons,AC] at h;obtain⟨y,hy,ys,hys,rfl⟩:=h;obtain⟨h1,h2⟩:=ih hys;refine⟨by simp[h1],fun i x hx=> ?_⟩;cases i with
  |zero=>simp at hx;subst hx;exact⟨y,by simp,hy⟩
  |succ i=>simp at hx;simpa using h2 i x hx
theorem d5c {w:AK}{S:Nat->Prop}{ρ:lw}{v:AE}{x:AV}(h:RV v=AA x):VR w S ρ x v:=by
 unfold RV at h;split at h
 ·rename_i cs;simp[AC] at h;obtain⟨l,hl,rfl⟩:=h;obtain⟨h1,h2⟩:=b3z hl;refine .agg _ cs (by simp[h1]) fun i x v hx hv=> ?_;simp at hx;obtain⟨y,hy,rfl⟩:=hx;obtain⟨y',Qz,hf⟩:=h2 i v (by simpa using hv);rw[hy] at Qz;cases Qz;exact .d (Va hf)
 ·simp[AC] at h;obtain⟨y,hy,rfl⟩:=h;exact .d (Va hy)
theorem dm {w:AK}{S:Nat->Prop}{ρ:lw}{ts:List AV}{a:Bj}(h:Vw w S ρ ts a.tmps){X:AZ}{x:ah}(hx:bh X=AA x):VR w S ρ (i7 ts x) (a.eval X):=by
 cases X with
 |tmp t=>
  simp[bh] at hx;subst hx;simp only[i7,cy,Act.eval];cases hc:ts[t]? with
  |none=>exact .any _
  |some y=>
   have hlt:t<a.tmps.size:=by rw[<-h.1];exact (AB.1 hc).1
   have:a.tmps[t]? =AA (a.tmps.getD t Au):=by simp[hlt]
   exact h.2 t y _ hc this
 |const v=>simp[bh,AC] at hx;obtain⟨y,hy,rfl⟩:=hx;exact d5c hy
 |global g=>simp[bh] at hx
 |func f=>simp[bh] at hx;subst hx;exact .fn f [] [] #[] #[] rfl (by simp) rfl (by simp)
theorem c9w {w:AK}{S:Nat->Prop}{ρ:lw}{ts:List AV}{a:Bj}(h:Vw w S ρ ts a.tmps){X:Array AZ}{x:List ah}(hx:NF X=AA x):
 Vw w S ρ (tg ts x) (X.map a.eval):=by
 obtain⟨h1,h2⟩:=b3z hx;refine⟨by simp[c8g,h1],fun i y v hy hv=> ?_⟩;rw[c8g,AS] at hy;rw[Array.getElem?_map] at hv;cases hX:X[i]? with
 |none=>simp[hX] at hv
 |some z=>simp[hX] at hv;subst hv;obtain⟨x',te,hf⟩:=h2 i z (by simpa using hX);simp[te] at hy;subst hy;exact dm h hf
def Wb (P:AU)(o:BK)(a:Bj)(w:AK)(S:Nat->Prop)(ρ:lw)(h:List ae)(K:AV->List ae->List Nat->Prop):Prop:=
 ∃v w' x h' pg S' ρ',((AX a.eval o).run P w= .ok (.value v) w'\/((AX a.eval o).run P w= .ok .skip w'/\v=Au))/\
  K x h' pg/\n8 w S ρ h w' S' ρ' h' pg/\VR w' S' ρ' x v
theorem Wb.same {P:AU}{o:BK}{a:Bj}{w:AK}{S:Nat->Prop}{ρ:lw}{h:List ae}{K:AV->List ae->List Nat->Prop}(s:v4 w S ρ h){v:AE}{x:AV}
 (aj:(AX a.eval o).run P w= .ok (.value v) w) (hk:K x h []) (hv:VR w S ρ x v):Wb P o a w S ρ h K:=
 ⟨v,w,x,h,[],S,ρ,.inl aj,hk,.refl s,hv⟩
section
variable {P:AU} {A:t7} {ro:Option Nat} {E:x4} {c:Nat} {o:BK} {io:qr} {st:St} {K:AV->List ae->List Nat->Prop}
 {a:Bj} {w:AK} {S:Nat->Prop} {ρ:lw}
theorem VR.bool {b:Bool}{v:AE}(h:VR w S ρ (.d (.bool b)) v):v= .bool b:=by cases h with|d h=>cases h;rfl
theorem VR.int {k:AP}{n:IX}{v:AE}(h:VR w S ρ (.d (.int k n)) v):v= .int k n.val:=by cases h with|d h=>cases h;rfl
theorem VR.raw {u v:AE}(h:VR w S ρ (.d (.raw u)) v):v=u:=by cases h with|d h=>cases h;rfl
theorem VR.nil {v:AE}(h:VR w S ρ (.d .nil) v):v= .slice AD 0 0:=by cases h with|d h=>cases h;rfl
theorem d5q {X:AZ}(bc:o.op= .move X\/o.op= .assign X)(hc:ni P c o=AA io)(hk:af (ms P A ro E) io st K)(hr:Rel E st a w S ρ):Wb P o a w S ρ st.h K:=by
 have qq:(bh X).bind (R4 c)=AA io:=by
  rcases bc with h|h<;>simpa [ni,h] using hc
 have aj:(AX a.eval o).run P w= .ok (.value (a.eval X)) w:=by
  rcases bc with h|h<;>simp[AX,h]
 simp only[AC,R4] at qq;obtain⟨y,hy,qq⟩:=qq;have hv:=dm hr.ts hy;split at qq
 ·cases qq;exact .same hr.co aj hk hv
 ·split at qq
  ·cases qq;have hn:ρ (az st.h)=AD:=hr.co.fresh (by rw[cv];exact AL _);rw[cv] at hn;have fc:a.eval X= .slice AD 0 0:=hv.nil;have hρ: ∀m p,ρ m=AA p->(if m=st.h.length then AA (AD,0) else ρ m)=AA p:=by intro m p hm;rw[if_neg (fun e=>by subst e;simp[hn] at hm)];exact hm
   refine⟨_,w,_,_,[],S,fun m=>if m=st.h.length then AA (AD,0) else ρ m,.inl aj,hk,⟨⟨hr.co.i0,fun m ob C hm=> ?_,fun m m' b C C' h1 h2=> ?_,fun m b C ao hm ju hf=> ?_⟩,by simp[fi],
    ⟨rfl,⟨rfl,AL _⟩,rfl,AL _,fun _ h=>h,fun _ _=>rfl,fun _ h=> .inl h,fun _ _ _=>rfl,fun m b C hm=> ?_⟩,fun m p _ hm=>hρ m p hm,fun m hm _=>if_neg (by omega)⟩,?_⟩
   ·show∃o,(ba st.h [.arr c 0 fun _=>[]])[m]? =AA o/\_;rw[fi];by_cases e:m=st.h.length
    ·rw[if_pos e] at hm;cases hm;exact⟨_,by rw[e];simp,rfl,c,fun _=>[],.inl rfl⟩
    ·rw[if_neg e] at hm;obtain⟨o',h1,h2⟩:=hr.co.obj m ob C hm;refine⟨o',by rw[AI (AB.1 h1).1];exact h1,?_⟩;cases ob with
     |none=>exact h2
     |some b=>exact fv.mono (fun _ h=>h) (fun _ _=>rfl) hρ rfl h2
   ·by_cases e1:m=st.h.length
    ·rw[if_pos e1] at h1;cases h1
    ·by_cases e2:m'=st.h.length
     ·rw[if_pos e2] at h2;cases h2
     ·rw[if_neg e1] at h1;rw[if_neg e2] at h2;exact hr.co.inj m m' b C C' h1 h2
   ·by_cases e1:m=st.h.length
    ·rw[if_pos e1] at hm;cases hm
    ·rw[if_neg e1] at hm;obtain⟨o',h1,h2⟩:=hr.co.obj m _ C hm;have ju:(ba st.h [.arr c 0 fun _=>[]])[m]? =AA ao:=ju;rw[fi,AI (AB.1 h1).1] at ju;exact hr.co.own m b C ao hm ju hf
   ·by_cases e1:m=st.h.length
    ·rw[if_pos e1] at hm;cases hm
    ·rw[if_neg e1] at hm;exact .inr ⟨m,C,hm⟩
   ·rw[fc,cv];exact .bi _ _ AD 0 AF AD 0 0 AD (by simp) (by simp) (by simp) (by simp)
  ·cases qq
theorem e4o {C X Y:AZ}(bc:o.op= .pick C X Y)(hc:ni P c o=AA io)(hk:af (ms P A ro E) io st K)(hr:Rel E st a w S ρ):Wb P o a w S ρ st.h K:=by
 simp[ni,bc,AC] at hc;obtain⟨x,hx,y,hy,z,hz,rfl⟩:=hc;have h0:=dm hr.ts hx;have h1:=dm hr.ts hy;have h2:=dm hr.ts hz;simp only[af,MC] at hk;split at hk
 ·rename_i b hb;rw[hb] at h0;have hC:=h0.bool;cases b with
  |true=>exact .same hr.co (by simp[AX,bc,hC,asBool]) hk h1
  |false=>exact .same hr.co (by simp[AX,bc,hC,asBool]) hk h2
 ·exact hk.elim
theorem IQ {v:AE}{zs:List DV}(h:R6 v=AA zs):zs.length=v.cells.size/\ ∀(w:AK) (S:Nat->Prop) (i:Nat) (x:DV) (u:AE),zs[i]? =AA x->v.cells[i]? =AA u->qn w S x u:=by obtain⟨h1,h2⟩:=b3z h;refine⟨by simpa using h1,fun w S i x u hx hu=> ?_⟩;obtain⟨y,hy,hf⟩:=h2 i u (by simpa using hu);rw[hx] at hy;cases hy;exact Va hf
theorem KN {t:AJ}{zs:List DV}(h:uo P t=AA zs): ∃i z,P.info? t=AA i/\i.zero=AA z/\R6 z=AA zs:=by simp[uo,AC] at h;obtain⟨i,hi,z,hz,hd⟩:=h;exact⟨i,z,hi,hz,hd⟩
theorem Jz {t:AJ}{i:TypeInfo}{z:AE}(hi:P.info? t=AA i)(hz:i.zero=AA z):(zeroValue t).run P w= .ok z w:=by simp[zeroValue,A2,hi,hz]
theorem d8p {t:AJ}(bc:o.op= .alloc t)(hc:ni P c o=AA io)(hk:af (ms P A ro E) io st K)(hr:Rel E st a w S ρ):Wb P o a w S ρ st.h K:=by
 simp[ni,bc,AC] at hc;obtain⟨zs,hz,rfl⟩:=hc;obtain⟨i,z,hi,w5,hd⟩:=KN hz;obtain⟨hl,hv⟩:=IQ hd;have hn:ρ st.h.length=AD:=hr.co.fresh (AL _);simp only[af,cv,fi,HN] at hk;refine⟨.pointer (AA ⟨w.heap.size,0,AD⟩),{w with heap:=w.heap.push (.cells z.cells t)},_,_,[],S,_,.inl ?_,hk,n8.new hr.co hn (.cells z.cells t) (.var (zs.map .d)) 0 (fun w' gd=>⟨z.cells,t,?_,by simp[hl],?_⟩),.ptr _ 0 w.heap.size 0 (by simp)⟩
 ·simp[AX,bc,Instr.alloc,newVar,BY,Jz hi w5,BU]
 ·rw[gd];simp
 ·intro j x u hx hu;simp at hx;obtain⟨y,hy,rfl⟩:=hx;exact .d (hv _ _ j y u hy hu)
theorem KW {x:AV}{v:AE}(h:VR w S ρ x v)(h1:tv x.cells=AR):x.cells.length=v.cells.size/\
 ∀(i:Nat) (y:AV) (u:AE),x.cells[i]? =AA y->v.cells[i]? =AA u->VR w S ρ y u:=by
 have one: ∀{x:AV} {v:AE},VR w S ρ x v->x.cells=[x]->v.cells= #[v]->x.cells.length=v.cells.size/\
  ∀(i:Nat) (y:AV) (u:AE),x.cells[i]? =AA y->v.cells[i]? =AA u->VR w S ρ y u:=by
  intro x v h e1 e2;rw[e1,e2];refine⟨rfl,fun i y u hy hu=> ?_⟩;cases i with
  |zero=>simp at hy hu;subst hy;subst hu;exact h
  |succ i=>simp at hy
 cases h with
 |agg cs vs hl h=>exact⟨hl,h⟩
 |any v=>simp[AV.cells,tv,AV.one] at h1
 |lc=>simp[AV.cells,tv,AV.one] at h1
 |d h=>
  cases h with
  |raw v sq=>exact one (.d (.raw _ sq)) rfl (by cases v<;>first|rfl|cases sq)
  |int k n=>exact one (.d (.int _ _)) rfl rfl
  |bool b=>exact one (.d (.bool _)) rfl rfl
  |str l=>exact one (.d (.str _)) rfl rfl
  |nil=>exact one (.d .nil) rfl rfl
  |VO sz e a cap=>exact one (.d (.VO _ _ _ _)) rfl rfl
  |sl sz n e b off cap f hb hc hl hv hr=>exact one (.d (.sl sz n e b off cap f hb hc hl hv hr)) rfl rfl
 |tuple cs vs hl h=>simp[AV.cells,tv,AV.one] at h1
 |ptr l off b C h=>exact one (.ptr l off b C h) rfl rfl
 |ii l sz i off b C h=>exact one (.ii l sz i off b C h) rfl rfl
 |d9 row off b base f hb hv hr=>exact one (.d9 row off b base f hb hv hr) rfl rfl
 |lm sz n e a h=>exact one (.lm sz n e a h) rfl rfl
 |bi l sz start len full ob C cap a h hc b9 ha=>exact one (.bi l sz start len full ob C cap a h hc b9 ha) rfl rfl
 |d7 l off n b C cap h hc=>exact one (.d7 l off n b C cap h hc) rfl rfl
 |map l b C h=>exact one (.map l b C h) rfl rfl
 |fn f first cap us vs nw Sp hl h=>exact one (.fn f first cap us vs nw Sp hl h) rfl rfl
 |ge m n h=>exact one (.ge m n h) rfl rfl
 |yl l b C h=>exact one (.yl l b C h) rfl rfl
theorem f1z {t:AJ}{X:AZ}(bc:o.op= .box t X)(hc:ni P c o=AA io)(hk:af (ms P A ro E) io st K)(hr:Rel E st a w S ρ):Wb P o a w S ρ st.h K:=by
 simp[ni,bc,AC] at hc;obtain⟨x,hx,rfl⟩:=hc;have h0:=dm hr.ts hx;have hn:ρ st.h.length=AD:=hr.co.fresh (AL _);simp only[af,cv,fi] at hk;split at hk
 ·rename_i h1;obtain⟨hl,hv⟩:=KW h0 h1;refine⟨.pointer (AA ⟨w.heap.size,0,AD⟩),{w with heap:=w.heap.push (.cells (a.eval X).cells t)},_,_,[],S,_,.inl ?_,hk,
   n8.new hr.co hn (.cells (a.eval X).cells t) (.var (i7 st.ts x).cells) 0 (fun w' gd=>⟨(a.eval X).cells,t,?_,hl.symm,?_⟩),.ptr _ 0 w.heap.size 0 (by simp)⟩
  ·simp[AX,bc,Instr.box,newVar,BY,BU]
  ·rw[gd];simp
  ·intro j y u hy hu;refine (hv j y u hy hu).mono (fun _ h=>h) (fun b hb=> ?_) (fun _ _ h=>h);rw[gd,Af,if_neg];have:=hr.co.i0 b hb;omega
 ·exact hk.elim
theorem d5w {t:AJ}{ag:Option Nat}(h:IK P t=AA ag):
 (Bq t).run P w= .ok ag.isSome w/\ ∀n,ag=AA n->(sizeOf t).run P w= .ok n w:=by
 simp[IK,AC] at h;obtain⟨d,hd,h⟩:=h;have hu:(underlying t).run P w= .ok d w:=AN hd w;have bl: ∀n,HX P t=AA n->(sizeOf t).run P w= .ok n w:=by intro n hn;simp[HX] at hn;obtain⟨i,hi,rfl⟩:=hn;simp[sizeOf,A2,hi]
 split at h
 ·simp[AC] at h;obtain⟨n,hn,rfl⟩:=h;exact⟨by simp[Bq,hu],fun m hm=>by cases hm;exact bl n hn⟩
 ·simp[AC] at h;obtain⟨n,hn,rfl⟩:=h;exact⟨by simp[Bq,hu],fun m hm=>by cases hm;exact bl n hn⟩
 ·cases h;rename_i h1 h2;refine⟨?_,fun n hn=>by cases hn⟩;simp only[Bq,Ay,hu,Ai];cases d<;>first|rfl|(exact absurd rfl (h1 _))|(exact absurd rfl (h2 _ _))
theorem xi (b off i:Nat):(⟨b,off,AD⟩:BG).add i=⟨b,off+i,AD⟩:=by unfold Addr.add;split<;>simp_all
theorem a6i {t:AJ}{ag:Option Nat}(h:IK P t=AA ag){b off:Nat}(f:Nat->AE):
 (match ag with
  |none=>w.cell? ⟨b,off,AD⟩=AA (f 0)->(A5 t ⟨b,off,AD⟩).run P w= .ok (f 0) w
  |some n=>(∀j,j<n->w.cell? ⟨b,off+j,AD⟩=AA (f j))->(A5 t ⟨b,off,AD⟩).run P w= .ok (.agg ((Aq n).map f).toArray) w):=by
 obtain⟨h1,h2⟩:=d5w (w:=w) h;cases ag with
 |none=>intro hc;simp[A5,h1,hc]
 |some n=>intro hc;have:=Bk (P:=P) w ⟨b,off,AD⟩ n f (fun j hj=>by rw[xi];exact hc j hj);simp[A5,h1,h2 n rfl,this]
theorem L3 {t:AJ}{ag:Option Nat}(h:IK P t=AA ag){b base off:Nat}{cs:List AV}(kj: ∀j x,cs[j]? =AA x-> ∃v,w.cell? ⟨b,base+j,AD⟩=AA v/\VR w S ρ x v)
 {x:AV} (hx:match ag with|none=>ax cs off=AA x|some n=> ∃c,po cs off n=AA c/\x= .agg c):
 ∃v,(A5 t ⟨b,base+off,AD⟩).run P w= .ok v w/\VR w S ρ x v:=by
 cases ag with
 |none=>simp only[cy] at hx;obtain⟨v,hv,pd⟩:=kj off x hx;exact⟨v,a6i h (b:=b) (off:=base+off) (fun _=>v) hv,pd⟩
 |some n=>
  obtain⟨cc,da,rfl⟩:=hx;obtain⟨hl,jd⟩:=Tf _ _ _ _ da;have hex: ∀j,∃v,j<n->w.cell? ⟨b,base+off+j,AD⟩=AA v/\ ∀y,cc[j]? =AA y->VR w S ρ y v:=by
   intro j;by_cases hj:j<n
   ·have h1:=jd j hj;have: ∃y,cc[j]? =AA y:=⟨cc[j]'(by omega),At (by omega)⟩;obtain⟨y,hy⟩:=this;rw[hy] at h1;obtain⟨v,hv,pd⟩:=kj (off+j) y h1.symm;exact⟨v,fun _=>⟨by rw[A9];exact hv,fun y' Qz=>by rw[hy] at Qz;cases Qz;exact pd⟩⟩
   ·exact⟨Au,fun h=>absurd h hj⟩
  have tb:=fun j=>(hex j).choose_spec;refine⟨_,a6i h (b:=b) (off:=base+off) (fun j=>(hex j).choose) (fun j hj=>(tb j hj).1),.agg _ _ (by simp[hl]) fun i y v hy hv=> ?_⟩;have hi:i<n:=by have:=(AB.1 hy).1;omega
  simp[BO hi] at hv;subst hv;exact (tb i hi).2 y hy
theorem c1x (l:List DV)(p m:Nat)(r:List DV)(h:po l p m=AA r):po (l.map AV.d) p m=AA (r.map AV.d):=by
 induction l generalizing p m r with
 |nil=>cases p<;>cases m<;>simp_all [po]
 |cons z l ih=>
  cases p with
  |zero=>
   cases m with
   |zero=>simp[po] at h⊢;exact h
   |succ m=>
    simp only[po,BZ] at h⊢;cases hr:po l 0 m with
    |none=>simp[hr] at h
    |some r'=>simp[hr] at h;subst h;simp[ih 0 m r' hr]
  |succ p=>simp only[po,BZ] at h⊢;exact ih p m r h
theorem c1s {h:List ae}{p:AV}{pv:AE}{t:AJ}{ag:Option Nat}{K:AV->Prop}(hs:v4 w S ρ h)(h0:VR w S ρ p pv)(kr:IK P t=AA ag)
 (hk:Gl (ms P A ro E) h p ag K): ∃y v pa,pv= .pointer (AA pa)/\(A5 t pa).run P w= .ok v w/\VR w S ρ y v/\K y:=by
 have fin: ∀{y:AV} {pa:BG},pv= .pointer (AA pa)->(∃v,(A5 t pa).run P w= .ok v w/\VR w S ρ y v)->K y->
  ∃y v pa,pv= .pointer (AA pa)/\(A5 t pa).run P w= .ok v w/\VR w S ρ y v/\K y:=
  fun hp ⟨v,hv,pd⟩ hk=>⟨_,v,_,hp,hv,pd,hk⟩
 unfold Gl at hk;cases h0 with
 |ptr l off b C hl=>
  simp only[cy] at hk;obtain⟨oo,h1,h2⟩:=hs.obj l _ C hl;cases oo with
  |var cs=>
   simp only[h1] at hk;obtain⟨vs,ty,h3,h4,h5⟩:=h2;have kj: ∀j x,cs[j]? =AA x-> ∃v,w.cell? ⟨b,0+j,AD⟩=AA v/\VR w S ρ x v:=by intro j x hj;have hlt:=(AB.1 hj).1;refine⟨vs[j]'(by omega),?_,h5 j x _ hj (by simp[h4,hlt])⟩;rw[cell?_of h3];simp[h4,hlt]
   cases ag with
   |none=>
    simp only at hk;split at hk
    ·rename_i y hy;refine fin rfl ?_ hk;have:=L3 kr (b:=b) (base:=0) (off:=off) kj (x:=y) (by simpa [cy] using hy);simpa using this
    ·exact hk.elim
   |some n=>
    simp only at hk;split at hk
    ·rename_i y hy;refine fin rfl ?_ hk;have:=L3 kr (b:=b) (base:=0) (off:=off) kj (x:= .agg y) ⟨y,hy,rfl⟩;simpa using this
    ·exact hk.elim
  |_=>simp only[h1] at hk
 |ii l sz i off b C hl=>
  simp only[cy] at hk;obtain⟨oo,h1,h2⟩:=hs.obj l _ C hl;have row: ∀{sz' n:Nat} {e:Nat->List DV} {vs:Array AE} {ty:AJ} {fr:Nat×Nat},sz=sz'->i<n->w.heap[b]? =AA (.cells vs ty fr)->vs.size=C*sz'->n<=C->
   (∀i,i<n->(e i).length=sz'/\ ∀(j:Nat) (x:DV) (v:AE),(e i)[j]? =AA x->vs[i*sz'+j]? =AA v->qn w S x v)->
   Gk (e i) off ag K-> ∃y v pa,Value.pointer (AA ⟨b,i*sz+off,AD⟩)= .pointer (AA pa)/\(A5 t pa).run P w= .ok v w/\VR w S ρ y v/\K y:=by
   intro sz' n e vs ty fr bl aq h3 h4 h5 h6 hk;subst bl;obtain⟨h7,h8⟩:=h6 i aq;have kj: ∀j x,((e i).map AV.d)[j]? =AA x-> ∃v,w.cell? ⟨b,i*sz+j,AD⟩=AA v/\VR w S ρ x v:=by
    intro j x hj;simp at hj;obtain⟨y,hy,rfl⟩:=hj;have hlt:=(AB.1 hy).1;have hb:i*sz+j<vs.size:=by rw[h4];have:(i+1)*sz<=C*sz:=AO _ (by omega);rw[AW] at this;omega
    refine⟨vs[i*sz+j],?_,.d (h8 j y _ hy (by simp[hb]))⟩;rw[cell?_of h3];simp[hb]
   unfold Gk at hk;cases ag with
   |none=>
    simp only at hk;split at hk
    ·rename_i y hy;refine fin rfl ?_ hk;exact L3 kr (b:=b) (base:=i*sz) (off:=off) kj (x:= .d y) (by simp[cy] at hy⊢;exact hy)
    ·exact hk.elim
   |some n=>
    simp only at hk;split at hk
    ·rename_i y hy;refine fin rfl ?_ hk;refine L3 kr (b:=b) (base:=i*sz) (off:=off) kj (x:= .agg (tu .d y)) ⟨tu .d y,?_,rfl⟩;rw[HN];exact c1x _ _ _ _ hy
    ·exact hk.elim
  cases oo with
  |arr sz' n e=>
   simp only[h1] at hk;split at hk
   ·rename_i bl;obtain⟨vs,ty,h3,h4,h5,h6⟩:=h2;obtain⟨aq,hk⟩:(i<n)/\_:=hk;exact row (AG bl) aq h3 h4 h5 h6 hk
   ·exact hk.elim
  |t0 sz' n e=>
   simp only[h1] at hk;split at hk
   ·rename_i bl;obtain⟨_,vs,ty,fr,h3,h4,h5,h6⟩:=h2;obtain⟨aq,hk⟩:(i<n)/\_:=hk;exact row (AG bl) aq h3 h4 h5 h6 hk
   ·exact hk.elim
  |n7 ap=>
   simp only[h1] at hk;split at hk
   ·rename_i hz;simp only[Am] at hz;have e1:=AG hz.1;have e2:=AG hz.2;subst e1 e2;cases ag with
    |none=>
     simp only at hk;split at hk
     ·rename_i y hy;obtain⟨vs,ty,h3,h4,h5,h6⟩:=h2;have kj: ∀j x,ap[j]? =AA x-> ∃v,w.cell? ⟨b,0+j,AD⟩=AA v/\VR w S ρ x v:=by
       intro j x hj;have hlt:=(AB.1 hj).1;have hlt2:j<vs.size:=by omega
       refine⟨vs[j]'hlt2,?_,h6 j x _ hj (by simp[hlt2])⟩;rw[cell?_of h3];simp[hlt2]
      refine fin rfl ?_ hk;have:=L3 kr (b:=b) (base:=0) (off:=i) kj (x:=y) (by simpa [cy] using hy);simpa using this
     ·exact hk.elim
    |some n=>exact hk.elim
   ·exact hk.elim
  |_=>simp only[h1] at hk
 |d9 Ra off b base f hb hv vq=>
  have kj: ∀j x,(Ra.map AV.d)[j]? =AA x-> ∃v,w.cell? ⟨b,base+j,AD⟩=AA v/\VR w S ρ x v:=by intro j x hj;simp at hj;obtain⟨y,hy,rfl⟩:=hj;exact⟨f j,hv j (AB.1 hy).1,.d (vq j y hy)⟩
  unfold Gk at hk;cases ag with
  |none=>
   simp only at hk;split at hk
   ·rename_i y hy;refine fin rfl ?_ hk;exact L3 kr (b:=b) (base:=base) (off:=off) kj (x:= .d y) (by simp[cy] at hy⊢;exact hy)
   ·exact hk.elim
  |some n=>
   simp only at hk;split at hk
   ·rename_i y hy;refine fin rfl ?_ hk;refine L3 kr (b:=b) (base:=base) (off:=off) kj (x:= .agg (tu .d y)) ⟨tu .d y,?_,rfl⟩;rw[HN];exact c1x _ _ _ _ hy
   ·exact hk.elim
 |_=>exact hk.elim
theorem e3w {t:AJ}{X:AZ}(bc:o.op= .load t X)(hc:ni P c o=AA io)(hk:af (ms P A ro E) io st K)(hr:Rel E st a w S ρ):Wb P o a w S ρ st.h K:=by simp[ni,bc,AC] at hc;obtain⟨ag,kr,x,hx,rfl⟩:=hc;obtain⟨y,v,pa,hp,hv,pd,hk⟩:=c1s hr.co (dm hr.ts hx) kr hk;exact .same hr.co (by simp[AX,bc,Instr.loadAt,hp,Ao,hv]) hk pd
end
section
variable {P:AU} {A:t7} {ro:Option Nat} {E:x4} {c:Nat} {o:BK} {io:qr} {st:St} {K:AV->List ae->List Nat->Prop}
 {a:Bj} {w:AK} {S:Nat->Prop} {ρ:lw} {h:List ae}
theorem T0 (e:Nat->List DV)(s:Option Nat):Re (ms P A ro E) e s=fun j=>e (s.getD 0+j):=by
 cases s with
 |none=>funext j;simp[Re]
 |some s=>rfl
theorem IJ (s:Option Nat)(n:Nat):GU (ms P A ro E) s n=s.getD 0+n:=by
 cases s with
 |none=>simp[GU]
 |some s=>rfl
theorem b1w {b C sz m:Nat}{e:Nat->List DV}{vs:Array AE}{ty:AJ}{fr:Nat×Nat}(h3:w.heap[b]? =AA (.cells vs ty fr))(h4:vs.size=C*sz)(h5:m<=C)
 (h6: ∀i,i<m->(e i).length=sz/\ ∀(j:Nat) (x:DV) (v:AE),(e i)[j]? =AA x->vs[i*sz+j]? =AA v->qn w S x v) {i:Nat} (hi:i<m):
 (e i).length=sz/\ ∀j,j<sz->w.cell? ⟨b,i*sz+j,AD⟩=AA (vs.getD (i*sz+j) Au)/\ ∀x,(e i)[j]? =AA x->qn w S x (vs.getD (i*sz+j) Au):=by
 obtain⟨h7,h8⟩:=h6 i hi;refine⟨h7,fun j hj=> ?_⟩;have hb:i*sz+j<vs.size:=by rw[h4];have:(i+1)*sz<=C*sz:=AO _ (by omega);rw[AW] at this;omega
 have hg:vs[i*sz+j]? =AA (vs.getD (i*sz+j) Au):=by simp[hb]
 exact⟨by rw[cell?_of h3];exact hg,fun x hx=>h8 j x _ hx hg⟩
theorem a8u {ob:Option Nat}{C sz m:Nat}{e:Nat->List DV}{o:ae}(ho:o= .arr sz m e\/o= .t0 sz m e)(hh:Oi w S ρ ob C o)(hm:0<m):
 ∃b vs ty fr,ob=AA b/\w.heap[b]? =AA (.cells vs ty fr)/\vs.size=C*sz/\m<=C/\
  ∀i,i<m->(e i).length=sz/\ ∀(j:Nat) (x:DV) (v:AE),(e i)[j]? =AA x->vs[i*sz+j]? =AA v->qn w S x v:=by
 cases ob with
 |none=>
  obtain⟨_,sz',e',h3|h3⟩:=hh<;>rcases ho with ho|ho<;>subst ho<;>cases h3<;>omega
 |some b=>
  rcases ho with ho|ho
  ·subst ho;obtain⟨vs,ty,h3,h4,h5,h6⟩:=hh;exact⟨b,vs,ty,_,rfl,h3,h4,h5,h6⟩
  ·subst ho;obtain⟨_,vs,ty,fr,h3,h4,h5,h6⟩:=hh;exact⟨b,vs,ty,fr,rfl,h3,h4,h5,h6⟩
theorem d4y {x:AV}{v:AE}{K:Nat->Nat->(Nat->List DV)->Prop}(hs:v4 w S ρ h)(h0:VR w S ρ x v)(hk:um (ms P A ro E) h x K):
 ∃sz n e a cap,K sz n e/\v= .slice a n cap/\ ∀S':Nat->Prop,(∀b,S b->S' b)->(∀l sz s n f,x= .bi l sz s n f-> ∀b C,ρ l=AA (AA b,C)->S' b)->qn w S' (.sl sz n e) v:=by
 cases h0 with
 |d h1=>
  cases h1 with
  |VO sz e a cap=>exact⟨sz,0,e,a,cap,hk,rfl,fun S' _ _=> .VO sz e a cap⟩
  |sl sz n e b off cap f hb hc hl hv hr=>exact⟨sz,n,e,_,_,hk,rfl,fun S' hS _=>(qn.sl sz n e b off cap f hb hc hl hv hr).mono hS fun _ _=>rfl⟩
  |_=>exact hk.elim
 |lm sz n e a h1=>exact⟨sz,n,e,_,_,hk,rfl,fun S' hS _=>h1.mono hS fun _ _=>rfl⟩
 |bi l sz s n f ob C cap a hl hc b9 ha=>
  simp only[um,cy] at hk;obtain⟨oo,h1,h2⟩:=hs.obj l ob C hl;rw[h1] at hk;have main: ∀{sz' m:Nat} {e:Nat->List DV},(oo= .arr sz' m e\/oo= .t0 sz' m e)->AH sz sz'=AR->s.getD 0+n<=m->K sz n (fun j=>e (s.getD 0+j))->
   ∃NW n1 e1 a' cap',K NW n1 e1/\Value.slice a n cap= .slice a' n1 cap'/\ ∀S':Nat->Prop,(∀b,S b->S' b)->(∀l' sz' s' n' f',AV.bi l sz s n f= .bi l' sz' s' n' f'-> ∀b C,ρ l'=AA (AA b,C)->S' b)->qn w S' (.sl NW n1 e1) (.slice a n cap):=by
   intro sz' m e ho bl hle hk;have bl:=AG bl;subst bl;refine⟨sz,n,_,a,cap,hk,rfl,fun S' hS hx=> ?_⟩;by_cases hn:n=0
   ·subst hn;exact .VO _ _ _ _
   ·obtain⟨b,vs,ty,fr,rfl,h3,h4,h5,h6⟩:=a8u ho h2 (by omega);have yw:0<cap:=by rw[b9];split<;>omega
    rw[ha yw];have ft:=fun i (hi:i<n)=>b1w h3 h4 h5 h6 (i:=s.getD 0+i) (by omega);refine .sl sz n _ b (s.getD 0*sz) cap (fun i j=>vs.getD ((s.getD 0+i)*sz+j) Au) (fun _=>hx _ _ _ _ _ rfl b C hl) (by rw[b9];split<;>omega) (fun i hi=>(ft i hi).1) (fun i hi j hj=> ?_) (fun i hi j x te=> ?_)
    ·have:=((ft i hi).2 j hj).1;rw[AW] at this;rw[this,AW]
    ·have hj:j<sz:=by have:=(AB.1 te).1;rw[(ft i hi).1] at this;exact this
     exact (((ft i hi).2 j hj).2 x te).mono hS fun _ _=>rfl
  cases oo with
  |arr sz' m e=>
   simp only[IJ,T0] at hk;split at hk
   ·rename_i bl;obtain⟨hle,hk⟩:(s.getD 0+n<=m)/\_:=hk;exact main (.inl rfl) bl hle hk
   ·exact hk.elim
  |t0 sz' m e=>
   simp only[IJ,T0] at hk;split at hk
   ·rename_i bl;obtain⟨hle,hk⟩:(s.getD 0+n<=m)/\_:=hk;exact main (.inr rfl) bl hle hk
   ·exact hk.elim
  |_=>exact hk.elim
 |_=>exact hk.elim
def Mu (w:AK):Nat->Prop:=fun b=>b<w.heap.size
theorem d4w {x:AV}{v:AE}{K:AV->Prop}(hs:v4 w S ρ h)(h0:VR w S ρ x v)(hk:HT (ms P A ro E) h x K): ∃x',K x'/\VR w (Mu w) ρ x' v:=by
 have hS: ∀b,S b->Mu w b:=fun b hb=>hs.i0 b hb;have all:VR w (Mu w) ρ x v:=h0.mono hS (fun _ _=>rfl) (fun _ _ h=>h);unfold HT at hk;split at hk
 ·rename_i l off n;cases h0 with
  |d7 _ _ _ b C cap hρ b9=>
   obtain⟨oo,h1,h2⟩:=hs.obj l _ C hρ;rw[cy,h1] at hk;cases oo with
   |var cs=>
    simp only at hk;split at hk
    ·rename_i c hc;split at hk
     ·rename_i ds hds;obtain⟨vs,ty,h3,h4,h5⟩:=h2;obtain⟨j9,k8⟩:=Tf _ _ _ _ hc;obtain⟨hd1,Nd⟩:=R7 hds;have jk: ∀i,i<n-> ∃(x:DV) (u:AE),ds[i]? =AA x/\vs[off+i]? =AA u/\qn w S x u:=by
       intro i hi;have hx:ds[i]? =AA (ds[i]'(by omega)):=At _;obtain⟨y,kj,hy⟩:=Nd i _ hx;rw[k8 i hi] at kj;have hlt:off+i<vs.size:=by rw[h4];exact (AB.1 kj).1
       have hu:vs[off+i]? =AA vs[off+i]:=As hlt;exact⟨_,_,hx,hu,hy (h5 _ _ _ kj hu)⟩
      refine⟨_,hk,.d (.sl 1 n _ b off cap (fun i _=>vs.getD (off+i) Au) (fun _=>hs.V2 hρ) b9 (fun i hi=> ?_) (fun i hi j hj=> ?_) (fun i hi j x hx=> ?_))⟩
      ·obtain⟨x,u,h6,h7,h8⟩:=jk i hi;rw[xe,HN,AS,h6];rfl
      ·obtain⟨x,u,h6,h7,h8⟩:=jk i hi;have hj0:j=0:=by omega
       subst hj0;rw[cell?_of h3,Bg,Az];rw[h7];simp[BC,h7]
      ·obtain⟨y,u,h6,h7,h8⟩:=jk i hi;rw[xe,HN,AS,h6] at hx;have hu:vs.getD (off+i) Au=u:=by simp[BC,h7]
       cases j with
       |zero=>simp at hx;subst hx;rw[hu];exact h8.mono hS (fun _ _=>rfl)
       |succ j=>simp at hx
     ·exact hk.elim
    ·exact hk.elim
   |_=>exact hk.elim
 ·obtain⟨sz,n,e,a,cap,h1,_,h2⟩:=d4y hs h0 hk;exact⟨_,h1,.d (h2 _ hS fun l _ _ _ _ _ b C hl=>hs.V2 hl)⟩
 ·cases h0 with
  |lm sz n e a h1=>exact⟨_,hk,.d (h1.mono hS fun _ _=>rfl)⟩
 ·exact⟨_,hk,all⟩
theorem d9i {xs:List AV}(hs:v4 w S ρ h): ∀{vs:List AE} {K:List AV->Prop},xs.length=vs.length->(∀(i:Nat) (x:AV) (v:AE),xs[i]? =AA x->vs[i]? =AA v->VR w S ρ x v)->
 NH (ms P A ro E) h xs K-> ∃lg,K lg/\lg.length=vs.length/\ ∀(i:Nat) (x:AV) (v:AE),lg[i]? =AA x->vs[i]? =AA v->VR w (Mu w) ρ x v:=by
 induction xs with
 |nil=>intro vs K hl _ hk;exact⟨[],hk,hl,by simp⟩
 |cons x xs ih=>
  intro vs K hl hv hk;cases vs with
  |nil=>simp at hl
  |cons v vs=>
   obtain⟨x',hk,h1⟩:=d4w hs (hv 0 x v (by simp) (by simp)) hk;obtain⟨lg,hk,h2,h3⟩:=ih (by simpa using hl) (fun i y u hy hu=>hv (i+1) y u (by simpa using hy) (by simpa using hu)) hk;refine⟨_,hk,by simp[h2],fun i y u hy hu=> ?_⟩;cases i with
   |zero=>simp at hy hu;subst hy;subst hu;exact h1
   |succ i=>simp at hy hu;exact h3 i y u hy hu
theorem d9k {xs:List AV}(hs:v4 w S ρ h): ∀{vs:List AE} {K:List AV->Prop},xs.length=vs.length->(∀(i:Nat) (x:AV) (v:AE),xs[i]? =AA x->vs[i]? =AA v->VR w S ρ x v)->
 HU (ms P A ro E) h xs K-> ∃lg,K lg/\lg.length=vs.length/\ ∀(i:Nat) (x:AV) (v:AE),lg[i]? =AA x->vs[i]? =AA v->VR w (Mu w) ρ x v:=by
 induction xs with
 |nil=>intro vs K hl _ hk;exact⟨[],hk,hl,by simp⟩
 |cons x xs ih=>
  intro vs K hl hv hk;cases vs with
  |nil=>simp at hl
  |cons v vs=>
   have h0:=hv 0 x v (by simp) (by simp);have hx: ∃x',VR w (Mu w) ρ x' v/\HU (ms P A ro E) h xs fun r'=>K (x'::r'):=by
    unfold HU at hk;split at hk
    ·rename_i heq;cases heq
    ·rename_i heq;cases heq;cases h0 with
     |agg cs us bu h'=>obtain⟨jw,hk,h2,h3⟩:=d9i hs (vs:=us.toList) (by simpa using bu) (fun i y u hy hu=>h' i y u hy (by simpa using hu)) hk;exact⟨_,.agg jw us (by simpa using h2) (fun i y u hy hu=>h3 i y u hy (by simpa using hu)),hk⟩
    ·rename_i heq;cases heq;obtain⟨x',hk,h1⟩:=d4w hs h0 hk;exact⟨x',h1,hk⟩
   obtain⟨x',h1,hk⟩:=hx;obtain⟨lg,hk,h2,h3⟩:=ih (by simpa using hl) (fun i y u hy hu=>hv (i+1) y u (by simpa using hy) (by simpa using hu)) hk;refine⟨_,hk,by simp[h2],fun i y u hy hu=> ?_⟩;cases i with
   |zero=>simp at hy hu;subst hy;subst hu;exact h1
   |succ i=>simp at hy hu;exact h3 i y u hy hu
structure WY (w:AK)(S:Nat->Prop)(ρ:lw)(h:List ae)(S':Nat->Prop)(h':List ae):Prop where
 co:v4 w S' ρ h'
 len:h.length=h'.length
 mono: ∀b,S b->S' b
 news: ∀b,S' b->S b\/ ∃l C,ρ l=AA (AA b,C)
theorem WY.refl (hs:v4 w S ρ h):WY w S ρ h S h:=⟨hs,rfl,fun _ h=>h,fun _ h=> .inl h⟩
theorem WY.trans {S' Om:Nat->Prop}{h' h'':List ae}(k:WY w S ρ h S' h')(k':WY w S' ρ h' Om h''):WY w S ρ h Om h'':=
 ⟨k'.co,k.len.trans k'.len,fun b hb=>k'.mono b (k.mono b hb),fun b hb=>by
   rcases k'.news b hb with h|h
   ·exact k.news b h
   ·exact .inr h⟩
theorem WY.W0 {S':Nat->Prop}{h':List ae}(k:WY w S ρ h S' h'):n8 w S ρ h w S' ρ h' []:=
 ⟨k.co,by rw[k.len];exact AL _,⟨rfl,⟨rfl,AL _⟩,rfl,AL _,k.mono,fun _ _=>rfl,fun b hb=>by
   rcases k.news b hb with h|h
   ·exact .inl h
   ·exact .inr (.inr h),fun _ _ _=>rfl,fun l b C hl=> .inr ⟨l,C,hl⟩⟩,fun _ _ _ h=>h,fun _ _ _=>rfl⟩
theorem WY.vr {S':Nat->Prop}{h':List ae}(k:WY w S ρ h S' h'){x:AV}{v:AE}(hv:VR w S ρ x v):VR w S' ρ x v:=hv.mono k.mono (fun _ _=>rfl) (fun _ _ h=>h)
theorem Sn {x:AV}{v:AE}{K:AV->List ae->Prop}(hs:v4 w S ρ h)(h0:VR w S ρ x v)(hk:uv (ms P A ro E) h x K):
 ∃x' h' S',K x' h'/\WY w S ρ h S' h'/\VR w S' ρ x' v:=by
 unfold uv at hk;split at hk
 ·rename_i l sz s n f;obtain⟨NW,n1,e1,a1,cap1,hk,_,h2⟩:=d4y hs h0 hk;simp only[cy,fg] at hk;split at hk
  ·rename_i sz' m e' hl;cases h0 with
   |bi _ _ _ _ _ ob C cap a hρ hc b9 ha=>
    have k:=n8.t0 hs hρ hl;refine⟨_,_,_,hk,⟨k.co,by simp,fun _ h=> .inl h,fun b hb=> ?_⟩,.d (h2 _ (fun _ h=> .inl h) fun l' _ _ _ _ hx b C' bu=> ?_)⟩
    ·rcases hb with hb|hb
     ·exact .inl hb
     ·subst hb;exact .inr ⟨l,C,hρ⟩
    ·cases hx;rw[hρ] at bu;cases bu;exact .inr rfl
  ·rename_i hl;have hv: ∀b C,ρ l=AA (AA b,C)->S b:=by
    intro b C hb;obtain⟨oo,h3,h4⟩:=hs.obj l _ C hb;cases oo with
    |arr sz' m e'=>exact absurd h3 (hl sz' m e')
    |t0 sz' m e'=>exact h4.1
    |_=>simp only[um,cy,h3] at*
   exact⟨_,_,S,hk,.refl hs,.d (h2 S (fun _ h=>h) fun l' _ _ _ _ hx b C' bu=>by cases hx;exact hv b C' bu)⟩
 ·cases h0 with
  |lm sz n e a h1=>exact⟨_,_,S,hk,.refl hs,.d h1⟩
 ·exact⟨_,_,S,hk,.refl hs,h0⟩
end
section
variable {P:AU} {A:t7} {ro:Option Nat} {E:x4} {c:Nat} {o:BK} {io:qr} {st:St} {K:AV->List ae->List Nat->Prop}
 {a:Bj} {w:AK} {S:Nat->Prop} {ρ:lw}
theorem OQ {xs:List AV}: ∀{h:List ae} {S:Nat->Prop} {vs:List AE} {K:List AV->List ae->Prop},v4 w S ρ h->xs.length=vs.length->
 (∀(i:Nat) (x:AV) (v:AE),xs[i]? =AA x->vs[i]? =AA v->VR w S ρ x v)->
 G3 (ms P A ro E) h xs K-> ∃lg h' S',K lg h'/\WY w S ρ h S' h'/\lg.length=vs.length/\ ∀(i:Nat) (x:AV) (v:AE),lg[i]? =AA x->vs[i]? =AA v->VR w S' ρ x v:=by
 induction xs with
 |nil=>intro h S vs K hs hl _ hk;exact⟨[],h,S,hk,.refl hs,hl,by simp⟩
 |cons x xs ih=>
  intro h S vs K hs hl hv hk;cases vs with
  |nil=>simp at hl
  |cons v vs=>
   obtain⟨x',h1,S1,hk,k1,sq⟩:=Sn hs (hv 0 x v (by simp) (by simp)) hk;obtain⟨lg,h2,S2,hk,k2,qt,jh⟩:=ih k1.co (by simpa using hl) (fun i y u hy hu=>k1.vr (hv (i+1) y u (by simpa using hy) (by simpa using hu))) hk;refine⟨_,h2,S2,hk,k1.trans k2,by simp[qt],fun i y u hy hu=> ?_⟩;cases i with
   |zero=>simp at hy hu;subst hy;subst hu;exact k2.vr sq
   |succ i=>simp at hy hu;exact jh i y u hy hu
theorem b2b {h:List ae}{l:Nat}{v:AE}{K:AV->List ae->Prop}(hs:v4 w S ρ h)(h0:VR w S ρ (.ptr l 0) v)(hk:IW (ms P A ro E) h l K):
 ∃x' h' S',K x' h'/\WY w S ρ h S' h'/\VR w S' ρ x' v:=by
 cases h0 with
 |ptr _ _ b C hρ=>
  obtain⟨o,ho,hh⟩:=hs.obj l _ C hρ;unfold IW at hk;rw[cy,ho] at hk;split at hk
  ·rename_i cs heq;cases heq;obtain⟨vs,ty,h1,h2,h3⟩:=hh;obtain⟨jw,h',S',hk,k,bu,fc⟩:=OQ (vs:=vs.toList) hs (by simpa using h2.symm) (fun i x v hx hv=>h3 i x v hx (by simpa using hv)) hk;split at hk
   ·rename_i row hd;obtain⟨d1,d2⟩:=R7 hd;have hlt:l<h'.length:=by rw[<-k.len];exact (AB.1 ho).1
    rw[fg] at hk;have cm:v4 w (fun x=>S' x\/x=b) ρ (h'.set l .gone):=by
     refine⟨fun x hx=> ?_,fun m ob C' hm=> ?_,k.co.inj,fun m x C' o hm v7 hf=> ?_⟩
     ·rcases hx with hx|rfl
      ·exact k.co.i0 x hx
      ·exact hs.V2 hρ
     ·by_cases e:m=l
      ·subst e;rw[hρ] at hm;cases hm;exact⟨.gone,by simp[hlt],.inr rfl⟩
      ·obtain⟨o1,h4,h5⟩:=k.co.obj m ob C' hm;refine⟨o1,by rw[AT (Aw e)];exact h4,?_⟩;cases ob with
       |none=>exact h5
       |some x=>exact fv.mono (fun _ h=> .inl h) (fun _ _=>rfl) (fun _ _ h=>h) rfl h5
     ·by_cases e:m=l
      ·subst e;have v7:(h'.set m .gone)[m]? =AA o:=v7;rw[BL hlt] at v7;cases v7;cases hf
      ·have v7:(h'.set l .gone)[m]? =AA o:=v7;rw[AT (Aw e)] at v7;rintro (hx|rfl)
       ·exact k.co.own m x C' o hm v7 hf hx
       ·exact e (k.co.inj m l _ C' C hm hρ)
    refine⟨_,_,fun x=>S' x\/x=b,hk,⟨cm,by simp[k.len],fun x hx=> .inl (k.mono x hx),fun x hx=> ?_⟩,?_⟩
    ·rcases hx with hx|rfl
     ·exact k.news x hx
     ·exact .inr ⟨l,C,hρ⟩
    ·have hlen:row.length=vs.size:=by rw[d1,bu];simp
     refine .d9 row 0 b 0 (fun j=>vs.getD j Au) (.inr rfl) (fun j hj=> ?_) (fun j x hx=> ?_)
     ·rw[Be,cell?_of h1];simp[show j<vs.size by omega]
     ·obtain⟨y,hy,hd⟩:=d2 j x hx;have hj:j<vs.size:=by rw[<-hlen];exact (AB.1 hx).1
      exact qn.mono (fun _ h=> .inl h) (fun _ _=>rfl) (hd (fc j y _ hy (by simp[hj])))
   ·exact hk.elim
  ·exact hk.elim
theorem Vm {xs:List AV}: ∀{h:List ae} {S:Nat->Prop} {vs:List AE} {K:List AV->List ae->Prop},v4 w S ρ h->xs.length=vs.length->
 (∀(i:Nat) (x:AV) (v:AE),xs[i]? =AA x->vs[i]? =AA v->VR w S ρ x v)->
 wu (ms P A ro E) h xs K-> ∃lg h' S',K lg h'/\WY w S ρ h S' h'/\lg.length=vs.length/\ ∀(i:Nat) (x:AV) (v:AE),lg[i]? =AA x->vs[i]? =AA v->VR w S' ρ x v:=by
 induction xs with
 |nil=>intro h S vs K hs hl _ hk;exact⟨[],h,S,hk,.refl hs,hl,by simp⟩
 |cons x xs ih=>
  intro h S vs K hs hl hv hk;cases vs with
  |nil=>simp at hl
  |cons v vs=>
   have h0:=hv 0 x v (by simp) (by simp);have hx: ∃x' h1 S1,VR w S1 ρ x' v/\WY w S ρ h S1 h1/\wu (ms P A ro E) h1 xs fun r' h''=>K (x'::r') h'':=by
    unfold wu at hk;split at hk
    ·rename_i heq;cases heq
    ·rename_i heq;cases heq;cases h0 with
     |agg cs us bu h'=>obtain⟨jw,h1,S1,hk,k1,h2,h3⟩:=OQ hs (vs:=us.toList) (by simpa using bu) (fun i y u hy hu=>h' i y u hy (by simpa using hu)) hk;exact⟨_,h1,S1,.agg jw us (by simpa using h2) (fun i y u hy hu=>h3 i y u hy (by simpa using hu)),k1,hk⟩
    ·rename_i heq;cases heq;obtain⟨x',h1,S1,hk,k1,h2⟩:=b2b hs h0 hk;exact⟨x',h1,S1,h2,k1,hk⟩
    ·rename_i heq;cases heq;obtain⟨x',h1,S1,hk,k1,h2⟩:=Sn hs h0 hk;exact⟨x',h1,S1,h2,k1,hk⟩
   obtain⟨x',h1,S1,sq,k1,hk⟩:=hx;obtain⟨lg,h2,S2,hk,k2,qt,jh⟩:=ih k1.co (by simpa using hl) (fun i y u hy hu=>k1.vr (hv (i+1) y u (by simpa using hy) (by simpa using hu))) hk;refine⟨_,h2,S2,hk,k1.trans k2,by simp[qt],fun i y u hy hu=> ?_⟩;cases i with
   |zero=>simp at hy hu;subst hy;subst hu;exact k2.vr sq
   |succ i=>simp at hy hu;exact jh i y u hy hu
theorem d3o {h:List ae}{x:AV}{v:AE}{K:List DV->List ae->Prop}(hs:v4 w S ρ h)(h0:VR w S ρ x v)(h1:tv x.cells=AR)(hk:K0 (ms P A ro E) h x K):
 ∃l h' S',K l h'/\WY w S ρ h S' h'/\l.length=v.cells.size/\ ∀(i:Nat) (x:DV) (u:AE),l[i]? =AA x->v.cells[i]? =AA u->qn w S' x u:=by
 obtain⟨hl,hv⟩:=KW h0 h1;obtain⟨cs,h',S',hk,k,qt,jh⟩:=OQ hs (vs:=v.cells.toList) (by simpa using hl) (fun i y u hy hu=>hv i y u hy (by simpa using hu)) hk;split at hk
 ·rename_i l bu;obtain⟨h3,h4⟩:=R7 bu;refine⟨l,h',S',hk,k,by rw[h3,qt];simp,fun i x u hx hu=> ?_⟩;obtain⟨y,hy,hyr⟩:=h4 i x hx;exact hyr (jh i _ u hy (by simpa using hu))
 ·exact hk.elim
theorem TG {cs:List AV}(h:tv cs=AR): ∀x,x∈cs->x.one=AR:=by
 induction cs with
 |nil=>simp
 |cons c cs ih=>
  simp only[tv] at h;split at h
  ·rename_i h1;intro x hx;rcases List.mem_cons.1 hx with rfl|hx
   ·exact h1
   ·exact ih h x hx
  ·cases h
theorem qn.one {x:DV}{v:AE}(h:qn w S x v):v.oneCell'=AR:=by
 cases h with
 |raw v h=>exact h
 |_=>rfl
theorem TF {x:AV}{v:AE}(h:VR w S ρ x v)(h1:x.one=AR):v.oneCell'=AR:=by
 cases h with
 |d h=>
  cases h with
  |raw v h=>exact h
  |_=>rfl
 |any v=>simp[AV.one] at h1
 |lc=>simp[AV.one] at h1
 |agg cs vs hl h=>simp[AV.one] at h1
 |tuple cs vs hl h=>simp[AV.one] at h1
 |_=>rfl
theorem Md {b:Nat}{cs kq:Array AE}{ty:AJ}{fr:Nat×Nat}(h:w.heap[b]? =AA (.cells kq ty fr)):
 (w.setRow b cs).os=w.os/\((w.setRow b cs).tape=w.tape/\w.drawn<=(w.setRow b cs).drawn)/\(w.setRow b cs).output=w.output/\(w.setRow b cs).heap.size=w.heap.size/\
   (w.setRow b cs).heap[b]? =AA (.cells cs ty fr)/\ ∀k,k≠b->(w.setRow b cs).heap[k]? =w.heap[k]? :=by
 refine⟨rfl,⟨rfl,AL _⟩,rfl,by simp[World.setRow],setRow_heap w b kq cs ty fr h,fun k hk=> ?_⟩;simp only[World.setRow,Array.getElem?_modify];rw[if_neg (Aw hk)]
theorem a5r {t:AJ}{sz:Nat}(bl:HX P t=AA sz){b off:Nat}{kq:Array AE}{ty:AJ}{v:AE}(hb:w.heap[b]? =AA (.cells kq ty (0,0)))
 (hv:v.cells.size=sz) (hle:off+sz<=kq.size) (h1: ∀u,u∈v.cells.toList->u.oneCell'=AR):
 (Bi t ⟨b,off,AD⟩ v).run P w= .ok () (w.setRow b (kq.toList.take off++v.cells.toList++kq.toList.drop (off+v.cells.toList.length)).toArray):=by
 have hs:(sizeOf t).run P w= .ok sz w:=by simp[HX] at bl;obtain⟨i,hi,rfl⟩:=bl;simp[sizeOf,A2,hi]
 have:=Ba (P:=P) b off ty v.cells.toList 0 kq w hb (by simpa [hv] using hle) h1;simp only[Az] at this;simp[Bi,hs,hv,this]
theorem i1v {x:Option ae}{ap:List AV}(h:Ta x=AA ap):x=AA (.n7 ap):=by
 unfold Ta at h;split at h
 ·cases h;rfl
 ·cases h
theorem d8r {t:AJ}{X Y:AZ}(bc:o.op= .store t X Y)(hc:ni P c o=AA io)(hk:af (ms P A ro E) io st K)(hr:Rel E st a w S ρ):Wb P o a w S ρ st.h K:=by
 simp[ni,bc,AC] at hc;obtain⟨sz,bl,x,hx,y,hy,rfl⟩:=hc;have h0:=dm hr.ts hx;have h1:=dm hr.ts hy;simp only[af] at hk;have fin: ∀{pa:BG} {w':AK},a.eval X= .pointer (AA pa)->(Bi t pa (a.eval Y)).run P w= .ok () w'->(AX a.eval o).run P w= .ok .skip w':=by intro pa w' hp fj;simp[AX,bc,Instr.storeAt,hp,Ao,fj]
 revert hk fin h0 h1;generalize i7 st.ts x=p;generalize i7 st.ts y=q;generalize a.eval X=pv;generalize a.eval Y=v;intro hk h0 h1 fin;unfold IB at hk;split at hk
 ·rename_i l off;split at hk
  ·rename_i tb;simp only[Am,cv] at tb;obtain⟨hlen,Hu⟩:=tb;have hlen:=AG hlen;simp only[cy,fg] at hk;split at hk
   ·rename_i cs hl;split at hk
    ·rename_i jw Gb;obtain⟨hle,rfl⟩:=Tl _ _ _ _ Gb;obtain⟨ig,Ka⟩:=KW h1 Hu;cases h0 with
     |ptr _ _ b C hρ=>
      obtain⟨oo,h2,h3⟩:=hr.co.obj l _ C hρ;rw[hl] at h2;cases h2;obtain⟨vs,ty,h4,h5,h6⟩:=h3;have cd: ∀u,u∈v.cells.toList->u.oneCell'=AR:=by
       intro u hu;obtain⟨i,hi,rfl⟩:=A8 hu;have fw:i<q.cells.length:=by rw[ig];simpa using hi
       exact TF (Ka i q.cells[i] _ (by simp[fw]) (by simp at hi;simp[hi])) (TG Hu _ (BB fw))
      have fj:=a5r bl (off:=off) h4 (by rw[<-ig];exact hlen) (by rw[h5];omega) cd;obtain⟨s1,s2,s3,s4,s5,s6⟩:=Md (cs:=(vs.toList.take off++v.cells.toList++vs.toList.drop (off+v.cells.toList.length)).toArray) h4;refine⟨Au,_,_,_,[],S,ρ,.inr ⟨fin rfl fj,rfl⟩,hk,n8.set hr.co hρ hl rfl s1 s2 s3 s4 s6 ⟨_,ty,s5,?_,fun i z u hz hu=> ?_⟩,.lc⟩
      ·simp;omega
      ·have hS: ∀k,S k->(w.setRow b (vs.toList.take off++v.cells.toList++vs.toList.drop (off+v.cells.toList.length)).toArray).heap[k]? =w.heap[k]? :=
        fun k hk=>s6 k (fun e=>hr.co.own l b C _ hρ hl rfl (e▸hk))
       refine VR.mono (fun _ h=>h) hS (fun _ _ h=>h) (w:=w) (S:=S) (ρ:=ρ) ?_;have hq:q.cells.length=v.cells.toList.length:=by simpa using ig
       simp only[Ad] at hu;by_cases Hj:i<off
       ·rw[Ab,AI (by simp;omega)] at hz hu;rw[Ag Hj] at hz hu;exact h6 i z u hz (by simpa using hu)
       ·by_cases jx:i<off+q.cells.length
        ·rw[Ab,AQ (by simp;omega),AI (by simp;omega)] at hz hu;simp only[Aa] at hz hu;rw[show min off cs.length=off by omega] at hz;rw[show min off vs.toList.length=off by simp;omega] at hu;exact Ka _ z u hz (by simpa using hu)
        ·rw[AQ (by simp;omega),Ar] at hz hu;simp only[Ah,Aa] at hz hu;rw[show off+q.cells.length+(i-(min off cs.length+q.cells.length))=i by omega] at hz;rw[show off+v.cells.toList.length+(i-(min off vs.toList.length+v.cells.toList.length))=i by simp at*;omega] at hu;exact h6 i z u hz (by simpa using hu)
    ·exact hk.elim
   ·exact hk.elim
  ·exact hk.elim
 ·rename_i l sz' i off;split at hk
  ·rename_i tb;simp only[Am,cv] at tb;obtain⟨hlen,Hu⟩:=tb;have hlen:=AG hlen;obtain⟨ig,Ka⟩:=KW h1 Hu;split at hk
   ·rename_i ap hia;have hl:=i1v hia;rw[cy] at hl;split at hk
    ·rename_i hz;simp only[Am] at hz;have e1:=AG hz.1.1;have e2:=AG hz.1.2;have e3:=AG hz.2;subst e1 e2 e3;split at hk
     ·rename_i x0 hx0;rw[cy] at hx0;obtain⟨aq,hk⟩:(i<az ap)/\_:=hk;rw[cv] at aq;rw[fg,fg] at hk;cases h0 with
      |ii _ _ _ _ b C hρ=>
       obtain⟨oo,h2,h3⟩:=hr.co.obj l _ C hρ;rw[hl] at h2;cases h2;obtain⟨vs,ty,h4,h5,O7,h6⟩:=h3;have cd: ∀u,u∈v.cells.toList->u.oneCell'=AR:=by
        intro u hu;obtain⟨i,hi,rfl⟩:=A8 hu;have fw:i<q.cells.length:=by rw[ig];simpa using hi
        exact TF (Ka i q.cells[i] _ (by simp[fw]) (by simp at hi;simp[hi])) (TG Hu _ (BB fw))
       have fj:=a5r bl (off:=i*1+0) h4 (by rw[<-ig];exact hlen) (by omega) cd;obtain⟨s1,s2,s3,s4,s5,s6⟩:=Md (cs:=(vs.toList.take (i*1+0)++v.cells.toList++vs.toList.drop (i*1+0+v.cells.toList.length)).toArray) h4;have GM:v.cells.toList.length=1:=by rw[BN,<-ig];exact hlen
       refine⟨Au,_,_,_,[],S,ρ,.inr ⟨fin rfl fj,rfl⟩,hk,n8.set hr.co hρ hl rfl s1 s2 s3 s4 s6 ⟨_,ty,s5,?_,by simpa using O7,fun j z u hz hu=> ?_⟩,.lc⟩
       ·simp only[List.size_toArray,Ah,Aa,List.length_drop,BN] at GM⊢;omega
       ·have hS: ∀k,S k->(w.setRow b (vs.toList.take (i*1+0)++v.cells.toList++vs.toList.drop (i*1+0+v.cells.toList.length)).toArray).heap[k]? =w.heap[k]? :=
         fun k hk=>s6 k (fun e=>hr.co.own l b C _ hρ hl rfl (e▸hk))
        refine VR.mono (fun _ h=>h) hS (fun _ _ h=>h) (w:=w) (S:=S) (ρ:=ρ) ?_;simp only[Ad,Bg,Az] at hu;by_cases hj:j<i
        ·rw[AT (by omega)] at hz;rw[Ab,AI (by simp;omega),Ag hj] at hu;exact h6 j z u hz (by simpa using hu)
        ·by_cases Ii:j=i
         ·subst Ii;rw[BL aq] at hz;cases hz;rw[Ab,AQ (by simp;omega),AI (by simp at*;omega)] at hu;simp only[Aa] at hu;rw[show j-min j vs.toList.length=0 by simp;omega] at hu;exact Ka 0 x0 u hx0 (by simpa using hu)
         ·rw[AT (by omega)] at hz;rw[AQ (by simp at*;omega),Ar] at hu;simp only[Ah,Aa] at hu;rw[show i+v.cells.toList.length+(j-(min i vs.toList.length+v.cells.toList.length))=j by simp at*;omega] at hu;exact h6 j z u hz (by simpa using hu)
     ·exact hk.elim
    ·exact hk.elim
   obtain⟨new,h',S',hk,k,jy,hnv⟩:=d3o hr.co h1 Hu hk;simp only[cy,fg] at hk;split at hk
   ·rename_i ec n e hl;split at hk
    ·rename_i HB;have HB:=AG HB;subst HB;obtain⟨aq,hk⟩:(i<n)/\_:=hk;split at hk
     ·rename_i row Gb;obtain⟨hle,ft⟩:=Tl _ _ _ _ Gb;cases h0 with
      |ii _ _ _ _ b C hρ=>
       obtain⟨oo,h2,h3⟩:=k.co.obj l _ C hρ;rw[hl] at h2;cases h2;obtain⟨vs,ty,h4,h5,O7,h6⟩:=h3;have cd: ∀u,u∈v.cells.toList->u.oneCell'=AR:=by
        intro u hu;obtain⟨i,hi,rfl⟩:=A8 hu;have fw:i<q.cells.length:=by rw[ig];simpa using hi
        exact TF (Ka i q.cells[i] _ (by simp[fw]) (by simp at hi;simp[hi])) (TG Hu _ (BB fw))
       have hei:=(h6 i aq).1;have hbound:i*sz'+sz'<=vs.size:=by rw[h5];have:(i+1)*sz'<=C*sz':=AO _ (by omega);rw[AW] at this;omega
       have fj:=a5r bl (off:=i*sz'+off) h4 (by rw[<-ig];exact hlen) (by omega) cd;obtain⟨s1,s2,s3,s4,s5,s6⟩:=Md (cs:=(vs.toList.take (i*sz'+off)++v.cells.toList++vs.toList.drop (i*sz'+off+v.cells.toList.length)).toArray) h4;have hS: ∀m,S' m->(w.setRow b (vs.toList.take (i*sz'+off)++v.cells.toList++vs.toList.drop (i*sz'+off+v.cells.toList.length)).toArray).heap[m]? =w.heap[m]? :=
        fun m hm=>s6 m (fun e'=>k.co.own l b C _ hρ hl rfl (e'▸hm))
       have c2:=n8.set k.co hρ hl rfl s1 s2 s3 s4 s6 (o':= .arr sz' n ((ms P A ro E).Yq e i row)) ⟨_,ty,s5,by simp;omega,O7,fun i' fw=> ?_⟩
       ·have c1:=k.W0;exact⟨Au,_,_,_,[],S',ρ,.inr ⟨fin rfl fj,rfl⟩,hk,⟨c2.co,Ak c1.len c2.len,c1.ext.trans c2.ext,fun _ _ _ h=>h,fun _ _ _=>rfl⟩,.lc⟩
       ·show ((if i'=i then row else e i').length=sz')/\ ∀(j:Nat) (x:DV) (u:AE),(if i'=i then row else e i')[j]? =AA x->_;have GM:v.cells.toList.length=new.length:=by simp[jy]
        have Vh: ∀j u,(vs.toList.take (i*sz'+off)++v.cells.toList++vs.toList.drop (i*sz'+off+v.cells.toList.length)).toArray[i'*sz'+j]? =AA u->
         (i'*sz'+j<i*sz'+off\/i*sz'+off+new.length<=i'*sz'+j)->vs[i'*sz'+j]? =AA u:=by
         intro j u hu hd;simp only[Ad] at hu;have P9:i*sz'+off+new.length<=vs.size:=by omega
         clear Gb ft hle fj s1 s2 s3 s4 s5 s6 hS cd hbound;generalize i'*sz'+j=m at*
         generalize i*sz'+off=q0 at*
         rcases hd with hd|hd
         ·rw[Ab,AI (by simp;omega),Ag hd] at hu;simpa using hu
         ·rw[AQ (by simp;omega),Ar] at hu;simp only[Ah,Aa] at hu;rw[show q0+v.cells.toList.length+(m-(min q0 vs.toList.length+v.cells.toList.length))=m by simp at*;omega] at hu;simpa using hu
        by_cases e1:i'=i
        ·subst e1;rw[if_pos rfl];refine⟨by rw[ft];simp;omega,fun j x u hx hu=> ?_⟩;have hj:j<sz':=by have:=(AB.1 hx).1;rw[ft] at this;simp at this;omega
         refine qn.mono (fun _ h=>h) hS (w:=w) (S:=S') ?_;rw[ft] at hx;by_cases j1:j<off
         ·rw[Ab,AI (by simp;omega),Ag j1] at hx;exact (h6 i' aq).2 j x u hx (Vh j u hu (.inl (by omega)))
         ·by_cases j2:j<off+new.length
          ·rw[Ab,AQ (by simp;omega),AI (by simp;omega)] at hx;simp only[Aa] at hx;rw[show min off (e i').length=off by omega] at hx;simp only[Ad] at hu;rw[Ab,AQ (by simp;omega),AI (by simp at*;omega)] at hu;simp only[Aa] at hu;rw[show i'*sz'+j-min (i'*sz'+off) vs.toList.length=j-off by simp;omega] at hu;exact hnv _ x u hx (by simpa using hu)
          ·rw[AQ (by simp;omega),Ar] at hx;simp only[Ah,Aa] at hx;rw[show off+new.length+(j-(min off (e i').length+new.length))=j by omega] at hx;exact (h6 i' aq).2 j x u hx (Vh j u hu (.inr (by omega)))
        ·rw[if_neg e1];refine⟨(h6 i' fw).1,fun j x u hx hu=> ?_⟩;have hj:j<sz':=by have:=(AB.1 hx).1;rw[(h6 i' fw).1] at this;exact this
         refine qn.mono (fun _ h=>h) hS (w:=w) (S:=S') ((h6 i' fw).2 j x u hx (Vh j u hu ?_));rcases Nat.lt_or_gt_of_ne e1 with e2|e2
         ·left;have:(i'+1)*sz'<=i*sz':=AO _ (by omega);rw[AW] at this;omega
         ·right;have:(i+1)*sz'<=i'*sz':=AO _ (by omega);rw[AW] at this;omega
     ·exact hk.elim
    ·exact hk.elim
   ·exact hk.elim
  ·exact hk.elim
 ·exact hk.elim
end
section
variable {P:AU} {A:t7} {ro:Option Nat} {E:x4} {c:Nat} {o:BK} {io:qr} {st:St} {K:AV->List ae->List Nat->Prop}
 {a:Bj} {w:AK} {S:Nat->Prop} {ρ:lw}
theorem d1r {X:AZ}(bc:o.op= .nilCheck X)(hc:ni P c o=AA io)(hk:af (ms P A ro E) io st K)(hr:Rel E st a w S ρ):Wb P o a w S ρ st.h K:=by
 simp[ni,bc,AC] at hc;obtain⟨x,hx,rfl⟩:=hc;have h0:=dm hr.ts hx;simp only[af] at hk;split at hk
 ·rename_i hp;have: ∃pa,a.eval X= .pointer (AA pa):=by
   revert h0 hp;generalize i7 st.ts x=p;generalize a.eval X=v;intro h0 hp;cases h0<;>first|exact⟨_,rfl⟩|cases hp
  obtain⟨pa,SO⟩:=this;exact .same hr.co (v:=a.eval X) (by simp[AX,bc,SO]) hk h0
 ·exact hk.elim
theorem beq'_eq (a b:Int):BP a b=(a==b):=by rw[Bool.eq_iff_iff,Int.beq'_eq,beq_iff_eq]
theorem e1u {op:Ax}{k:AP}{x y:IX}{K:DV->Prop}(t:AJ)(hk:H9 (ms P A ro E) op k x y K):
 ∃d v,K d/\(binOp op t (.int k x.val) (.int k y.val)).run P w= .ok v w/\VR w S ρ (.d d) v:=by
 have int: ∀(n:IX) (v:AE),K (.int k n)->v= .int k n.val->(binOp op t (.int k x.val) (.int k y.val)).run P w= .ok v w->
  ∃d v,K d/\(binOp op t (.int k x.val) (.int k y.val)).run P w= .ok v w/\VR w S ρ (.d d) v:=fun n v h1 h2 h3=>⟨_,v,h1,h3,h2▸ .d (.int k n)⟩
 have bol: ∀(b:Bool),K (.bool b)->(binOp op t (.int k x.val) (.int k y.val)).run P w= .ok (.bool b) w->
  ∃d v,K d/\(binOp op t (.int k x.val) (.int k y.val)).run P w= .ok v w/\VR w S ρ (.d d) v:=fun b h1 h3=>⟨_,_,h1,h3,.d (.bool b)⟩
 unfold H9 at hk;split at hk
 ·split at hk
  ·rename_i a b;obtain⟨h1,hk⟩:(k.wrap (a+b)=a+b)/\_:=hk;exact int _ _ hk rfl (by simp[binOp,Av,IX.val,h1])
  ·obtain⟨h1,hk⟩:(k.wrap (_+_)=_+_)/\_:=hk;exact int _ _ hk rfl (by simp only[binOp,Av,ne_eq,not_true_eq_false,if_false,Aj,h1];rfl)
 ·split at hk
  ·rename_i a b;obtain⟨h1,hk⟩:(k.wrap (a-b)=a-b)/\_:=hk;exact int _ _ hk rfl (by simp[binOp,Av,IX.val,h1])
  ·obtain⟨h1,hk⟩:(k.wrap (_-_)=_-_)/\_:=hk;exact int _ _ hk rfl (by simp only[binOp,Av,ne_eq,not_true_eq_false,if_false,Aj,h1];rfl)
 ·obtain⟨h1,hk⟩:(k.wrap (_*_)=_*_)/\_:=hk;exact int _ _ hk rfl (by simp only[binOp,Av,ne_eq,not_true_eq_false,if_false,Aj,h1];rfl)
 ·obtain⟨h0,h1,hk⟩:(_≠(0:Int))/\(k.wrap (Bo _ _)=Bo _ _)/\_:=hk;exact int _ _ hk rfl (by simp only[binOp,Bn,ne_eq,not_true_eq_false,if_false,h0,Aj,h1];rfl)
 ·obtain⟨h0,hk⟩:(_≠(0:Int))/\_:=hk;exact int _ _ hk rfl (by simp only[binOp,Bn,ne_eq,not_true_eq_false,if_false,h0,Aj];rfl)
 ·split at hk
  ·rename_i a b;exact bol _ hk (by simp[binOp,An,IX.val,beq'_eq])
  ·exact bol _ hk (by simp[binOp,An,ms])
 ·split at hk
  ·rename_i a b;exact bol _ hk (by simp[binOp,An,IX.val,beq'_eq,bne])
  ·exact bol _ hk (by simp[binOp,An,ms,bne])
 ·exact bol _ hk (by simp[binOp,An,ms])
 ·exact bol _ hk (by simp[binOp,An,ms])
 ·exact bol _ hk (by simp[binOp,An,ms])
 ·exact bol _ hk (by simp[binOp,An,ms])
 ·exact hk.elim
theorem KB {op:Ax}{t:AJ}{x y:AZ}{u v:AE}(hu:(match u with| .nilIface=>AF| .agg _=>AF|_=>AR)=AR):(eqGuard op t x y u v).run P w= .ok () w:=by
 unfold eqGuard;cases op<;>first|rfl|(cases u<;>first|(cases hu;done)|(cases v<;>rfl))
theorem f2t {op:Ax}{t t':AJ}{X Y:AZ}(bc:o.op= .binOp op t X Y t'){x y:ah}(hx:bh X=AA x)(hy:bh Y=AA y)
 (hk:af (ms P A ro E) (.bin op x y) st K) (hr:Rel E st a w S ρ):Wb P o a w S ρ st.h K:=by
 have h0:=dm hr.ts hx;have h1:=dm hr.ts hy;simp only[af] at hk;split at hk
 ·rename_i k1 x1 k2 y1 e1 e2;rw[e1] at h0;rw[e2] at h1;split at hk
  ·rename_i ke;subst ke;obtain⟨d,v,hk,aj,pd⟩:=e1u (w:=w) (S:=S) (ρ:=ρ) t hk;refine .same hr.co (v:=v) ?_ hk pd;simp only[AX,bc,h0.int,h1.int,Ay,KB (P:=P) (w:=w) (u:= .int k1 x1.val) rfl,Ai,aj];rfl
  ·exact hk.elim
 ·rename_i x1 m e1 e2;rw[e1] at h0;rw[e2] at h1;split at hk
  ·obtain⟨hle,hk⟩:(x1.val<=((m:Nat):Int))/\_:=hk;generalize hv:a.eval Y=v at h1;cases h1 with
   |ge _ n hn=>
    refine .same hr.co (v:= .bool AF) ?_ hk (.d (.bool AF));have hlt: ¬(n<x1.val):=by omega
    simp[AX,bc,h0.int,hv,KB (P:=P) (w:=w) (u:= .int .i64 x1.val) rfl,binOp,An,hlt]
  ·exact hk.elim
 ·exact hk.elim
theorem g4m {op:Ax}{t t':AJ}{X Y:AZ}(bc:o.op= .binOp op t X Y t'){x y:ah}(hx:bh X=AA x)(hy:bh Y=AA y)
 (hk:af (ms P A ro E) (.bw op x y) st K) (hr:Rel E st a w S ρ):Wb P o a w S ρ st.h K:=by
 have h0:=dm hr.ts hx;have h1:=dm hr.ts hy;simp only[af] at hk;split at hk
 ·rename_i k1 x1 k2 y1 e1 e2;rw[e1] at h0;rw[e2] at h1;unfold YU at hk;split at hk
  ·rename_i ig;obtain⟨hle,hk⟩:(0<=y1.val)/\_:=hk;refine .same hr.co (v:= .int k1 (T1 op k1 x1.val y1.val)) ?_ hk (.d (.int k1 (.v _)));have hlt: ¬(y1.val<0):=by omega
   cases op<;>simp[Oq] at ig<;>simp[AX,bc,h0.int,h1.int,KB (P:=P) (w:=w) (u:= .int k1 x1.val) rfl,binOp,Op.shift,hlt,T1]<;>rfl
  ·rename_i ig;split at hk
   ·rename_i ke;subst ke;refine .same hr.co (v:= .int k1 (RX op k1 x1.val y1.val)) ?_ hk (.d (.int k1 (.v _)));cases op<;>simp[Oq] at ig<;>simp[AX,bc,h0.int,h1.int,KB (P:=P) (w:=w) (u:= .int k1 x1.val) rfl,binOp,Op.intBits,RX]
   ·exact hk.elim
  ·exact hk.elim
 ·exact hk.elim
theorem e1t {op:Ax}{t t':AJ}{X Y:AZ}(bc:o.op= .binOp op t X Y t')(ht:P.underlying t=AA .bool){x y:ah}(hx:bh X=AA x)(hy:bh Y=AA y)
 (hk:af (ms P A ro E) (.WC op x y) st K) (hr:Rel E st a w S ρ):Wb P o a w S ρ st.h K:=by
 have h0:=dm hr.ts hx;have h1:=dm hr.ts hy;simp only[af] at hk;split at hk
 ·rename_i b1 b2 e1 e2;rw[e1] at h0;rw[e2] at h1;have heq:(Op.equal t (.bool b1) (.bool b2)).run P w= .ok (b1==b2) w:=by
   have gen: ∀d,(Bm (d+1) t (.bool b1) (.bool b2)).run P w= .ok (b1==b2) w:=fun d=>by simp[Bm,AN ht]
   exact gen 9999
  split at hk
  ·refine .same hr.co (v:= .bool (b1==b2)) ?_ hk (.d (.bool _));simp[AX,bc,h0.bool,h1.bool,KB (P:=P) (w:=w) (u:= .bool b1) rfl,binOp,heq]
  ·refine .same hr.co (v:= .bool (!(b1==b2))) ?_ hk (.d (.bool _));simp[AX,bc,h0.bool,h1.bool,KB (P:=P) (w:=w) (u:= .bool b1) rfl,binOp,heq]
  ·exact hk.elim
 ·exact hk.elim
theorem g7l {op:UnOp}{t:AJ}{X:AZ}(bc:o.op= .unOp op t X)(hc:ni P c o=AA io)(hk:af (ms P A ro E) io st K)(hr:Rel E st a w S ρ):Wb P o a w S ρ st.h K:=by
 simp[ni,bc,AC] at hc;obtain⟨x,hx,rfl⟩:=hc;have h0:=dm hr.ts hx;simp only[af] at hk;split at hk
 ·rename_i e1;rw[e1] at h0;exact .same hr.co (v:= .bool AF) (by simp[AX,bc,h0.bool,Bc]) hk (.d (.bool _))
 ·rename_i e1;rw[e1] at h0;exact .same hr.co (v:= .bool AR) (by simp[AX,bc,h0.bool,Bc]) hk (.d (.bool _))
 ·rename_i k n e1;rw[e1] at h0;obtain⟨h1,hk⟩:(k.wrap (0-n.val)=0-n.val)/\_:=hk;exact .same hr.co (v:= .int k (0-n.val)) (by simp only[AX,bc,h0.int,Bc,Av,h1,Ay,Aj,Ai]) hk (.d (.int k (.v (0-n.val))))
 ·exact hk.elim
theorem c6h {t:AJ}{k:AP}(h:QE P t=AA k):P.underlying t=AA (.int k):=by
 simp[QE,AC] at h;obtain⟨d,hd,h⟩:=h;split at h
 ·cases h;exact hd
 ·cases h
theorem e3m {s d:AJ}{X:AZ}(bc:o.op= .convert s d X)(hc:ni P c o=AA io)(hk:af (ms P A ro E) io st K)(hr:Rel E st a w S ρ):Wb P o a w S ρ st.h K:=by
 simp[ni,bc,AC] at hc;obtain⟨⟨k0,hs⟩,k,hd,x,hx,rfl⟩:=hc;have h0:=dm hr.ts hx;have hs:=c6h hs;have hd:=c6h hd;simp only[af] at hk;split at hk
 ·rename_i k1 n e1;rw[e1] at h0;refine .same hr.co (v:= .int k (k.wrap n.val)) ?_ hk (.d (.int k (.v (k.wrap n.val))));simp[AX,bc,h0.int,convert,AN hs,AN hd,Conv.intToInt]
 ·exact hk.elim
theorem e1j {f:A6}{X Y:Array AZ}(bc:o.op= .makeFunc (.func f) X Y)(hc:ni P c o=AA io)(hk:af (ms P A ro E) io st K)(hr:Rel E st a w S ρ):Wb P o a w S ρ st.h K:=by simp[ni,bc,AC] at hc;obtain⟨x,hx,y,hy,rfl⟩:=hc;have h0:=c9w hr.ts hx;have h1:=c9w hr.ts hy;exact .same hr.co (v:= .func (.func f) (X.map a.eval) (Y.map a.eval)) (by simp[AX,bc,Instr.makeFunc]) hk (.fn f _ _ _ _ h0.1 h0.2 h1.1 h1.2)
theorem b7q {t:AJ}{i:Nat}{f:Field}(h:Sc P t i=AA f): ∃fs,P.underlying t=AA (.struct fs)/\fs[i]? =AA f:=by
 simp[Sc,AC] at h;obtain⟨d,hd,h⟩:=h;split at h
 ·exact⟨_,hd,h⟩
 ·cases h
theorem vu {t:AJ}{n:Nat}(h:l6 P t=AA n):0<n/\ ∀w,(sizeOf t).run P w= .ok n w:=by simp[l6,AC] at h;obtain⟨hm,h0⟩:=h;simp[HX] at hm;obtain⟨i,hi,rfl⟩:=hm;exact⟨by omega,fun w=>by simp[sizeOf,A2,hi]⟩
theorem d9h {t:AJ}{X:AZ}{i:Nat}(bc:o.op= .fieldAddr t X i)(hc:ni P c o=AA io)(hk:af (ms P A ro E) io st K)(hr:Rel E st a w S ρ):Wb P o a w S ρ st.h K:=by
 simp[ni,bc,AC] at hc;obtain⟨f,hf,⟨n,hn⟩,x,hx,rfl⟩:=hc;obtain⟨fs,hu,Jf⟩:=b7q hf;obtain⟨lz,bl⟩:=vu hn;have h0:=dm hr.ts hx;simp only[af] at hk;have run: ∀pa:BG,a.eval X= .pointer (AA pa)->(AX a.eval o).run P w= .ok (.value (.pointer (AA (pa.add f.offset)))) w:=by
  intro pa hp;have: ¬n=0:=by omega
  simp[AX,bc,Instr.fieldAt,AN hu,Jf,hp,Ao,fieldPlace,bl,this]
 revert hk h0 run;generalize i7 st.ts x=p;generalize a.eval X=v;intro hk h0 run;cases h0 with
 |ptr l off b C hρ=>exact .same hr.co (by rw[run _ rfl,xi]) hk (.ptr l (off+f.offset) b C hρ)
 |ii l sz i off b C hρ=>exact .same hr.co (by rw[run _ rfl,xi,A9]) hk (.ii l sz i (off+f.offset) b C hρ)
 |d9 row off b base g hb hv vq=>exact .same hr.co (by rw[run _ rfl,xi,A9]) hk (.d9 row (off+f.offset) b base g hb hv vq)
 |_=>exact hk.elim
theorem d7k {t:AJ}{X:AZ}{i:Nat}(bc:o.op= .field t X i)(hc:ni P c o=AA io)(hk:af (ms P A ro E) io st K)(hr:Rel E st a w S ρ):Wb P o a w S ρ st.h K:=by
 simp[ni,bc,AC] at hc;obtain⟨f,hf,ag,kr,x,hx,rfl⟩:=hc;obtain⟨fs,hu,Jf⟩:=b7q hf;have h0:=dm hr.ts hx;simp only[af] at hk;split at hk
 ·rename_i cs e1;rw[e1] at h0;cases h:a.eval X with
  |agg vs=>
   rw[h] at h0;cases h0 with
   |agg _ _ hl hv=>
    obtain⟨g1,g2⟩:=d5w (w:=w) kr;cases ag with
    |none=>
     simp only[cy] at hk;split at hk
     ·rename_i y hy;have hlt:=(AB.1 hy).1;have jv:f.offset<vs.size:=by omega
      refine .same hr.co (v:=vs[f.offset]) ?_ hk (hv _ y _ hy (by simp[jv]));simp[AX,bc,h,Bd,AN hu,Jf,asAgg,part,g1,jv]
     ·exact hk.elim
    |some n=>
     simp only at hk;split at hk
     ·rename_i cc da;obtain⟨qt,jd⟩:=Tf _ _ _ _ da;have hle:n=0\/f.offset+n<=vs.size:=by
       by_cases hn:n=0
       ·exact .inl hn
       ·right;have h3:=jd (n-1) (by omega);rw[At (by omega)] at h3;have:=(AB.1 h3.symm).1;omega
      refine .same hr.co (v:= .agg (vs.extract f.offset (f.offset+n))) ?_ hk (.agg _ _ (by simp;omega) fun i y v hy fc=> ?_)
      ·simp[AX,bc,h,Bd,AN hu,Jf,asAgg,part,g1,g2 n rfl]
      ·have hi:i<n:=by have:=(AB.1 hy).1;omega
       rw[jd i hi] at hy;rw[Array.getElem?_extract] at fc;split at fc
       ·exact hv _ y v hy fc
       ·cases fc
     ·exact hk.elim
  |_=>rw[h] at h0;cases h0
 ·exact hk.elim
theorem c4n {X:AZ}{i:Nat}(bc:o.op= .extract X i){x:ah}(hx:bh X=AA x)(hk:af (ms P A ro E) (.pm x i) st K)(hr:Rel E st a w S ρ):Wb P o a w S ρ st.h K:=by
 have h0:=dm hr.ts hx;simp only[af,cy] at hk;split at hk
 ·rename_i cs e1;rw[e1] at h0;cases h:a.eval X with
  |tuple vs=>
   rw[h] at h0;cases h0 with
   |tuple _ _ hl hv=>
    have run: ∀{y:AV},cs[i]? =AA y-> ∃hlt:i<vs.size,(AX a.eval o).run P w= .ok (.value vs[i]) w/\VR w S ρ y vs[i]:=fun {y} hy=>by
     have hlt:=(AB.1 hy).1;have jv:i<vs.size:=by omega
     refine⟨jv,?_,hv _ y _ hy (by simp[jv])⟩;simp[AX,bc,h,BX,jv]
    split at hk
    ·rename_i ys hy;obtain⟨hlt,aj,pd⟩:=run hy;generalize vs[i]=u at aj pd;cases pd with
     |agg _ us hl jo=>obtain⟨lg,h',S',hk,k,bu,fc⟩:=OQ (vs:=us.toList) hr.co (by simpa using hl) (fun i x v hx hu=>jo i x v hx (by simpa using hu)) hk;exact⟨_,_,_,_,[],S',ρ,.inl aj,hk,k.W0,.agg _ us (by simpa using bu) fun i x v hx hu=>fc i x v hx (by simpa using hu)⟩
    ·rename_i l hy;obtain⟨hlt,aj,pd⟩:=run hy;obtain⟨x',h',S',hk,k,fc⟩:=b2b hr.co pd hk;exact⟨_,_,_,_,[],S',ρ,.inl aj,hk,k.W0,fc⟩
    ·rename_i y _ _ hy;obtain⟨hlt,aj,pd⟩:=run hy;obtain⟨x',h',S',hk,k,fc⟩:=Sn hr.co pd hk;exact⟨_,_,_,_,[],S',ρ,.inl aj,hk,k.W0,fc⟩
    ·exact hk.elim
  |_=>rw[h] at h0;cases h0
 ·exact hk.elim
theorem c8n {X:AZ}{i:Nat}(bc:o.op= .extract X i){x:ah}(hx:bh X=AA x)(hk:af (ms P A ro E) (.extract x i) st K)(hr:Rel E st a w S ρ):Wb P o a w S ρ st.h K:=by
 have h0:=dm hr.ts hx;simp only[af,cy] at hk;split at hk
 ·rename_i cs e1;rw[e1] at h0;cases h:a.eval X with
  |tuple vs=>
   rw[h] at h0;cases h0 with
   |tuple _ _ hl hv=>
    split at hk
    ·rename_i y hy;have hlt:=(AB.1 hy).1;have jv:i<vs.size:=by omega
     refine .same hr.co (v:=vs[i]) ?_ hk (hv _ y _ hy (by simp[jv]));simp[AX,bc,h,BX,jv]
    ·exact hk.elim
  |_=>rw[h] at h0;cases h0
 ·exact hk.elim
theorem Ip {x:AV}{v:AE}{K:IX->Prop}(h:VR w S ρ x v)(hk:ql x K): ∃n:IX,v= .int .i64 n.val/\K n:=by
 unfold ql at hk;split at hk
 ·exact⟨_,h.int,hk⟩
 ·exact hk.elim
theorem j5 (n:IX):nat (ms P A ro E) n=n.val.toNat:=by cases n<;>rfl
theorem d6m {t e:AJ}{X I:AZ}(bc:o.op= .indexAddr t X I)(hu:P.underlying t=AA (.slice e)){sz:Nat}(bl:l6 P e=AA sz){x i:ah}(hx:bh X=AA x)(hi:bh I=AA i)
 (hk:af (ms P A ro E) (.VG sz x i) st K) (hr:Rel E st a w S ρ):Wb P o a w S ρ st.h K:=by
 obtain⟨lz,cw⟩:=vu bl;have h0:=dm hr.ts hx;have h1:=dm hr.ts hi;simp only[af] at hk;obtain⟨n,hn,hk⟩:=Ip h1 hk;have run: ∀(pa:BG) (len cap:Nat),a.eval X= .slice (AA pa) len cap->0<=n.val->n.val<len->(AX a.eval o).run P w= .ok (.value (.pointer (AA (pa.add (n.val.toNat*sz))))) w:=by intro pa len cap hp h2 h3;simp[AX,bc,BJ,hn,Bb,hp,AN hu,h2,h3,cw]
 revert hk h0 run;generalize i7 st.ts x=p;generalize a.eval X=v;intro h0 hk run;unfold JA at hk;have data: ∀{sz' m:Nat} {e:Nat->List DV},qn w S (.sl sz' m e) v->sz=sz'->0<=n.val->n.val<m->K (.d9 (e n.val.toNat) 0) st.h []->Wb P o a w S ρ st.h K:=by
  intro sz' m e hd hs h2 h3 hk;subst hs;cases hd with
  |VO sz e a cap=>omega
  |sl _ _ _ b off cap f hb hc hl hv vq=>
   have hi:n.val.toNat<m:=by omega
   refine .same hr.co (by rw[run _ _ _ rfl h2 h3,xi]) hk ?_;have:=VR.d9 (w:=w) (S:=S) (ρ:=ρ) (e n.val.toNat) 0 b (off+n.val.toNat*sz) (f n.val.toNat) (hb (by omega)) (fun j hj=>hv _ hi j (by rw[hl _ hi] at hj;exact hj)) (vq _ hi);simpa using this
 split at hk
 ·rename_i l sz' s m f;split at hk
  ·rename_i hs;have hs:=AG hs;subst hs;obtain⟨⟨h2,h3⟩,hk⟩:(0<=n.val/\n.val<m)/\_:=hk;rw[IJ,j5] at hk;cases h0 with
   |bi _ _ _ _ _ ob C cap aa hρ hc b9 ha=>
    have yw:0<cap:=by rw[b9];split<;>omega
    have hb: ∃b,ob=AA b:=by
     cases ob with
     |some b=>exact⟨b,rfl⟩
     |none=>obtain⟨oo,_,h5⟩:=hr.co.obj l _ C hρ;have:C=0:=h5.1;omega
    obtain⟨b,rfl⟩:=hb;have e1:=ha yw;subst e1;refine .same hr.co (by rw[run _ _ _ rfl h2 h3,xi]) hk ?_;have:=VR.ii (w:=w) (S:=S) (ρ:=ρ) l sz (s.getD 0+n.val.toNat) 0 b C hρ;simpa [AW] using this
  ·exact hk.elim
 ·split at hk
  ·rename_i hs;obtain⟨⟨h2,h3⟩,hk⟩:(0<=n.val/\n.val<_)/\_:=hk;rw[j5] at hk;cases h0 with
   |d hd=>exact data hd (AG hs) h2 h3 hk
  ·exact hk.elim
 ·split at hk
  ·rename_i hs;obtain⟨⟨h2,h3⟩,hk⟩:(0<=n.val/\n.val<_)/\_:=hk;rw[j5] at hk;cases h0 with
   |lm _ _ _ _ hd=>exact data hd (AG hs) h2 h3 hk
  ·exact hk.elim
 ·exact hk.elim
theorem d1w {t e:AJ}{X I:AZ}{n:Nat}(bc:o.op= .indexAddr t X I)(hu:P.underlying t=AA (.array n e)){sz:Nat}(bl:l6 P e=AA sz){x i:ah}(hx:bh X=AA x)(hi:bh I=AA i)
 (hk:af (ms P A ro E) (.z5 n sz x i) st K) (hr:Rel E st a w S ρ):Wb P o a w S ρ st.h K:=by
 obtain⟨lz,cw⟩:=vu bl;have h0:=dm hr.ts hx;have h1:=dm hr.ts hi;simp only[af] at hk;obtain⟨m,hm,hk⟩:=Ip h1 hk;split at hk
 ·rename_i l off e1;split at hk
  ·rename_i k;split at hk
   ·rename_i hlt;simp only[Am,beq'_eq,beq_iff_eq] at hlt;obtain⟨h2,h3⟩:=hlt;have h2:k.toNat+1<=n:=by simpa [BH] using h2
    rw[e1] at h0;cases h:a.eval X with
    |pointer pa=>
     rw[h] at h0;cases h0 with
     |ptr _ _ b C hρ=>
      refine .same hr.co (v:= .pointer (AA ⟨b,off+k.toNat*sz,AD⟩)) ?_ hk (.ptr l _ b C hρ);have h4:0<=k:=by rw[<-h3];exact BR _
      have h5:k<n:=by omega
      simp[AX,bc,BJ,hm,Bb,h,AN hu,Ao,IX.val,h4,h5,cw,xi]
    |_=>rw[h] at h0;cases h0
   ·exact hk.elim
  ·rename_i k;obtain⟨⟨h4,h5⟩,hk⟩:=hk;have h4:0<=k:=h4;have h5:k<n:=h5;rw[e1] at h0;cases h:a.eval X with
   |pointer pa=>
    rw[h] at h0;cases h0 with
    |ptr _ _ b C hρ=>refine .same hr.co (v:= .pointer (AA ⟨b,off+k.toNat*sz,AD⟩)) ?_ hk (.ptr l _ b C hρ);simp[AX,bc,BJ,hm,Bb,h,AN hu,Ao,IX.val,h4,h5,cw,xi]
   |_=>rw[h] at h0;cases h0
 ·exact hk.elim
end
section
variable {P:AU} {A:t7} {ro:Option Nat} {E:x4} {c:Nat} {o:BK} {io:qr} {st:St} {K:AV->List ae->List Nat->Prop}
 {a:Bj} {w:AK} {S:Nat->Prop} {ρ:lw} {h:List ae}
def WB (w:AK)(S:Nat->Prop)(sz n:Nat)(e:Nat->List DV)(a:Option BG)(cap:Nat):Prop:=
 n=0\/ ∃b off,a=AA ⟨b,off,AD⟩/\n<=cap/\ ∀i,i<n->(e i).length=sz/\
  ∀j,j<sz-> ∃u,w.cell? ⟨b,off+i*sz+j,AD⟩=AA u/\ ∀x,(e i)[j]? =AA x->qn w S x u
theorem b4z {x:AV}{v:AE}{K:Nat->Nat->(Nat->List DV)->Prop}(hs:v4 w S ρ h)(h0:VR w S ρ x v)(hk:um (ms P A ro E) h x K):
 ∃sz n e a cap,K sz n e/\v= .slice a n cap/\WB w S sz n e a cap:=by
 have data: ∀{sz n:Nat} {e:Nat->List DV} {v:AE},qn w S (.sl sz n e) v-> ∃a cap,v= .slice a n cap/\WB w S sz n e a cap:=by
  intro sz n e v hd;cases hd with
  |VO sz e a cap=>exact⟨a,cap,rfl,.inl rfl⟩
  |sl sz n e b off cap f hb hc hl hv hr=>exact⟨_,cap,rfl,.inr ⟨b,off,rfl,hc,fun i hi=>⟨hl i hi,fun j hj=>⟨f i j,hv i hi j hj,fun x hx=>hr i hi j x hx⟩⟩⟩⟩
 unfold um at hk;split at hk
 ·cases h0 with
  |d hd=>obtain⟨a,cap,h1,h2⟩:=data hd;exact⟨_,_,_,a,cap,hk,h1,h2⟩
 ·cases h0 with
  |lm sz n e a hd=>obtain⟨a,cap,h1,h2⟩:=data hd;exact⟨_,_,_,a,cap,hk,h1,h2⟩
 ·rename_i l sz s n f;cases h0 with
  |bi _ _ _ _ _ ob C cap aa hρ hc b9 ha=>
   obtain⟨oo,h1,h2⟩:=hs.obj l ob C hρ;simp only[cy,h1] at hk;have main: ∀{sz' m:Nat} {e:Nat->List DV},(oo= .arr sz' m e\/oo= .t0 sz' m e)->AH sz sz'=AR->s.getD 0+n<=m->K sz n (fun j=>e (s.getD 0+j))->
    ∃NW n1 e1 a' cap',K NW n1 e1/\Value.slice aa n cap= .slice a' n1 cap'/\WB w S NW n1 e1 a' cap':=by
    intro sz' m e ho bl hle hk;have bl:=AG bl;subst bl;refine⟨sz,n,_,aa,cap,hk,rfl,?_⟩;by_cases hn:n=0
    ·exact .inl hn
    ·obtain⟨b,vs,ty,fr,rfl,h3,h4,h5,h6⟩:=a8u ho h2 (by omega);have yw:0<cap:=by rw[b9];split<;>omega
     refine .inr ⟨b,s.getD 0*sz,ha yw,by rw[b9];split<;>omega,fun i hi=> ?_⟩;have ft:=b1w h3 h4 h5 h6 (i:=s.getD 0+i) (by omega);refine⟨ft.1,fun j hj=>⟨_,?_,(ft.2 j hj).2⟩⟩;rw[<-(ft.2 j hj).1,AW]
   split at hk
   ·simp only[IJ,T0] at hk;rename_i heq;cases heq;split at hk
    ·rename_i bl;obtain⟨hle,hk⟩:(s.getD 0+n<=_)/\_:=hk;exact main (.inl rfl) bl hle hk
    ·exact hk.elim
   ·simp only[IJ,T0] at hk;rename_i heq;cases heq;split at hk
    ·rename_i bl;obtain⟨hle,hk⟩:(s.getD 0+n<=_)/\_:=hk;exact main (.inr rfl) bl hle hk
    ·exact hk.elim
   ·exact hk.elim
 ·exact hk.elim
theorem Iv {sz n:Nat}{e:Nat->List DV}{aa:Option BG}{cap:Nat}(he:WB w S sz n e aa cap)(ha:n=0-> ∀x,aa=AA x->True):
 ∃cs:Array AE,(AY sz n (.slice aa n cap)).run P w= .ok cs w/\cs.size=n*sz/\(∀i,i<n->(e i).length=sz)/\
  ∀i,i<n-> ∀(j:Nat) (x:DV) (u:AE),(e i)[j]? =AA x->cs[i*sz+j]? =AA u->qn w S x u:=by
 rcases he with hn|⟨b,off,rfl,hc,h1⟩
 ·subst hn;refine⟨#[],?_,by simp,fun i hi=>by omega,fun i hi=>by omega⟩;cases aa with
  |none=>simp[AY]
  |some x=>simp[AY,loadCells,Bl]
 ·by_cases bl:sz=0
  ·subst bl;refine⟨#[],?_,by simp,fun i hi=>(h1 i hi).1,fun i hi j x u hx hu=>by simp at hu⟩;simp[AY,loadCells,Bl]
  ·have hex: ∀k,∃u,k<n*sz->w.cell? ⟨b,off+k,AD⟩=AA u/\ ∀x,(e (k/sz))[k % sz]? =AA x->qn w S x u:=by
    intro k;by_cases hk:k<n*sz
    ·have hi:k/sz<n:=(Nat.div_lt_iff_lt_mul (by omega)).2 hk;have hj:k % sz<sz:=Nat.mod_lt _ (by omega);obtain⟨u,hu,hr⟩:=(h1 _ hi).2 _ hj;refine⟨u,fun _=>⟨?_,hr⟩⟩;rw[<-hu,A9];congr 3;rw[Bf];exact (Nat.div_add_mod k sz).symm
    ·exact⟨Au,fun h=>absurd h hk⟩
   have tb:=fun k=>(hex k).choose_spec;have aj:=Bk (P:=P) w ⟨b,off,AD⟩ (n*sz) (fun k=>(hex k).choose) (fun k hk=>by rw[xi];exact (tb k hk).1);refine⟨_,by simpa [AY] using aj,by simp,fun i hi=>(h1 i hi).1,fun i hi j x u hx hu=> ?_⟩;have hj:j<sz:=by have:=(AB.1 hx).1;rw[(h1 i hi).1] at this;exact this
   have hlt:i*sz+j<n*sz:=by have:(i+1)*sz<=n*sz:=AO _ (by omega);rw[AW] at this;omega
   have h3:=tb (i*sz+j) hlt;simp only[Ad,AS,BO hlt,Option.map_some,Option.some.injEq] at hu;subst hu;refine h3.2 x ?_;rw[Bf,Nat.mul_add_div (by omega),Nat.mul_add_mod,Nat.div_eq_of_lt hj,BV hj,Az];exact hx
theorem RK {zs:List DV}{z:AE}(hd:R6 z=AA zs){sz:Nat}(bl:zs.length=sz)(n:Nat)(S:Nat->Prop)(w:AK):
 ∀i,i<n-> ∀(j:Nat) (x:DV) (u:AE),zs[j]? =AA x->((A3 (n*sz)).map (z.cells[· % z.cells.size]!))[i*sz+j]? =AA u->qn w S x u:=by
 intro i hi j x u hx hu;obtain⟨h1,h2⟩:=IQ hd;have hj:j<sz:=by rw[<-bl];exact (AB.1 hx).1
 have hlt:i*sz+j<n*sz:=by have:(i+1)*sz<=n*sz:=AO _ (by omega);rw[AW] at this;omega
 have kj:z.cells.size=sz:=by rw[<-h1,bl]
 simp[hlt,kj] at hu;rw[BV hj] at hu;exact h2 w S j x u hx (by rw[<-hu];simp[kj,hj])
theorem qo {t e:AJ}(h:Ix P t=AA e):P.underlying t=AA (.slice e):=by
 simp[Ix,AC] at h;obtain⟨d,hd,h⟩:=h;split at h
 ·cases h;exact hd
 ·cases h
theorem UT {t:AJ}{b:Nat}(h:zu P t=AA b): ∃i,P.info? t=AA i/\i.bytes=b:=by simpa [zu] using h
theorem b3n {n:Int}(h0:0<=n)(h1:n<=9223372036854775807):IntKind.i64.wrap n=n:=by unfold IntKind.wrap;simp[IntKind.bits,IntKind.signed];omega
theorem b8a {t:AJ}{N M:AZ}(bc:o.op= .makeSlice t N M)(hNM:a.eval N=a.eval M){e:AJ}(he:P.underlying t=AA (.slice e)){sz b:Nat}{zs:List DV}(bl:l6 P e=AA sz)
 (hz:uo P e=AA zs) (hb:zu P e=AA b) (lr:zs.length=sz) (k7:b<=250) {x:ah} (hx:bh N=AA x)
 (hk:af (ms P A ro E) (.mp sz zs b x) st K) (hr:Rel E st a w S ρ):Wb P o a w S ρ st.h K:=by
 obtain⟨lz,cw⟩:=vu bl;obtain⟨i,z,hi,w5,hd⟩:=KN hz;obtain⟨i',fw,J6⟩:=UT hb;rw[hi] at fw;cases fw;have h0:=dm hr.ts hx;simp only[af] at hk;obtain⟨n,hn,hk⟩:=Ip h0 hk;obtain⟨h1,h2,hk⟩:(0<=n.val)/\(n.val<=(VU:Nat))/\_:=hk;rw[j5,cv,fi] at hk;simp only[VU] at h2;obtain⟨hl,hv⟩:=IQ hd;have iu:ρ st.h.length=AD:=hr.co.fresh (AL _);have hw:IntKind.i64.wrap n.val=n.val:=b3n h1 (by omega);have wz:((n.val.toNat:Nat):Int)=n.val:=Int.toNat_of_nonneg h1;have Na:((b:Nat):Int)*n.val<=281474976710656:=by
  have o7:(0:Int)<=(b:Int):=BR _;have Jc:(b:Int)<=250:=by omega
  have h3:=Int.mul_le_mul_of_nonneg_right Jc h1;omega
 refine⟨.slice (AA ⟨w.heap.size,0,AD⟩) n.val.toNat n.val.toNat,{w with heap:=w.heap.push (.cells ((A3 (n.val.toNat*sz)).map (z.cells[· % z.cells.size]!)) e)},_,_,[],S,_,.inl ?_,hk,
  n8.new hr.co iu (.cells ((A3 (n.val.toNat*sz)).map (z.cells[· % z.cells.size]!)) e) (.arr sz n.val.toNat ((ms P A ro E).rep n.val.toNat zs)) n.val.toNat
   (fun w' gd=>⟨(A3 (n.val.toNat*sz)).map (z.cells[· % z.cells.size]!),e,by rw[gd];simp,by simp,AL _,fun i hi=>by rw[show (ms P A ro E).rep n.val.toNat zs i=zs from if_pos hi];exact⟨lr,fun j y u hy hu=>RK hd lr _ S w' i hi j y u hy hu⟩⟩),
  .bi _ _ AD _ AF (AA w.heap.size) n.val.toNat _ _ (by simp) (by simp) (by simp) (by simp)⟩
 have Km:(A2 e).run P w= .ok i w:=by simp[A2,hi]
 simp only[AX,bc,<-hNM,hn,Instr.makeSlice,Ay,AN he,Ai,asInt,Bb,Aj,Km,hw,J6];rw[if_neg (by
  simp only[Bool.or_eq_true,decide_eq_true_eq];omega)]
 simp only[Ai,Ay,run_askRoom,cw];have r0: ∀f:Nat->AE,(A3 0).map f= #[]:=fun f=>by apply Array.ext';simp
 by_cases hm:n.val.toNat*sz=0
 ·simp[hm,BY,r0]
 ·simp[hm,BY,Jz hi w5]
end
theorem n8.world {w w1 w2:AK}{S S':Nat->Prop}{ρ ρ':lw}{h h':List ae}{pg:List Nat}(k:n8 w S ρ h w1 S' ρ' h' pg)(hh:w2.heap=w1.heap)(h1:w2.os=w1.os)(h2:w2.tape=w1.tape/\w1.drawn<=w2.drawn)(h3:w2.output=w1.output):
 n8 w S ρ h w2 S' ρ' h' pg where
 co:=⟨fun b hb=>by rw[hh];exact k.co.i0 b hb,fun l ob C hl=>by
  obtain⟨o,h4,h5⟩:=k.co.obj l ob C hl;refine⟨o,h4,?_⟩;cases ob with
  |none=>exact h5
  |some b=>exact fv.mono (fun _ h=>h) (fun _ _=>by rw[hh]) (fun _ _ h=>h) (by rw[hh]) h5,k.co.inj,k.co.own⟩
 len:=k.len
 ext:=⟨h1.trans k.ext.os,k3o k.ext.tape h2,h3.trans k.ext.output,by rw[hh];exact k.ext.size,k.ext.mono,fun b hb=>by rw[hh];exact k.ext.cell b hb,k.ext.news,fun b hb hn=>by rw[hh];exact k.ext.frame b hb hn,k.ext.owned⟩
 v9:=k.v9
 low:=k.low
section
variable {P:AU} {A:t7} {ro:Option Nat} {E:x4} {c:Nat} {o:BK} {io:qr} {st:St} {K:AV->List ae->List Nat->Prop}
 {a:Bj} {w:AK} {S:Nat->Prop} {ρ:lw} {h:List ae}
theorem getD_some (X:Array AE)(i:Nat)(h:i<X.size):X[i]? =AA (X.getD i Au):=by simp[h]
theorem c6q (yf:Nat): ∀(r c:Nat),BS yf r c<=max c (2*yf+192):=by
 intro r
 induction r with
 |zero=>intro c;simp[BS];omega
 |succ r ih=>
  intro c;unfold BS;split
  ·omega
  ·have:=ih (c+(c+768)/4);omega
theorem b1u {yf cap:Nat}(h:cap<yf):Al yf cap<=2*yf+192:=by
 unfold Al;split
 ·omega
 ·split
  ·omega
  ·have:=c6q yf 4 cap;omega
theorem a6j {t u e e':AJ}{sz b:Nat}{base a2:Option BG}{n cap m cap2:Nat}{kq new:Array AE}{zs:List DV}
 (ht:P.underlying t=AA (.slice e)) (hu:P.underlying u=AA (.slice e')) (bl:l6 P e=AA sz) (hb:zu P e=AA b) (k7:b<=250) (hz:uo P e=AA zs)
 (jz:cap<n+m) (ln:n+m<=VU)
 (hold:(AY sz n (.slice base n cap)).run P w.drew= .ok kq w.drew)
 (cm:(AY sz m (.slice a2 m cap2)).run P w.drew= .ok new w.drew):
 ∃(newCap:Nat) (rest:Array AE),n+m<=newCap/\rest.size=(newCap-(n+m))*zs.length/\
  (Ac #[t,u] t #[.slice base n cap,.slice a2 m cap2]).run P w= .ok (.slice (AA ⟨w.heap.size,0,AD⟩) (n+m) newCap) (w.drew.alloc (.cells (kq++(new++rest)) e)):=by
 obtain⟨lz,cw⟩:=vu bl;obtain⟨i,z,hi,w5,hd⟩:=KN hz;obtain⟨i',fw,J6⟩:=UT hb;rw[hi] at fw;cases fw;have Km: ∀w:AK,(A2 e).run P w= .ok i w:=fun w=>by simp[A2,hi]
 simp only[VU] at ln;have b9:=b1u jz;have hmul:Al (n+m) cap*b<=281474976710656:=by have h1:Al (n+m) cap*b<=(2*(n+m)+192)*250:=Nat.mul_le_mul b9 k7;omega
 refine⟨(A4 (n+m) cap e).cut (w.tape w.drawn (.appendCap (n+m) cap e)),BM z.cells ((A4 (n+m) cap e).cut (w.tape w.drawn (.appendCap (n+m) cap e))-(n+m)),?_,?_,?_⟩
 ·simp only[Br];omega
 ·obtain⟨h1,_⟩:=IQ hd;simp[BM,h1]
 ·have hf: ∀k:Nat,(A4 (n+m) cap e).forced=AF:=fun _=>rfl;have h1: ¬n+m<=cap:=by omega
  have h2: ¬((9223372036854775807:Int)<(n:Int)+(m:Int)/\b=0):=by omega
  have h3: ¬Al (n+m) cap*b>281474976710656:=by omega
  simp[Ac,AN ht,AN hu,cw,BE,Km,J6,h1,h2,h3,hf 0,hold,cm,Jz hi w5,BY]
theorem a5o {t u e e':AJ}{sz:Nat}{b off:Nat}{a2:Option BG}{n cap m cap2:Nat}{new vs:Array AE}{ty:AJ}
 (ht:P.underlying t=AA (.slice e)) (hu:P.underlying u=AA (.slice e')) (bl:l6 P e=AA sz)
 (jz:n+m<=cap) (cm:(AY sz m (.slice a2 m cap2)).run P w= .ok new w) (hb:w.heap[b]? =AA (.cells vs ty (0,0))) (hl:off+n*sz+new.size<=vs.size)
 (h1: ∀v,v∈new.toList->v.oneCell'=AR):
 (Ac #[t,u] t #[.slice (AA ⟨b,off,AD⟩) n cap,.slice a2 m cap2]).run P w= .ok (.slice (AA ⟨b,off,AD⟩) (n+m) cap)
   (w.setRow b (vs.toList.take (off+n*sz)++new.toList++vs.toList.drop (off+n*sz+new.toList.length)).toArray):=by
 obtain⟨lz,cw⟩:=vu bl;have fj:=Ba (P:=P) b (off+n*sz) ty new.toList 0 vs w hb (by simpa using hl) h1;simp only[Az] at fj;simp[Ac,AN ht,AN hu,cw,BE,jz,cm,xi,fj]
theorem a5h {t u e e':AJ}{sz:Nat}{a2:Option BG}{cap2:Nat}{new:Array AE}
 (ht:P.underlying t=AA (.slice e)) (hu:P.underlying u=AA (.slice e')) (bl:l6 P e=AA sz)
 (cm:(AY sz 0 (.slice a2 0 cap2)).run P w= .ok new w):
 (Ac #[t,u] t #[.slice AD 0 0,.slice a2 0 cap2]).run P w= .ok (.slice AD 0 0) w:=by
 obtain⟨lz,cw⟩:=vu bl;simp[Ac,AN ht,AN hu,cw,BE,cm]
theorem WB.drew {sz n:Nat}{e:Nat->List DV}{aa:Option BG}{cap:Nat}(h:WB w S sz n e aa cap):WB w.drew S sz n e aa cap:=by
 rcases h with h|⟨b,off,h1,h2,h3⟩
 ·exact .inl h
 ·refine .inr ⟨b,off,h1,h2,fun i hi=>⟨(h3 i hi).1,fun j hj=> ?_⟩⟩;obtain⟨u,h4,h5⟩:=(h3 i hi).2 j hj;exact⟨u,h4,fun x hx=>qn.mono (w:=w) (w':=w.drew) (fun _ h=>h) (fun _ _=>rfl) (h5 x hx)⟩
theorem b0z {sz n m newCap:Nat}{e e2:Nat->List DV}{kq new rest:Array AE}{zl:Nat}(hz:zl=sz)(hn:kq.size=n*sz)(hm:new.size=m*sz)(hr:rest.size=(newCap-(n+m))*zl)(hle:n+m<=newCap)
 (ho:(∀i,i<n->(e i).length=sz)/\ ∀i,i<n-> ∀(j:Nat) (x:DV) (u:AE),(e i)[j]? =AA x->kq[i*sz+j]? =AA u->qn w S x u)
 (hnw:(∀i,i<m->(e2 i).length=sz)/\ ∀i,i<m-> ∀(j:Nat) (x:DV) (u:AE),(e2 i)[j]? =AA x->new[i*sz+j]? =AA u->qn w S x u):
 (kq++(new++rest)).size=newCap*sz/\ ∀i,i<n+m->((ms P A ro E).app n e e2 i).length=sz/\
   ∀(j:Nat) (x:DV) (u:AE),((ms P A ro E).app n e e2 i)[j]? =AA x->(kq++(new++rest))[i*sz+j]? =AA u->qn w S x u:=by
 subst hz;refine⟨?_,fun i hi=> ?_⟩
 ·simp[hn,hm,hr,<-AW];congr 1;omega
 ·show (if i<n then e i else e2 (i-n)).length=zl/\ ∀(j:Nat) (x:DV) (u:AE),(if i<n then e i else e2 (i-n))[j]? =AA x->_;by_cases h1:i<n
  ·rw[if_pos h1];refine⟨ho.1 i h1,fun j x u hx hu=> ?_⟩;have hj:j<zl:=by have:=(AB.1 hx).1;rw[ho.1 i h1] at this;exact this
   have:(i+1)*zl<=n*zl:=AO _ (by omega);rw[AW] at this;rw[BF (by omega)] at hu;exact ho.2 i h1 j x u hx hu
  ·rw[if_neg h1];have h2:i-n<m:=by omega
   refine⟨hnw.1 _ h2,fun j x u hx hu=> ?_⟩;have hj:j<zl:=by have:=(AB.1 hx).1;rw[hnw.1 _ h2] at this;exact this
   have h3:(i-n+1)*zl<=m*zl:=AO _ (by omega);rw[AW] at h3;have h4:i*zl=n*zl+(i-n)*zl:=by rw[<-AW];congr 1;omega
   rw[Array.getElem?_append_right (by omega),BF (by omega)] at hu;rw[show i*zl+j-kq.size=(i-n)*zl+j by omega] at hu;exact hnw.2 _ h2 j x u hx hu
theorem WB.zero {sz:Nat}{e:Nat->List DV}{aa:Option BG}{cap:Nat}:WB w S sz 0 e aa cap:= .inl rfl
theorem UI {t u e e':AJ}{sz b:Nat}{zs:List DV}{v v2:AE}{n cap m:Nat}{es wq:Nat->List DV}{base a2:Option BG}{cap2:Nat}{mu:Bool}
 (bc: ∀r w',(Ac #[t,u] t #[v,v2]).run P w= .ok r w'->(AX a.eval o).run P w= .ok (.value r) w')
 (ht:P.underlying t=AA (.slice e)) (hu:P.underlying u=AA (.slice e')) (bl:l6 P e=AA sz) (hb:zu P e=AA b) (k7:b<=250) (hz:uo P e=AA zs) (lr:zs.length=sz)
 (hs:v4 w S ρ h) (hv:v= .slice base n cap) (jh:v2= .slice a2 m cap2) (he:WB w S sz n es base cap) (sg:WB w S sz m wq a2 cap2) (jz:cap<n+m) (ln:n+m<=VU)
 (hk:if mu then K (.bi h.length sz AD (n+m) AF) (h++[.arr sz (n+m) ((ms P A ro E).app n es wq)]) [] else K (.d (.sl sz (n+m) ((ms P A ro E).app n es wq))) h []):
 Wb P o a w S ρ h K:=by
 subst hv jh;obtain⟨kq,hold,Ng,xu⟩:=Iv (P:=P) he.drew (fun _ _ _=>trivial);obtain⟨new,cm,ky,oa⟩:=Iv (P:=P) sg.drew (fun _ _ _=>trivial);obtain⟨newCap,rest,hle,Qf,aj⟩:=a6j ht hu bl hb k7 hz jz ln hold cm;have j3: ∀w':AK,(∀b,S b->w'.heap[b]? =w.heap[b]?)->_:=fun w' gd=>b0z (P:=P) (A:=A) (ro:=ro) (E:=E) (w:=w') (S:=S) (sz:=sz) (newCap:=newCap) (rest:=rest) lr Ng ky Qf hle
  ⟨xu.1,fun i hi j x u hx hu=>qn.mono (w:=w.drew) (w':=w') (fun _ h=>h) gd (xu.2 i hi j x u hx hu)⟩ ⟨oa.1,fun i hi j x u hx hu=>qn.mono (w:=w.drew) (w':=w') (fun _ h=>h) gd (oa.2 i hi j x u hx hu)⟩
 have kf: ∀w':AK,w'.heap=w.heap.push (.cells (kq++(new++rest)) e)-> ∀b,S b->w'.heap[b]? =w.heap[b]? :=by intro w' gd b hb;rw[gd,Af,if_neg];have:=hs.i0 b hb;omega
 have iu:ρ h.length=AD:=hs.fresh (AL _);cases mu with
 |true=>simp only[if_true] at hk;have k:=n8.new hs iu (.cells (kq++(new++rest)) e) (.arr sz (n+m) ((ms P A ro E).app n es wq)) newCap (fun w' gd=>⟨_,e,by rw[gd];simp,(j3 w' (kf w' gd)).1,hle,(j3 w' (kf w' gd)).2⟩);refine⟨_,_,_,_,[],S,_,.inl (bc _ _ aj),hk,k.world (w2:=w.drew.alloc (.cells (kq++(new++rest)) e)) rfl rfl ⟨rfl,Bh _⟩ rfl,?_⟩;exact .bi _ _ AD _ AF (AA w.heap.size) newCap _ _ (by simp) (by simpa using hle) (by simp) (by simp)
 |false=>
  simp only[Bool.false_eq_true,if_false] at hk;have k:=n8.new hs iu (.cells (kq++(new++rest)) e) (.arr sz (n+m) ((ms P A ro E).app n es wq)) newCap (fun w' gd=>⟨_,e,by rw[gd];simp,(j3 w' (kf w' gd)).1,hle,(j3 w' (kf w' gd)).2⟩)
  let w2:AK:=w.drew.alloc (.cells (kq++(new++rest)) e)
  have hh:w2.heap=w.heap.push (.cells (kq++(new++rest)) e):=rfl;have Ja: ∀b,S b->w2.heap[b]? =w.heap[b]? :=kf w2 hh;have o9:w2.heap[w.heap.size]? =AA (.cells (kq++(new++rest)) e (0,0)):=by rw[hh];simp
  let S':Nat->Prop:=fun b=>S b\/b=w.heap.size
  have ue: ∀b,b<w.heap.size->w2.heap[b]? =w.heap[b]? :=fun b hb=>by rw[hh,Af,if_neg (by omega)]
  obtain⟨xw,mb⟩:=j3 w2 Ja;refine⟨_,w2,_,_,[],S',ρ,.inl (bc _ _ aj),hk,⟨⟨fun b hb=> ?_,fun l ob C hl=> ?_,hs.inj,fun l b C ao hl ju hf=> ?_⟩,AL _,⟨rfl,⟨rfl,Bh _⟩,rfl,by rw[hh];simp,fun _ h=> .inl h,Ja,fun b hb=> ?_,fun b hb _=>ue b hb,fun l b C hl=> .inr ⟨l,C,hl⟩⟩,fun _ _ _ h=>h,fun _ _ _=>rfl⟩,.d ?_⟩
  ·rw[hh];simp;rcases hb with hb|hb
   ·have:=hs.i0 b hb;omega
   ·omega
  ·obtain⟨o',h1,h2⟩:=hs.obj l ob C hl;refine⟨o',h1,?_⟩;cases ob with
   |none=>exact h2
   |some b=>exact fv.mono (fun _ h=> .inl h) Ja (fun _ _ h=>h) (ue b (hs.V2 hl)) h2
  ·intro hb;rcases hb with hb|hb
   ·exact hs.own l b C ao hl ju hf hb
   ·have:=hs.V2 hl;omega
  ·rcases hb with hb|hb
   ·exact .inl hb
   ·exact .inr (.inl (by omega))
  ·refine .sl sz (n+m) _ w.heap.size 0 newCap (fun i j=>(kq++(new++rest)).getD (i*sz+j) Au) (fun _=> .inr rfl) hle (fun i hi=>(mb i hi).1) (fun i hi j hj=> ?_) (fun i hi j x hx=> ?_)
   ·rw[cell?_of o9,Be];have:i*sz+j<(kq++(new++rest)).size:=by rw[xw];have:(i+1)*sz<=newCap*sz:=AO _ (by omega);rw[AW] at this;omega
    exact getD_some _ _ this
   ·have hj:j<sz:=by have:=(AB.1 hx).1;rw[(mb i hi).1] at this;exact this
    have:i*sz+j<(kq++(new++rest)).size:=by rw[xw];have:(i+1)*sz<=newCap*sz:=AO _ (by omega);rw[AW] at this;omega
    exact ((mb i hi).2 j x _ hx (getD_some _ _ this)).mono (fun _ h=> .inl h) (fun _ _=>rfl)
end
end Go.Vf
