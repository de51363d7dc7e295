/- Parts of the proof: Ma. Conditions: none. -/
import Derived.OrdersIn
import Derived.KernelRfl
import Derived.Laws.Sem
import GoSem.ClaimKeys
import Derived.Laws.Cells
import Derived.Laws.CopyRow
import Derived.Laws.Rows
import Derived.Laws.Entries
import Derived.ChangeKeysEq
import Derived.RangeFuncCalls
import Derived.RangeFuncLeaves
open Option renaming some->AA,none->AB
open Bool renaming false->AC,true->AJ
open Nat renaming beq->AD,le_refl->AN,le_trans->AQ,ble->AT,blt->Ae,lt_of_lt_of_le->Ah,min->Al
open Pure renaming pure->AE
open Go renaming World->AF,Program->AG,IntKind->AH,Value->AI,TypeId->AM,FuncId->AU,start->AX,MapEntry->AZ,BinOp->Aa,Oper->Ag,Deferred->Ai,Operand->Aj,Code->Ak
open List renaming getElem?_map->AK,getElem?_set_ne->AL,getElem?_eq_some_iff->AP,range->AS,replicate->Ab,getElem?_append_left->Ad
open BitVec renaming ofInt->AO
open Array renaming getElem?_eq_some_iff->AR,eq_empty_of_size_eq_zero->AW,getElem?_eq_getElem->Ac,getElem?_push->Af
open Ne renaming symm->AY
set_option linter.unusedSimpArgs false
set_option linter.unusedVariables false
namespace Go.Vf
open Go
inductive KC where
 |i (n:Int)
 |o (b:Bool)
 |s (l:List UInt8)
 deriving DecidableEq
inductive IX where
 |v (n:Int)
 |l (n:Int)
def IX.val:IX->Int
 | .v n=>n
 | .l n=>n
inductive DV where
 |int (k:AH) (n:IX)
 |bool (b:Bool)
 |str (l:List UInt8)
 |nil
 |sl (sz n:Nat) (e:Nat->List DV)
 |raw (v:AI)
inductive AV where
 |d (x:DV)
 |any
 |und
 |agg (cs:List AV)
 |tuple (vs:List AV)
 |ptr (l off:Nat)
 |aptr (l sz i off:Nat)
 |dptr (row:List DV) (off:Nat)
 |dfs (sz n:Nat) (e:Nat->List DV)
 |msl (l sz:Nat) (AX:Option Nat) (len:Nat) (full:Bool)
 |vsl (l off n:Nat)
 |map (l:Nat)
 |fn (f:AU) (first cap:List AV)
 |ge (m:Nat)
 |yl (l:Nat)
inductive Lv where
 |normal
 |exit (id:Nat)
 |ret
inductive LSt where
 |ready
 |busy
 |done (lv:Lv)
 |over (lv:Lv)
def Lv.jump:Lv->Option Ak
 | .normal=>AB
 | .exit id=>AA (.exit id)
 | .ret=>AA .ret
def LSt.state:LSt->LoopState
 | .ready=> .ready
 | .busy=> .busy
 | .done _=> .done
 | .over _=> .exhausted
def LSt.pend:LSt->Option Ak
 | .done lv=>lv.jump
 | .over lv=>lv.jump
 |_=>AB
inductive a0f where
 |var (cs:List AV)
 |arr (sz n:Nat) (e:Nat->List DV)
 |frz (sz n:Nat) (e:Nat->List DV)
 |map (wide:Bool) (ks:List AH) (n:Nat) (f:List KC->Option Int)
 |mapv (wide:Bool) (ks:List AH) (keys:List (List KC)) (vals:List AV)
 |loop (s:LSt) (ts:List AV) (ps:List Nat) (code:Ak->Ak->Prop)
 |gone
 |arrv (vals:List AV)
def a0f.frozen:a0f->Bool
 | .frz .. =>AJ
 | .gone=>AJ
 |_=>AC
abbrev Rho:=Nat->Option (Option Nat×Nat)
inductive DVR (w:AF)(S:Nat->Prop):DV->AI->Prop
 |int (k:AH) (n:IX):DVR w S (.int k n) (.int k n.val)
 |bool (b:Bool):DVR w S (.bool b) (.bool b)
 |str (l:List UInt8):DVR w S (.str l) (.string ⟨l.toArray⟩)
 |nil:DVR w S .nil (.slice AB 0 0)
 |raw (v:AI) (h:v.oneCell'=AJ):DVR w S (.raw v) v
 |sl0 (sz:Nat) (e:Nat->List DV) (a:Option Addr) (cap:Nat):DVR w S (.sl sz 0 e) (.slice a 0 cap)
 |sl (sz n:Nat) (e:Nat->List DV) (b off cap:Nat) (f:Nat->Nat->AI) (hb:0<n->S b) (hc:n<=cap)
   (hl: ∀i,i<n->(e i).length=sz)
   (hv: ∀i,i<n-> ∀j,j<sz->w.cell? ⟨b,off+i*sz+j,AB⟩=AA (f i j))
   (hr: ∀i,i<n-> ∀(j:Nat) (x:DV),(e i)[j]? =AA x->DVR w S x (f i j)):DVR w S (.sl sz n e) (.slice (AA ⟨b,off,AB⟩) n cap)
inductive VR (w:AF)(S:Nat->Prop)(ρ:Rho):AV->AI->Prop
 |d {x:DV} {v:AI} (h:DVR w S x v):VR w S ρ (.d x) v
 |any (v:AI):VR w S ρ .any v
 |und:VR w S ρ .und undef
 |agg (cs:List AV) (vs:Array AI) (hl:cs.length=vs.size) (h: ∀(i:Nat) (x:AV) (v:AI),cs[i]? =AA x->vs[i]? =AA v->VR w S ρ x v):VR w S ρ (.agg cs) (.agg vs)
 |tuple (cs:List AV) (vs:Array AI) (hl:cs.length=vs.size) (h: ∀(i:Nat) (x:AV) (v:AI),cs[i]? =AA x->vs[i]? =AA v->VR w S ρ x v):VR w S ρ (.tuple cs) (.tuple vs)
 |ptr (l off b C:Nat) (h:ρ l=AA (AA b,C)):VR w S ρ (.ptr l off) (.pointer (AA ⟨b,off,AB⟩))
 |aptr (l sz i off b C:Nat) (h:ρ l=AA (AA b,C)):VR w S ρ (.aptr l sz i off) (.pointer (AA ⟨b,i*sz+off,AB⟩))
 |dptr (row:List DV) (off b base:Nat) (f:Nat->AI) (hb:S b) (hv: ∀j,j<row.length->w.cell? ⟨b,base+j,AB⟩=AA (f j))
   (hr: ∀(j:Nat) (x:DV),row[j]? =AA x->DVR w S x (f j)):VR w S ρ (.dptr row off) (.pointer (AA ⟨b,base+off,AB⟩))
 |dfs (sz n:Nat) (e:Nat->List DV) (a:Option Addr) (h:DVR w S (.sl sz n e) (.slice a n n)):VR w S ρ (.dfs sz n e) (.slice a n n)
 |msl (l sz:Nat) (AX:Option Nat) (len:Nat) (full:Bool) (ob:Option Nat) (C cap:Nat) (a:Option Addr) (h:ρ l=AA (ob,C)) (hc:AX.getD 0+len<=C)
   (hcap:cap=if full then len else C-AX.getD 0) (ha:0<cap->a=ob.map fun b=>⟨b,AX.getD 0*sz,AB⟩):
   VR w S ρ (.msl l sz AX len full) (.slice a len cap)
 |vsl (l off n b C cap:Nat) (h:ρ l=AA (AA b,C)) (hc:n<=cap):VR w S ρ (.vsl l off n) (.slice (AA ⟨b,off,AB⟩) n cap)
 |map (l b C:Nat) (h:ρ l=AA (AA b,C)):VR w S ρ (.map l) (.map (AA b))
 |fn (f:AU) (first cap:List AV) (us vs:Array AI) (hl1:first.length=us.size) (h1: ∀(i:Nat) (x:AV) (v:AI),first[i]? =AA x->us[i]? =AA v->VR w S ρ x v)
   (hl:cap.length=vs.size) (h: ∀(i:Nat) (x:AV) (v:AI),cap[i]? =AA x->vs[i]? =AA v->VR w S ρ x v):
   VR w S ρ (.fn f first cap) (.func (.func f) us vs)
 |ge (m:Nat) (n:Int) (h:(m:Int)<=n):VR w S ρ (.ge m) (.int .i64 n)
 |yl (l b C:Nat) (h:ρ l=AA (AA b,C)):VR w S ρ (.yl l) (.func (.yield b) #[] #[])
def KC.ofValue:AI->Option KC
 | .int _ n=>AA (.i n)
 | .bool x=>AA (.o x)
 | .string t=>AA (.s t.data.toList)
 |_=>AB
def keyOf (v:AI):Option (List KC):=v.cells.toList.mapM KC.ofValue
def a7b (k:List KC):List AZ->Option Int
 |[]=>AB
 |e::es=>if keyOf e.key=AA k then (match e.val with| .int _ n=>AA n|_=>AB) else a7b k es
def a1m (wide:Bool)(ks:List AH)(v:AI):Prop:=
 (if wide then∃cs,v= .agg cs else∃k n,v= .int k n)/\ ∃ns:List Int,ns.length=ks.length/\v.cells.toList=List.zipWith Value.int ks ns/\
   ∀(i:Nat) (k:AH) (n:Int),ks[i]? =AA k->ns[i]? =AA n->k.wrap n=n
structure g2l (wide:Bool)(ks:List AH)(es:List AZ)(n:Nat)(f:List KC->Option Int):Prop where
 len:es.length=n
 keys: ∀e,e∈es->a1m wide ks e.key
 vals: ∀e,e∈es-> ∃m,e.val= .int .i64 m
 find: ∀k,a7b k es=f k
 nd:es.Pairwise (fun a b=>a.key≠b.key)
structure g2b (wide:Bool)(ks:List AH)(es:List AZ)(keys:List (List KC)):Prop where
 len:keys.length=es.length
 shape: ∀e,e∈es->a1m wide ks e.key
 at': ∀(i:Nat) (e:AZ) (k:List KC),es[i]? =AA e->keys[i]? =AA k->keyOf e.key=AA k
 nd:es.Pairwise (fun a b=>a.key≠b.key)
 born: ∀(i:Nat) (e:AZ),es[i]? =AA e->e.born=i
def a0z (w:AF)(S:Nat->Prop)(ρ:Rho)(b C:Nat):a0f->Prop
 | .var cs=> ∃vs ty,w.heap[b]? =AA (.cells vs ty (0,0))/\vs.size=cs.length/\ ∀(i:Nat) (x:AV) (v:AI),cs[i]? =AA x->vs[i]? =AA v->VR w S ρ x v
 | .arr sz n e=> ∃vs ty,w.heap[b]? =AA (.cells vs ty (0,0))/\vs.size=C*sz/\n<=C/\
    ∀i,i<n->(e i).length=sz/\ ∀(j:Nat) (x:DV) (v:AI),(e i)[j]? =AA x->vs[i*sz+j]? =AA v->DVR w S x v
 | .frz sz n e=>S b/\ ∃vs ty fr,w.heap[b]? =AA (.cells vs ty fr)/\vs.size=C*sz/\n<=C/\
    ∀i,i<n->(e i).length=sz/\ ∀(j:Nat) (x:DV) (v:AI),(e i)[j]? =AA x->vs[i*sz+j]? =AA v->DVR w S x v
 | .map wide ks n f=> ∃es clock,w.heap[b]? =AA (.map es clock)/\g2l wide ks es.toList n f
 | .mapv wide ks keys vals=> ∃es clock,w.heap[b]? =AA (.map es clock)/\g2b wide ks es.toList keys/\(es.size=vals.length/\clock=es.size)/\ ∀(i:Nat) (x:AV) (e:AZ),vals[i]? =AA x->es[i]? =AA e->VR w S ρ x e.val
 | .loop s ts ps code=> ∃r:Loop,w.heap[b]? =AA (.loop r)/\r.state=s.state/\r.pending=s.pend/\r.params.toList=ps/\code r.assign r.body/\
    r.tmps.size=ts.length/\ ∀(i:Nat) (x:AV) (v:AI),ts[i]? =AA x->r.tmps[i]? =AA v->VR w S ρ x v
 | .gone=>S b
 | .arrv vals=> ∃vs ty,w.heap[b]? =AA (.cells vs ty (0,0))/\vs.size=C/\vals.length<=C/\ ∀(i:Nat) (x:AV) (v:AI),vals[i]? =AA x->vs[i]? =AA v->VR w S ρ x v
def c7g (w:AF)(S:Nat->Prop)(ρ:Rho)(ob:Option Nat)(C:Nat)(o:a0f):Prop:=
 match ob with
 |some b=>a0z w S ρ b C o
 |none=>C=0/\ ∃sz e,o= .arr sz 0 e\/o= .frz sz 0 e
structure Sim (w:AF)(S:Nat->Prop)(ρ:Rho)(h:List a0f):Prop where
 sblk: ∀b,S b->b<w.heap.size
 obj: ∀l ob C,ρ l=AA (ob,C)-> ∃o,h[l]? =AA o/\c7g w S ρ ob C o
 inj: ∀l l' b C C',ρ l=AA (AA b,C)->ρ l'=AA (AA b,C')->l=l'
 own: ∀l b C o,ρ l=AA (AA b,C)->h[l]? =AA o->o.frozen=AC-> ¬S b
theorem k3o {a b c:AF}(h:b.tape=a.tape/\a.drawn<=b.drawn)(k:c.tape=b.tape/\b.drawn<=c.drawn):c.tape=a.tape/\a.drawn<=c.drawn:=⟨k.1.trans h.1,AQ h.2 k.2⟩
structure Ext (w:AF)(S:Nat->Prop)(ρ:Rho)(w':AF)(S':Nat->Prop)(ρ':Rho):Prop where
 os:w'.os=w.os
 tape:w'.tape=w.tape/\w.drawn<=w'.drawn
 output:w'.output=w.output
 size:w.heap.size<=w'.heap.size
 mono: ∀b,S b->S' b
 cell: ∀b,S b->w'.heap[b]? =w.heap[b]?
 news: ∀b,S' b->S b\/w.heap.size<=b\/ ∃l C,ρ l=AA (AA b,C)
 frame: ∀b,b<w.heap.size->(∀l C,ρ l≠AA (AA b,C))->w'.heap[b]? =w.heap[b]?
 owned: ∀l b C,ρ' l=AA (AA b,C)->w.heap.size<=b\/ ∃l C,ρ l=AA (AA b,C)
theorem Ext.refl (w:AF)(S:Nat->Prop)(ρ:Rho):Ext w S ρ w S ρ:=
 ⟨rfl,⟨rfl,AN _⟩,rfl,AN _,fun _ h=>h,fun _ _=>rfl,fun _ h=> .inl h,fun _ _ _=>rfl,fun l _ C h=> .inr ⟨l,C,h⟩⟩
theorem Ext.trans {w w' w'':AF}{S S' S'':Nat->Prop}{ρ ρ' ρ'':Rho}(h:Ext w S ρ w' S' ρ')(k:Ext w' S' ρ' w'' S'' ρ''):Ext w S ρ w'' S'' ρ'' where
 os:=k.os.trans h.os
 tape:=⟨k.tape.1.trans h.tape.1,AQ h.tape.2 k.tape.2⟩
 output:=k.output.trans h.output
 size:=AQ h.size k.size
 mono b hb:=k.mono b (h.mono b hb)
 cell b hb:=(k.cell b (h.mono b hb)).trans (h.cell b hb)
 news b hb:=by
  rcases k.news b hb with h1|h1|⟨l,C,h1⟩
  ·exact h.news b h1
  ·exact .inr (.inl (AQ h.size h1))
  ·rcases h.owned l b C h1 with h2|h2
   ·exact .inr (.inl h2)
   ·exact .inr (.inr h2)
 frame b hb hn:=by
  refine (k.frame b (Ah hb h.size) fun l C hl=> ?_).trans (h.frame b hb hn);rcases h.owned l b C hl with h2|⟨l',C',h2⟩
  ·omega
  ·exact hn _ _ h2
 owned l b C hl:=by
  rcases k.owned l b C hl with h1|⟨l',C',h1⟩
  ·exact .inl (AQ h.size h1)
  ·exact h.owned _ _ _ h1
theorem cell?_congr {w w':AF}{b o:Nat}(h:w'.heap[b]? =w.heap[b]?):w'.cell? ⟨b,o,AB⟩=w.cell? ⟨b,o,AB⟩:=by simp only[World.cell?,h]
theorem cell?_of {w:AF}{b o:Nat}{c:Array AI}{ty:AM}{fr:Nat×Nat}(h:w.heap[b]? =AA (.cells c ty fr)):w.cell? ⟨b,o,AB⟩=c[o]? :=by simp[World.cell?,h]
theorem DVR.mono {w w':AF}{S S':Nat->Prop}(hS: ∀b,S b->S' b)(hw: ∀b,S b->w'.heap[b]? =w.heap[b]?){x:DV}{v:AI}(h:DVR w S x v):DVR w' S' x v:=by
 induction h with
 |int k n=>exact .int k n
 |bool b=>exact .bool b
 |str l=>exact .str l
 |nil=>exact .nil
 |raw v h=>exact .raw v h
 |sl0 sz e a cap=>exact .sl0 sz e a cap
 |sl sz n e b off cap f hb hc hl hv _ ih=>refine .sl sz n e b off cap f (fun h=>hS b (hb h)) hc hl (fun i hi j hj=> ?_) ih;rw[cell?_congr (hw b (hb (by omega)))];exact hv i hi j hj
theorem VR.mono {w w':AF}{S S':Nat->Prop}{ρ ρ':Rho}(hS: ∀b,S b->S' b)(hw: ∀b,S b->w'.heap[b]? =w.heap[b]?)
 (hρ: ∀l p,ρ l=AA p->ρ' l=AA p) {x:AV} {v:AI} (h:VR w S ρ x v):VR w' S' ρ' x v:=by
 induction h with
 |d h=>exact .d (h.mono hS hw)
 |any v=>exact .any v
 |und=>exact .und
 |agg cs vs hl _ ih=>exact .agg cs vs hl ih
 |tuple cs vs hl _ ih=>exact .tuple cs vs hl ih
 |ptr l off b C h=>exact .ptr l off b C (hρ _ _ h)
 |aptr l sz i off b C h=>exact .aptr l sz i off b C (hρ _ _ h)
 |dptr row off b base f hb hv hr=>refine .dptr row off b base f (hS b hb) (fun j hj=> ?_) (fun j x hx=>(hr j x hx).mono hS hw);rw[cell?_congr (hw b hb)];exact hv j hj
 |dfs sz n e a h=>exact .dfs sz n e a (h.mono hS hw)
 |msl l sz AX len full ob C cap a h hc hcap ha=>exact .msl l sz AX len full ob C cap a (hρ _ _ h) hc hcap ha
 |vsl l off n b C cap h hc=>exact .vsl l off n b C cap (hρ _ _ h) hc
 |map l b C h=>exact .map l b C (hρ _ _ h)
 |fn f first cap us vs hl1 _ hl _ ih1 ih=>exact .fn f first cap us vs hl1 ih1 hl ih
 |ge m n h=>exact .ge m n h
 |yl l b C h=>exact .yl l b C (hρ _ _ h)
theorem a0z.mono {w w':AF}{S S':Nat->Prop}{ρ ρ':Rho}(hS: ∀b,S b->S' b)(hw: ∀b,S b->w'.heap[b]? =w.heap[b]?)
 (hρ: ∀l p,ρ l=AA p->ρ' l=AA p) {b C:Nat} (hb:w'.heap[b]? =w.heap[b]?) {o:a0f} (h:a0z w S ρ b C o):a0z w' S' ρ' b C o:=by
 cases o with
 |var cs=>obtain⟨vs,ty,h1,h2,h3⟩:=h;exact⟨vs,ty,hb▸h1,h2,fun i x v hx hv=>(h3 i x v hx hv).mono hS hw hρ⟩
 |arr sz n e=>obtain⟨vs,ty,h1,h2,h3,h4⟩:=h;exact⟨vs,ty,hb▸h1,h2,h3,fun i hi=>⟨(h4 i hi).1,fun j x v hx hv=>((h4 i hi).2 j x v hx hv).mono hS hw⟩⟩
 |frz sz n e=>obtain⟨h0,vs,ty,fr,h1,h2,h3,h4⟩:=h;exact⟨hS b h0,vs,ty,fr,hb▸h1,h2,h3,fun i hi=>⟨(h4 i hi).1,fun j x v hx hv=>((h4 i hi).2 j x v hx hv).mono hS hw⟩⟩
 |map wide ks n f=>obtain⟨es,clock,h1,h2⟩:=h;exact⟨es,clock,hb▸h1,h2⟩
 |mapv wide ks keys vals=>obtain⟨es,clock,h1,h2,h3,h4⟩:=h;exact⟨es,clock,hb▸h1,h2,h3,fun i x e hx he=>(h4 i x e hx he).mono hS hw hρ⟩
 |loop s ts ps code=>obtain⟨r,h1,h2,h3,h4,h5,h6,h7⟩:=h;exact⟨r,hb▸h1,h2,h3,h4,h5,h6,fun i x v hx hv=>(h7 i x v hx hv).mono hS hw hρ⟩
 |gone=>exact hS b h
 |arrv vals=>obtain⟨vs,ty,h1,h2,h3,h4⟩:=h;exact⟨vs,ty,hb▸h1,h2,h3,fun i x v hx hv=>(h4 i x v hx hv).mono hS hw hρ⟩
structure St where
 ts:List AV
 h:List a0f
 mv:List Nat
inductive a0h where
 |t (i:Nat)
 |c (v:AV)
inductive Mode where
 |borrow
 |share
 |raw
 |data
 |fresh
 deriving DecidableEq
def d2j (op:Aa)(k:AH)(a b:Int):Int:=
 match op with
 | .and=>k.wrap (AO k.bits a&&&AO k.bits b).toNat
 | .or=>k.wrap (AO k.bits a|||AO k.bits b).toNat
 | .xor=>k.wrap (AO k.bits a^^^AO k.bits b).toNat
 |_=>k.wrap (AO k.bits a&&& ~~~AO k.bits b).toNat
def c2b (op:Aa)(k:AH)(a b:Int):Int:=
 match op with
 | .shl=>k.wrap (a*2^(Al b.toNat k.bits))
 |_=>a.fdiv (2^(Al b.toNat k.bits))
def c6z:Aa->Nat
 | .shl=>1
 | .shr=>1
 | .and=>2
 | .or=>2
 | .xor=>2
 | .andNot=>2
 |_=>0
inductive CK where
 |i (k:AH)
 |o
 deriving DecidableEq
inductive IOp where
 |mv (x:a0h)
 |newnil (sz:Nat)
 |bnew (sz:Nat)
 |pick (c a b:a0h)
 |alloc (zs:List DV)
 |box (x:a0h)
 |build (zs:List DV) (parts:List (Nat×Nat×a0h))
 |bslice (sz len:Nat) (zs:List DV) (parts:List (Nat×a0h)) (mu:Bool)
 |load (agg:Option Nat) (x:a0h)
 |store (sz:Nat) (a x:a0h)
 |nilchk (x:a0h)
 |bin (op:Aa) (x y:a0h)
 |binb (op:Aa) (x y:a0h)
 |aeq (neg:Bool) (ks:List AH) (x y:a0h)
 |un (op:UnOp) (x:a0h)
 |conv (k:AH) (x:a0h)
 |mkfn (f:AU) (first cap:List a0h)
 |mkmap (wide:Bool) (ks:List AH)
 |mkslice (sz:Nat) (zs:List DV) (bytes:Nat) (n:a0h)
 |slice (sz:Nat) (x:a0h) (lo hi mx:Option a0h)
 |slarr (n:Nat) (x:a0h) (lo hi:Option a0h)
 |faddr (off:Nat) (x:a0h)
 |field (off:Nat) (agg:Option Nat) (x:a0h)
 |iaddr (sz:Nat) (x i:a0h)
 |iaddrA (n sz:Nat) (x i:a0h)
 |lookup (wide:Bool) (ks:List AH) (ok:Bool) (m k:a0h)
 |mapupd (wide:Bool) (ks:List AH) (m k x:a0h)
 |extract (x:a0h) (i:Nat)
 |call (f:a0h) (args:List a0h) (m:Mode)
 |len (x:a0h)
 |lenm (x:a0h)
 |cap (x:a0h)
 |min (x y:a0h)
 |append (sz bytes:Nat) (x y:a0h) (mu:Bool)
 |copy (sz:Nat) (x y:a0h)
 |bad
 |appendIn (sz:Nat) (x y:a0h)
 |clear (sz:Nat) (zs:List DV) (x:a0h)
 |isnil (neg:Bool) (x:a0h)
 |slicex (sz:Nat) (x:a0h) (lo hi:Option a0h)
 |idxs (l:List UInt8) (x:a0h)
 |slchk (sz:Nat) (x:a0h) (lo hi mx:Option a0h)
 |ovl (x y:a0h)
 |appendN (sz bytes:Nat) (x y:a0h) (mu:Bool)
 |mkmapv (wide:Bool) (ks:List AH)
 |lookupv (wide:Bool) (ks:List AH) (ok:Bool) (z:AV) (m k:a0h)
 |mapupdv (wide:Bool) (ks:List AH) (m k x:a0h)
 |aeqw (neg:Bool) (ks:List CK) (x y:a0h)
 |max (x y:a0h)
 |bw (op:Aa) (x y:a0h)
 |bsliceP (sz len:Nat) (zs:List DV) (parts:List (Nat×a0h))
 |extractF (x:a0h) (i:Nat)
 |mapent (wide:Bool) (ks:List AH) (z:AV) (m k:a0h)
 |entst (m s x:a0h)
 |appendP (sz bytes:Nat) (x y:a0h)
 |bslice0 (sz:Nat)
 |bnewv
 |appendV (bytes:Nat) (x y:a0h)
 |bnewm (sz:Nat)
structure a1c where
 dst:Option Nat
 guard:Option (Nat×Bool)
 op:IOp
inductive Kl where
 |i|r|a|p|m
 deriving DecidableEq
def IOp.kl:IOp->Kl
 | .mv _=> .i
 | .pick .. => .i
 | .build .. => .i
 | .nilchk _=> .i
 | .bin .. => .i
 | .binb .. => .i
 | .aeq .. => .i
 | .aeqw .. => .i
 | .un .. => .i
 | .conv .. => .i
 | .mkfn .. => .i
 | .slice .. => .i
 | .slarr .. => .i
 | .faddr .. => .i
 | .field .. => .i
 | .iaddr .. => .i
 | .iaddrA .. => .i
 | .extract .. => .i
 | .len _=> .i
 | .min .. => .i
 | .max .. => .i
 | .bw .. => .i
 | .isnil .. => .i
 | .idxs .. => .i
 | .slchk .. => .i
 | .load .. => .r
 | .lookup .. => .r
 | .lookupv .. => .r
 | .lenm _=> .r
 | .alloc _=> .a
 | .bnew _=> .a
 | .box _=> .a
 | .mkslice .. => .a
 | .mkmap .. => .a
 | .mkmapv .. => .a
 | .call _ _ .data=> .p
 | .bsliceP .. => .i
 | .appendP .. => .i
 | .bslice0 _=> .i
 |_=> .m
def a9t:Option a0h->List a0h
 |none=>[]
 |some x=>[x]
def IOp.opds:IOp->List a0h
 | .mv x=>[x]
 | .newnil _=>[]
 | .bnew _=>[]
 | .pick c a b=>[c,a,b]
 | .alloc _=>[]
 | .box x=>[x]
 | .build _ ps=>ps.map (·.2.2)
 | .bslice _ _ _ ps _=>ps.map (·.2)
 | .load _ x=>[x]
 | .store _ a x=>[a,x]
 | .nilchk x=>[x]
 | .bin _ x y=>[x,y]
 | .binb _ x y=>[x,y]
 | .aeq _ _ x y=>[x,y]
 | .aeqw _ _ x y=>[x,y]
 | .un _ x=>[x]
 | .conv _ x=>[x]
 | .mkfn _ l m=>l++m
 | .mkmap .. =>[]
 | .mkslice _ _ _ n=>[n]
 | .slice _ x a b c=>x::(a9t a++a9t b++a9t c)
 | .slarr _ x a b=>x::(a9t a++a9t b)
 | .faddr _ x=>[x]
 | .field _ _ x=>[x]
 | .iaddr _ x y=>[x,y]
 | .iaddrA _ _ x y=>[x,y]
 | .lookup _ _ _ x y=>[x,y]
 | .mapupd _ _ x y z=>[x,y,z]
 | .extract x _=>[x]
 | .call f as _=>f::as
 | .len x=>[x]
 | .lenm x=>[x]
 | .cap x=>[x]
 | .min x y=>[x,y]
 | .max x y=>[x,y]
 | .bw _ x y=>[x,y]
 | .append _ _ x y _=>[x,y]
 | .copy _ x y=>[x,y]
 | .bad=>[]
 | .appendIn _ x y=>[x,y]
 | .clear _ _ x=>[x]
 | .isnil _ x=>[x]
 | .slicex _ x a b=>x::(a9t a++a9t b)
 | .idxs _ x=>[x]
 | .slchk _ x a b c=>x::(a9t a++a9t b++a9t c)
 | .ovl x y=>[x,y]
 | .appendN _ _ x y _=>[x,y]
 | .mkmapv .. =>[]
 | .lookupv _ _ _ _ x y=>[x,y]
 | .mapupdv _ _ x y z=>[x,y,z]
 | .bsliceP _ _ _ ps=>ps.map (·.2)
 | .extractF x _=>[x]
 | .mapent _ _ _ x y=>[x,y]
 | .entst x y z=>[x,y,z]
 | .appendP _ _ x y=>[x,y]
 | .bslice0 _=>[]
 | .bnewv=>[]
 | .bnewm _=>[]
 | .appendV _ x y=>[x,y]
def IOp.at:IOp->Option a0h
 | .load _ x=>AA x
 | .lookup _ _ _ m _=>AA m
 | .lookupv _ _ _ _ m _=>AA m
 | .lenm x=>AA x
 | .store _ a _=>AA a
 |_=>AB
def b2h:List a0h->List Nat
 |[]=>[]
 | .t i::l=>i::b2h l
 | .c _::l=>b2h l
def a1c.uses (o:a1c):List Nat:=
 match o.guard with
 |none=>b2h o.op.opds
 |some (j,_)=>j::b2h o.op.opds
structure a0m where
 o:a1c
 i:Nat
 slot:Nat
 av:List Nat
 bef:List Nat
 alone:Bool
 watch:Bool
inductive a0c where
 |skip
 |ops (l:List a1c)
 |draw (n:Nat) (l:List a0m)
 |seq (a b:a0c)
 |cond (c:a0h) (a b:a0c)
 |block (id:Nat) (c:a0c)
 |loop (c:a0c)
 |range (f:a0h) (params:List Nat) (assign body:a0c)
 |exit (id:Nat)
 |scope (c:a0c)
 |label (l:Nat)
 |ret
structure Sig where
 iadd:Int->Int->Int
 isub:Int->Int->Int
 imul:Int->Int->Int
 iquo:Int->Int->Int
 irem:Int->Int->Int
 iwrap:AH->Int->Int
 ilt:Int->Int->Bool
 ile:Int->Int->Bool
 ieq:Int->Int->Bool
 isel:Bool->Int->Int->Int
 bnot:Bool->Bool
 band:Bool->Bool->Bool
 beq:Bool->Bool->Bool
 bsel:Bool->Bool->Bool->Bool
 ofNat:Nat->Int
 toNat:Int->Nat
 nadd:Nat->Nat->Nat
 nsub:Nat->Nat->Nat
 nmul:Nat->Nat->Nat
 nlt:Nat->Nat->Bool
 inr:AH->Int->Prop
 inb:Int->Nat->Prop
 pnlt:Nat->Nat->Prop
 pnle:Nat->Nat->Prop
 pile:Int->Int->Prop
 nz:Int->Prop
 req:Prop->Prop->Prop
 alln:(Nat->Prop)->Prop
 top:Prop
 upd:(Nat->List DV)->Nat->List DV->Nat->List DV
 app:Nat->(Nat->List DV)->(Nat->List DV)->Nat->List DV
 shift:(Nat->List DV)->Nat->Nat->List DV
 rowsOk:Nat->Nat->(Nat->List DV)->Prop
 put:Nat->Nat->(Nat->List DV)->(Nat->List DV)->Nat->List DV
 rep:Nat->List DV->Nat->List DV
 nmin:Nat->Nat->Nat
 sidx:List UInt8->Int->Int
 ibits:Aa->AH->Int->Int->Int
 ishift:Aa->AH->Int->Int->Int
 mget:(List KC->Option Int)->List KC->Int
 mhas:(List KC->Option Int)->List KC->Bool
 mset:(List KC->Option Int)->List KC->Int->List KC->Option Int
 mcnt:(List KC->Option Int)->List KC->Nat->Nat
 same:AV->AV->Prop
 callb:Bool->AU->List AV->(AV->Prop)->Prop
 calln:AU->List AV->(AV->List a0f->Prop)->Prop
 call:AU->List AV->List a0f->(List Nat->AV->List a0f->Prop)->Prop
 yld:Nat->List AV->List a0f->(List Nat->AV->List a0f->Prop)->Prop
 loop:a0c->(Lv->St->Prop)->St->Prop
 range:a0h->List Nat->a0c->a0c->(Lv->St->Prop)->St->Prop
def a1a {α:Type}:List α->Nat->Option α
 |[],_=>AB
 |x::_,0=>AA x
 |_::l,i+1=>a1a l i
def a2x {α:Type}:List α->Nat->α->List α
 |[],_,_=>[]
 |_::l,0,y=>y::l
 |x::l,i+1,y=>x::a2x l i y
def b0o {α:Type}:List α->Nat->Nat->Option (List α)
 |_,0,0=>AA []
 |[],0,_+1=>AB
 |x::l,0,n+1=>match b0o l 0 n with|some r=>AA (x::r)|none=>AB
 |[],_+1,_=>AB
 |_::l,i+1,n=>b0o l i n
def b7y {α:Type}:List α->Nat->List α->Option (List α)
 |l,0,[]=>AA l
 |[],_,_=>AB
 |_::l,0,y::new=>match b7y l 0 new with|some r=>AA (y::r)|none=>AB
 |x::l,i+1,new=>match b7y l i new with|some r=>AA (x::r)|none=>AB
def b3y {α β:Type}(f:α->β):List α->List β
 |[]=>[]
 |x::l=>f x::b3y f l
def a2u {α:Type}:List α->List α->List α
 |[],m=>m
 |x::l,m=>x::a2u l m
def a3q {α:Type}:List α->Nat
 |[]=>0
 |_::l=>a3q l+1
def opd (ts:List AV):a0h->AV
 | .c v=>v
 | .t i=>match a1a ts i with|some v=>v|none=> .any
def AV.cells:AV->List AV
 | .agg cs=>cs
 |v=>[v]
mutual
def AV.norm:AV->AV
 | .d (.int k n)=> .d (.int k (.v n.val))
 | .agg cs=> .agg (AV.normL cs)
 | .tuple cs=> .tuple (AV.normL cs)
 | .fn f us cs=> .fn f (AV.normL us) (AV.normL cs)
 |v=>v
def AV.normL:List AV->List AV
 |[]=>[]
 |v::l=>v.norm::AV.normL l
end
mutual
def AV.forget (l:Nat)(all:Bool):AV->AV
 | .agg cs=> .agg (AV.forgetL l all cs)
 | .tuple cs=> .tuple (AV.forgetL l all cs)
 | .fn f us cs=> .fn f (AV.forgetL l all us) (AV.forgetL l all cs)
 | .ptr m off=>if (if all then AT l m else AD l m) then .any else .ptr m off
 | .aptr m sz i off=>if (if all then AT l m else AD l m) then .any else .aptr m sz i off
 | .msl m sz s n f=>if (if all then AT l m else AD l m) then .any else .msl m sz s n f
 | .vsl m off n=>if (if all then AT l m else AD l m) then .any else .vsl m off n
 | .map m=>if (if all then AT l m else AD l m) then .any else .map m
 | .yl m=>if (if all then AT l m else AD l m) then .any else .yl m
 |v=>v
def AV.forgetL (l:Nat)(all:Bool):List AV->List AV
 |[]=>[]
 |v::r=>v.forget l all::AV.forgetL l all r
end
mutual
def AV.shift (k:Nat):AV->AV
 | .agg cs=> .agg (AV.shiftL k cs)
 | .tuple cs=> .tuple (AV.shiftL k cs)
 | .fn f us cs=> .fn f (AV.shiftL k us) (AV.shiftL k cs)
 | .ptr m off=> .ptr (k+m) off
 | .aptr m sz i off=> .aptr (k+m) sz i off
 | .msl m sz s n f=> .msl (k+m) sz s n f
 | .vsl m off n=> .vsl (k+m) off n
 | .map m=> .map (k+m)
 | .yl m=> .yl (k+m)
 |v=>v
def AV.shiftL (k:Nat):List AV->List AV
 |[]=>[]
 |v::r=>v.shift k::AV.shiftL k r
end
def a0f.shift (k:Nat):a0f->a0f
 | .var cs=> .var (AV.shiftL k cs)
 | .mapv wide ks keys vals=> .mapv wide ks keys (AV.shiftL k vals)
 | .arrv vals=> .arrv (AV.shiftL k vals)
 | .loop s ts ps code=> .loop s (AV.shiftL k ts) ps code
 |o=>o
def a9s (k:Nat):List a0f->List a0f
 |[]=>[]
 |o::r=>o.shift k::a9s k r
def a0f.forget (l:Nat)(all:Bool):a0f->a0f
 | .var cs=> .var (AV.forgetL l all cs)
 | .mapv wide ks keys vals=> .mapv wide ks keys (AV.forgetL l all vals)
 | .arrv vals=> .arrv (AV.forgetL l all vals)
 | .loop s ts ps code=> .loop s (AV.forgetL l all ts) ps code
 |o=>o
def a2n (l:Nat)(all:Bool):List a0f->List a0f
 |[]=>[]
 |o::r=>o.forget l all::a2n l all r
def St.purge (st:St):List Nat->St
 |[]=>st
 |l::pg=>St.purge ⟨AV.forgetL l AC st.ts,st.h,l::st.mv⟩ pg
def St.put (st:St)(dst:Option Nat)(v:AV):St:=
 match dst with
 |none=>st
 |some d=>⟨a2x st.ts d v,st.h,st.mv⟩
def St.setH (st:St)(h:List a0f):St:=⟨st.ts,h,st.mv⟩
def AV.one:AV->Bool
 | .und=>AC
 | .any=>AC
 | .agg _=>AC
 | .tuple _=>AC
 |_=>AJ
def b5z:List AV->Bool
 |[]=>AJ
 |v::l=>if v.one then b5z l else AC
def b1j (k:List KC):List (List KC)->List AV->Option AV
 |k'::ks,v::vs=>if k'=k then AA v else b1j k ks vs
 |_,_=>AB
def c7m (k:List KC)(x:AV):List (List KC)->List AV->Option (List AV)
 |k'::ks,v::vs=>if k'=k then AA (x::vs) else match c7m k x ks vs with|some l=>AA (v::l)|none=>AB
 |_,_=>AB
def c9t (k:List KC):List (List KC)->Nat->Option Nat
 |[],_=>AB
 |k'::ks,n=>if k'=k then AA n else c9t k ks (n+1)
section
variable (S:Sig)
def b8h (e:Nat->List DV):Option Nat->Nat->List DV
 |none=>e
 |some s=>S.shift e s
def c8f:Option Nat->Nat->Nat
 |none,n=>n
 |some s,n=>S.nadd s n
def b3s (h:List a0f)(v:AV)(K:Nat->Nat->(Nat->List DV)->Prop):Prop:=
 match v with
 | .d (.sl sz n e)=>K sz n e
 | .dfs sz n e=>K sz n e
 | .msl l sz s n _=>match a1a h l with
   |some (.arr sz' m e)=>if AD sz sz' then S.req (S.pnle (c8f S s n) m) (K sz n (b8h S e s)) else False
   |some (.frz sz' m e)=>if AD sz sz' then S.req (S.pnle (c8f S s n) m) (K sz n (b8h S e s)) else False
   |_=>False
 |_=>False
def dvs:List AV->Option (List DV)
 |[]=>AA []
 | .d x::r=>match dvs r with|some l=>AA (x::l)|none=>AB
 | .fn f [] []::r=>match dvs r with|some l=>AA (.raw (.func (.func f) #[] #[])::l)|none=>AB
 |_::_=>AB
def d9t:List (List AV)->Option (List (List DV))
 |[]=>AA []
 |r::rs=>match dvs r,d9t rs with
  |some l,AA ls=>AA (l::ls)
  |_,_=>AB
def d9s:AV->AV
 | .d (.raw (.func (.func f) us vs))=>if AD us.size 0&&AD vs.size 0 then .fn f [] [] else .any
 |v=>v
def rowAt:List (List DV)->Nat->List DV
 |[],_=>[]
 |r::_,0=>r
 |_::rs,i+1=>rowAt rs i
def c7s (h:List a0f)(v:AV)(K:AV->Prop):Prop:=
 match v with
 | .vsl l off n=>match a1a h l with
   |some (.var cs)=>match b0o cs off n with
    |some c=>match dvs c with
     |some ds=>K (.d (.sl 1 n (rowAt (b3y (fun x=>[x]) ds))))
     |none=>False
    |none=>False
   |_=>False
 | .msl .. =>b3s S h v fun sz n e=>K (.d (.sl sz n e))
 | .dfs sz n e=>K (.d (.sl sz n e))
 |v=>K v
def c5a (h:List a0f)(vs:List AV)(K:List AV->Prop):Prop:=
 match vs with
 |[]=>K []
 |v::r=>c7s S h v fun v'=>c5a h r fun r'=>K (v'::r')
def b0n (h:List a0f)(vs:List AV)(K:List AV->Prop):Prop:=
 match vs with
 |[]=>K []
 | .agg cs::r=>c5a S h cs fun cs'=>b0n h r fun r'=>K (.agg cs'::r')
 |v::r=>c7s S h v fun v'=>b0n h r fun r'=>K (v'::r')
def a2m (h:List a0f)(v:AV)(K:AV->List a0f->Prop):Prop:=
 match v with
 | .msl l sz s n f=>b3s S h (.msl l sz s n f) fun sz n e=>match a1a h l with
   |some (.arr sz' m e')=>K (.d (.sl sz n e)) (a2x h l (.frz sz' m e'))
   |_=>K (.d (.sl sz n e)) h
 | .dfs sz n e=>K (.d (.sl sz n e)) h
 |v=>K v h
def a3t (h:List a0f)(vs:List AV)(K:List AV->List a0f->Prop):Prop:=
 match vs with
 |[]=>K [] h
 |v::r=>a2m S h v fun v' h'=>a3t h' r fun r' h''=>K (v'::r') h''
def a2p (h:List a0f)(l:Nat)(K:AV->List a0f->Prop):Prop:=
 match a1a h l with
 |some (.var cs)=>a3t S h cs fun cs' h'=>match dvs cs' with
  |some row=>K (.dptr row 0) (a2x h' l .gone)
  |none=>False
 |_=>False
def a1w (h:List a0f)(vs:List AV)(K:List AV->List a0f->Prop):Prop:=
 match vs with
 |[]=>K [] h
 | .agg cs::r=>a3t S h cs fun cs' h'=>a1w h' r fun r' h''=>K (.agg cs'::r') h''
 | .ptr l 0::r=>a2p S h l fun v' h'=>a1w h' r fun r' h''=>K (v'::r') h''
 |v::r=>a2m S h v fun v' h'=>a1w h' r fun r' h''=>K (v'::r') h''
def b0p (h:List a0f)(v:AV)(K:List DV->List a0f->Prop):Prop:=
 a3t S h v.cells fun cs h'=>match dvs cs with|some l=>K l h'|none=>False
def d0v (op:Aa)(k:AH)(x y:IX)(K:DV->Prop):Prop:=
 match op with
 | .add=>match x,y with
   | .l a,.l b=>S.req (S.inr k (a+b)) (K (.int k (.l (a+b))))
   |x,y=>S.req (S.inr k (S.iadd x.val y.val)) (K (.int k (.v (S.iadd x.val y.val))))
 | .sub=>match x,y with
   | .l a,.l b=>S.req (S.inr k (a-b)) (K (.int k (.l (a-b))))
   |x,y=>S.req (S.inr k (S.isub x.val y.val)) (K (.int k (.v (S.isub x.val y.val))))
 | .mul=>S.req (S.inr k (S.imul x.val y.val)) (K (.int k (.v (S.imul x.val y.val))))
 | .quo=>S.req (S.nz y.val) (S.req (S.inr k (S.iquo x.val y.val)) (K (.int k (.v (S.iquo x.val y.val)))))
 | .rem=>S.req (S.nz y.val) (K (.int k (.v (S.irem x.val y.val))))
 | .eql=>match x,y with
   | .l a,.l b=>K (.bool (Int.beq' a b))
   |x,y=>K (.bool (S.ieq x.val y.val))
 | .neq=>match x,y with
   | .l a,.l b=>K (.bool (Bool.not (Int.beq' a b)))
   |x,y=>K (.bool (S.bnot (S.ieq x.val y.val)))
 | .lss=>K (.bool (S.ilt x.val y.val))
 | .gtr=>K (.bool (S.ilt y.val x.val))
 | .leq=>K (.bool (S.ile x.val y.val))
 | .geq=>K (.bool (S.ile y.val x.val))
 |_=>False
def bwI (op:Aa)(k k':AH)(a b:Int)(K:Int->Prop):Prop:=
 match c6z op with
 |1=>S.req (S.pile 0 b) (K (S.ishift op k a b))
 |2=>if k=k' then K (S.ibits op k a b) else False
 |_=>False
def d9q:List AH->List AV->List AV->Option Bool
 |[],[],[]=>AA AJ
 |k::ks,.d (.int k1 x)::xs,.d (.int k2 y)::ys=>if k=k1 then (if k=k2 then match d9q ks xs ys with
  |some b=>AA (S.band (S.ieq x.val y.val) b)
  |none=>AB else AB) else AB
 |_,_,_=>AB
def c6a:List CK->List AV->List AV->Option Bool
 |[],[],[]=>AA AJ
 | .i k::ks,.d (.int k1 x)::xs,.d (.int k2 y)::ys=>if k=k1 then (if k=k2 then match c6a ks xs ys with
   |some b=>AA (S.band (S.ieq x.val y.val) b)
   |none=>AB else AB) else AB
 | .o::ks,.d (.bool x)::xs,.d (.bool y)::ys=>match c6a ks xs ys with
   |some b=>AA (S.band (S.beq x y) b)
   |none=>AB
 |_,_,_=>AB
def a4f:List AH->List AV->(List KC->Prop)->Prop
 |[],[],K=>K []
 |k::ks,.d (.int k' x)::xs,K=>if k=k' then S.req (S.inr k x.val) (a4f ks xs fun l=>K (.i x.val::l)) else False
 |_,_,_=>False
def a2z (wide:Bool)(ks:List AH)(v:AV)(K:List KC->Prop):Prop:=
 match v with
 | .agg cs=>if wide then a4f S ks cs K else False
 |v=>if wide then False else a4f S ks [v] K
def e0h:AV->(Bool->Prop)->Prop
 | .d (.bool b),K=>K b
 |_,_=>False
def a9r:AV->(IX->Prop)->Prop
 | .d (.int .i64 n),K=>K n
 |_,_=>False
def b2j (ts:List AV):List a0h->List AV
 |[]=>[]
 |x::l=>opd ts x::b2j ts l
def b2r (ts:List AV):List AV->List (Nat×Nat×a0h)->Option (List AV)
 |cs,[]=>AA cs
 |cs,(off,sz,x)::r=>if AD (a3q (opd ts x).cells) sz&&b5z (opd ts x).cells then match b7y cs off (opd ts x).cells with
    |some cs'=>b2r ts cs' r
    |none=>AB
  else AB
def a8q (ts:List AV)(sz:Nat):List (List AV)->List (Nat×a0h)->Option (List (List AV))
 |rs,[]=>AA rs
 |rs,(i,x)::r=>if AD (a3q (opd ts x).cells) sz&&b5z (opd ts x).cells then match a1a rs i with
    |some _=>a8q ts sz (a2x rs i (opd ts x).cells) r
    |none=>AB
  else AB
def b8q {α:Type}(x:α):Nat->List α
 |0=>[]
 |n+1=>x::b8q x n
def a4s (h:List a0f)(rs:List (List AV))(K:List (List DV)->List a0f->Prop):Prop:=
 match rs with
 |[]=>K [] h
 |r::rs=>a3t S h r fun cs h'=>match dvs cs with
  |some l=>a4s h' rs fun ls h''=>K (l::ls) h''
  |none=>False
def a8i (row:List DV)(off:Nat)(agg:Option Nat)(K:AV->Prop):Prop:=
 match agg with
 |none=>match a1a row off with|some v=>K (.d v)|none=>False
 |some m=>match b0o row off m with|some c=>K (.agg (b3y .d c))|none=>False
def a8s (h:List a0f)(p:AV)(agg:Option Nat)(K:AV->Prop):Prop:=
 match p with
 | .ptr l off=>match a1a h l with
   |some (.var cs)=>match agg with
    |none=>match a1a cs off with|some v=>K v|none=>False
    |some n=>match b0o cs off n with|some c=>K (.agg c)|none=>False
   |_=>False
 | .aptr l sz i off=>match a1a h l with
   |some (.arr sz' n e)=>if AD sz sz' then S.req (S.pnlt i n) (a8i (e i) off agg K) else False
   |some (.frz sz' n e)=>if AD sz sz' then S.req (S.pnlt i n) (a8i (e i) off agg K) else False
   |some (.arrv vals)=>if AD sz 1&&AD off 0 then match agg with
    |none=>match a1a vals i with|some v=>K v|none=>False
    |some _=>False
    else False
   |_=>False
 | .dptr row off=>a8i row off agg K
 |_=>False
def h9m:Option a0f->Option (List AV)
 |some (.arrv vals)=>AA vals
 |_=>AB
def a6o (h:List a0f)(p v:AV)(sz:Nat)(K:List a0f->Prop):Prop:=
 match p with
 | .ptr l off=>if AD (a3q v.cells) sz&&b5z v.cells then match a1a h l with
   |some (.var cs)=>match b7y cs off v.cells with|some cs'=>K (a2x h l (.var cs'))|none=>False
   |_=>False
   else False
 | .aptr l sz' i off=>if AD (a3q v.cells) sz&&b5z v.cells then match h9m (a1a h l) with
   |some vals=>if AD sz' 1&&AD off 0&&AD sz 1 then match a1a v.cells 0 with
    |some x=>S.req (S.pnlt i (a3q vals)) (K (a2x h l (.arrv (a2x vals i x))))
    |none=>False
    else False
   |none=>b0p S h v fun new h'=>match a1a h' l with
   |some (.arr sz'' n e)=>if AD sz' sz'' then S.req (S.pnlt i n) (match b7y (e i) off new with
     |some row=>K (a2x h' l (.arr sz'' n (S.upd e i row)))
     |none=>False) else False
   |_=>False
   else False
 |_=>False
def AV.free:AV->Bool
 | .d _=>AJ
 | .dfs .. =>AJ
 | .dptr .. =>AJ
 | .fn _ [] []=>AJ
 |_=>AC
def a3z:List AV->Bool
 |[]=>AJ
 | .agg cs::l=>if frees1 cs then a3z l else AC
 |v::l=>if v.free then a3z l else AC
where frees1:List AV->Bool
 |[]=>AJ
 |v::l=>if v.free then frees1 l else AC
def AV.isPtr:AV->Bool
 | .ptr .. =>AJ
 | .aptr .. =>AJ
 | .dptr .. =>AJ
 |_=>AC
def big:Nat:=1073741824
def b0u (ts:List AV)(x:Option a0h)(d:IX)(K:IX->Prop):Prop:=
 match x with
 |none=>K d
 |some o=>a9r (opd ts o) K
def nat (S:Sig):IX->Nat
 | .v n=>S.toNat n
 | .l n=>n.toNat
def a6q (s:Option Nat)(lo:IX):Option Nat:=
 match lo with
 | .l 0=>s
 |lo=>match s with
  |none=>AA (nat S lo)
  |some t=>AA (S.nadd t (nat S lo))
def shiftL (e:Nat->List DV)(lo:IX):Nat->List DV:=
 match lo with
 | .l 0=>e
 |lo=>S.shift e (nat S lo)
def a1d (ts:List AV)(sz:Nat)(x:AV)(lo hi mx:Option a0h)(K:AV->Prop):Prop:=
 match x with
 | .msl l sz' s n f=>if AD sz sz' then
    b0u ts lo (.l 0) fun lo=>b0u ts hi (.v (S.ofNat n)) fun hi=>
     S.req (S.pile 0 lo.val) (S.req (S.pile lo.val hi.val) (S.req (S.pile hi.val (S.ofNat n)) (
      match mx with
      |none=>if f then S.req (hi.val=S.ofNat n) (K (.msl l sz (a6q S s lo) (S.nsub (nat S hi) (nat S lo)) AJ)) else K (.msl l sz (a6q S s lo) (S.nsub (nat S hi) (nat S lo)) AC)
      |some m=>a9r (opd ts m) fun m=>S.req (m.val=hi.val) (K (.msl l sz (a6q S s lo) (S.nsub (nat S hi) (nat S lo)) AJ)))))
   else False
 | .d (.sl sz' n e)=>if AD sz sz' then
    b0u ts lo (.l 0) fun lo=>b0u ts hi (.v (S.ofNat n)) fun hi=>
     S.req (S.pile 0 lo.val) (S.req (S.pile lo.val hi.val) (S.req (S.pile hi.val (S.ofNat n)) (
      match mx with
      |none=>K (.d (.sl sz (S.nsub (nat S hi) (nat S lo)) (shiftL S e lo)))
      |some m=>a9r (opd ts m) fun m=>S.req (m.val=hi.val) (K (.dfs sz (S.nsub (nat S hi) (nat S lo)) (shiftL S e lo))))))
   else False
 | .d .nil=>b0u ts lo (.l 0) fun lo=>b0u ts hi (.l 0) fun hi=>S.req (lo.val=0) (S.req (hi.val=0) (match mx with
    |none=>K (.d .nil)
    |some m=>a9r (opd ts m) fun m=>S.req (m.val=0) (K (.d .nil))))
 |_=>False
def idx (i:IX)(n:Nat)(K:Nat->Prop):Prop:=S.req (S.inb i.val n) (K (nat S i))
def a2l (sz:Nat)(x:AV)(i:IX)(K:AV->Prop):Prop:=
 match x with
 | .msl l sz' s n _=>if AD sz sz' then idx S i n fun j=>K (.aptr l sz (c8f S s j) 0) else False
 | .d (.sl sz' n e)=>if AD sz sz' then idx S i n fun j=>K (.dptr (e j) 0) else False
 | .dfs sz' n e=>if AD sz sz' then idx S i n fun j=>K (.dptr (e j) 0) else False
 |_=>False
def a8b (sz:Nat)(h:List a0f)(v:AV)(K:Nat->Nat->(Nat->List DV)->Prop):Prop:=
 match v with
 | .d .nil=>K sz 0 fun _=>[]
 | .d (.raw (.slice _ 0 _))=>K sz 0 fun _=>[]
 |v=>b3s S h v K
def a2g (h:List a0f)(sz:Nat)(x y:AV)(mu:Bool)(K:AV->List a0f->List Nat->Prop):Prop:=
 a8b S sz h y fun sz2 m e2=>if AD sz sz2 then (
  match x with
  | .d .nil=>S.req (S.pnle m big) (if mu then K (.msl (a3q h) sz AB m AC) (a2u h [.arr sz m e2]) [] else K (.d (.sl sz m e2)) h [])
  | .dfs sz' n e=>if AD sz sz' then S.req (S.pnle (S.nadd n m) big) (S.req (S.pnlt 0 m) (
     if mu then K (.msl (a3q h) sz AB (S.nadd n m) AC) (a2u h [.arr sz (S.nadd n m) (S.app n e e2)]) []
     else K (.d (.sl sz (S.nadd n m) (S.app n e e2))) h [])) else False
  | .msl l sz' AB n AC=>if AD sz sz' then match a1a h l with
     |some (.arr sz'' n' e)=>if AD sz sz'' then S.req (n'=n) (S.req (S.pnle (S.nadd n m) big)
       (K (.msl l sz AB (S.nadd n m) AC) (a2n l AC (a2x h l (.arr sz (S.nadd n m) (S.app n e e2)))) [l])) else False
     |_=>False else False
  | .msl l sz' s n AJ=>if AD sz sz' then b3s S h (.msl l sz' s n AJ) fun _ n e=>S.req (S.pnle (S.nadd n m) big) (S.req (S.pnlt 0 m) (
     if mu then K (.msl (a3q h) sz AB (S.nadd n m) AC) (a2u h [.arr sz (S.nadd n m) (S.app n e e2)]) []
     else K (.d (.sl sz (S.nadd n m) (S.app n e e2))) h [])) else False
  |_=>False) else False
def a4d:AV->Bool
 | .d .nil=>AJ
 | .d (.sl _ 0 _)=>AJ
 | .dfs _ 0 _=>AJ
 | .msl _ _ _ 0 _=>AJ
 |_=>AC
def f7l (n:Nat):Option Nat->Nat
 |none=>n
 |some s=>S.nsub n s
def c2c:Option Nat->Nat
 |none=>0
 |some s=>s
def a4o (h:List a0f)(sz:Nat)(x y:AV)(K:AV->List a0f->Prop):Prop:=
 a8b S sz h y fun sz2 m e2=>if AD sz sz2 then (
  match x with
  | .msl l sz' s n AC=>if AD sz sz' then match a1a h l with
     |some (.arr sz'' n' e)=>if AD sz sz'' then S.req (S.pnle (S.nadd (c8f S s n) m) n') (
       K (.msl l sz s (S.nadd n m) AC) (a2x h l (.arr sz n' (S.put (c8f S s n) m e e2)))) else False
     |_=>False else False
  |_=>False) else False
def b2m (e:Nat->List DV):Nat->Option (List AV)
 |0=>AA []
 |k+1=>match b2m e k with
  |some l=>match e k with
   |[x]=>AA (a2u l [.d x])
   |_=>AB
  |none=>AB
def a5z (h:List a0f)(sz:Nat)(x y:AV)(K:AV->List a0f->Prop):Prop:=
 a8b S sz h y fun sz2 m e2=>if AD sz sz2 then (
  match x with
  | .msl l sz' s n _=>if AD sz sz' then match a1a h l with
     |some (.arr sz'' n' e)=>if AD sz sz'' then S.req (S.pnle (c8f S s n) n') (
       K (.d (.int .i64 (.v (S.ofNat (S.nmin n m))))) (a2x h l (.arr sz n' (S.put (c2c s) (S.nmin n m) e e2)))) else False
     |_=>False else False
  | .vsl l off n=>if AD sz 1 then match a1a h l with
     |some (.var cs)=>match b2m e2 (S.nmin n m) with
      |some new=>match b7y cs off new with
       |some cs'=>K (.d (.int .i64 (.v (S.ofNat (S.nmin n m))))) (a2x h l (.var cs'))
       |none=>False
      |none=>False
     |_=>False else False
  |_=>False) else False
def h9v (h:List a0f)(y:AV)(K:List AV->Prop):Prop:=
 match y with
 | .d .nil=>K []
 | .d (.sl 1 n e)=>match b2m e n with|some l=>K l|none=>False
 | .msl l 1 s n _=>match a1a h l with
   |some (.arrv vals)=>match b0o vals (c2c s) n with|some c=>K c|none=>False
   |_=>False
 |_=>False
def h4i (h:List a0f)(x y:AV)(K:AV->List a0f->List Nat->Prop):Prop:=
 h9v h y fun new=>match x with
  | .msl l 1 AB n AC=>match a1a h l with
    |some (.arrv vals)=>S.req (a3q vals=n) (S.req (S.pnle (S.nadd n (a3q new)) big) (S.req (b5z new=AJ)
      (K (.msl l 1 AB (S.nadd n (a3q new)) AC) (a2n l AC (a2x h l (.arrv (a2u vals new)))) [l])))
    |_=>False
  |_=>False
def a4h (ts:List AV)(sz sz' n:Nat)(lo hi mx:Option a0h)(K:Prop):Prop:=
 if AD sz sz' then b0u ts lo (.l 0) fun lo=>b0u ts hi (.v (S.ofNat n)) fun hi=>b0u ts mx (.v (S.ofNat n)) fun mx=>
  S.req (S.pile 0 lo.val) (S.req (S.pile lo.val hi.val) (S.req (S.pile hi.val mx.val) (S.req (S.pile mx.val (S.ofNat n)) K))) else False
def a0a (o:IOp)(st:St)(K:AV->List a0f->List Nat->Prop):Prop:=
 match o with
 | .mv x=>K (opd st.ts x) st.h []
 | .newnil sz=>K (.msl (a3q st.h) sz AB 0 AC) (a2u st.h [.arr sz 0 fun _=>[]]) []
 | .bnew sz=>K (.msl (a3q st.h) sz AB 0 AC) (a2u st.h [.arr sz 0 fun _=>[]]) []
 | .pick c a b=>e0h (opd st.ts c) fun
   |true=>K (opd st.ts a) st.h []
   |false=>K (opd st.ts b) st.h []
 | .alloc zs=>K (.ptr (a3q st.h) 0) (a2u st.h [.var (b3y .d zs)]) []
 | .box x=>if b5z (opd st.ts x).cells then K (.ptr (a3q st.h) 0) (a2u st.h [.var (opd st.ts x).cells]) [] else False
 | .build zs ps=>match b2r st.ts (b3y .d zs) ps with|some cs=>K (.agg cs) st.h []|none=>False
 | .bslice sz len zs ps mu=>match a8q st.ts sz (b8q (b3y .d zs) len) ps with
   |some rs=>a4s S st.h rs fun rows h'=>
     if mu then K (.msl (a3q h') sz AB len AC) (a2u h' [.arr sz len (rowAt rows)]) [] else K (.d (.sl sz len (rowAt rows))) h' []
   |none=>False
 | .load agg x=>a8s S st.h (opd st.ts x) agg fun v=>K v st.h []
 | .store sz a x=>a6o S st.h (opd st.ts a) (opd st.ts x) sz fun h'=>K (.und) h' []
 | .nilchk x=>if (opd st.ts x).isPtr then K (opd st.ts x) st.h [] else False
 | .bin op x y=>match opd st.ts x,opd st.ts y with
   | .d (.int k a),.d (.int k' b)=>if k=k' then d0v S op k a b fun v=>K (.d v) st.h [] else False
   | .d (.int .i64 a),.ge m=>match op with
     | .gtr=>S.req (S.pile a.val (S.ofNat m)) (K (.d (.bool AC)) st.h [])
     |_=>False
   |_,_=>False
 | .binb op x y=>match opd st.ts x,opd st.ts y with
   | .d (.bool a),.d (.bool b)=>match op with
     | .eql=>K (.d (.bool (S.beq a b))) st.h []
     | .neq=>K (.d (.bool (S.bnot (S.beq a b)))) st.h []
     |_=>False
   |_,_=>False
 | .aeq neg ks x y=>match opd st.ts x,opd st.ts y with
   | .agg xs,.agg ys=>match d9q S ks xs ys with
     |some b=>K (.d (.bool (if neg then S.bnot b else b))) st.h []
     |none=>False
   |_,_=>False
 | .un op x=>match op,opd st.ts x with
   | .not,.d (.bool AJ)=>K (.d (.bool AC)) st.h []
   | .not,.d (.bool AC)=>K (.d (.bool AJ)) st.h []
   | .neg,.d (.int k n)=>S.req (S.inr k (S.isub 0 n.val)) (K (.d (.int k (.v (S.isub 0 n.val)))) st.h [])
   |_,_=>False
 | .conv k x=>match opd st.ts x with
   | .d (.int _ n)=>K (.d (.int k (.v (S.iwrap k n.val)))) st.h []
   |_=>False
 | .mkfn f first cap=>K (.fn f (b2j st.ts first) (b2j st.ts cap)) st.h []
 | .mkmap wide ks=>K (.map (a3q st.h)) (a2u st.h [.map wide ks 0 fun _=>AB]) []
 | .mkslice sz zs _ n=>a9r (opd st.ts n) fun n=>S.req (S.pile 0 n.val) (S.req (S.pile n.val (S.ofNat big))
    (K (.msl (a3q st.h) sz AB (nat S n) AC) (a2u st.h [.arr sz (nat S n) (S.rep (nat S n) zs)]) []))
 | .slice sz x lo hi mx=>a1d S st.ts sz (opd st.ts x) lo hi mx fun v=>K v st.h []
 | .slarr n x lo hi=>match opd st.ts x with
   | .ptr l off=>b0u st.ts lo (.l 0) fun lo=>b0u st.ts hi (.l n) fun hi=>
      S.req (S.pile 0 lo.val) (S.req (S.pile lo.val hi.val) (S.req (S.pile hi.val (S.ofNat n)) (match S.nsub (nat S hi) (nat S lo) with
       |0=>K (.d (.sl 1 0 fun _=>[])) st.h []
       |m+1=>K (.vsl l (S.nadd off (nat S lo)) (m+1)) st.h [])))
   |_=>False
 | .faddr off x=>match opd st.ts x with
   | .ptr l o=>K (.ptr l (o+off)) st.h []
   | .aptr l sz i o=>K (.aptr l sz i (o+off)) st.h []
   | .dptr row o=>K (.dptr row (o+off)) st.h []
   |_=>False
 | .field off agg x=>match opd st.ts x with
   | .agg cs=>match agg with
     |none=>match a1a cs off with|some v=>K v st.h []|none=>False
     |some n=>match b0o cs off n with|some c=>K (.agg c) st.h []|none=>False
   |_=>False
 | .iaddr sz x i=>a9r (opd st.ts i) fun i=>a2l S sz (opd st.ts x) i fun v=>K v st.h []
 | .iaddrA n sz x i=>a9r (opd st.ts i) fun i=>match opd st.ts x with
   | .ptr l off=>match i with
     | .l i=>if Ae i.toNat n&&Int.beq' (Int.ofNat i.toNat) i then K (.ptr l (off+i.toNat*sz)) st.h [] else False
     | .v i=>S.req (S.inb i n) (K (.ptr l (S.nadd off (S.nmul (S.toNat i) sz))) st.h [])
   |_=>False
 | .lookup wide ks ok m k=>match opd st.ts m with
   | .map l=>match a1a st.h l with
     |some (.map wide' ks' _ f)=>if wide=wide'/\ks=ks' then a2z S wide ks (opd st.ts k) fun kc=>
       if ok then K (.tuple [.d (.int .i64 (.v (S.mget f kc))),.d (.bool (S.mhas f kc))]) st.h [] else K (.d (.int .i64 (.v (S.mget f kc)))) st.h [] else False
     |_=>False
   |_=>False
 | .mapupd wide ks m k x=>match opd st.ts m with
   | .map l=>match a1a st.h l with
     |some (.map wide' ks' n f)=>if wide=wide'/\ks=ks' then a2z S wide ks (opd st.ts k) fun kc=>
       a9r (opd st.ts x) fun x=>K .und (a2x st.h l (.map wide ks (S.mcnt f kc n) (S.mset f kc x.val))) [] else False
     |_=>False
   |_=>False
 | .extract x i=>match opd st.ts x with
   | .tuple vs=>match a1a vs i with|some v=>K v st.h []|none=>False
   |_=>False
 | .call f args m=>match d9s (opd st.ts f) with
   | .fn f first cap=>match m with
     | .borrow=>b0n S st.h (a2u first (a2u (b2j st.ts args) cap)) fun vs=>if a3z vs then S.callb AJ f (AV.normL vs) fun v=>K v st.h [] else False
     | .share=>a1w S st.h (a2u first (a2u (b2j st.ts args) cap)) fun vs h'=>if a3z vs then S.callb AC f (AV.normL vs) fun v=>K v h' [] else False
     | .data=>if a3z (a2u first (a2u (b2j st.ts args) cap)) then S.callb AC f (AV.normL (a2u first (a2u (b2j st.ts args) cap))) fun v=>K v st.h [] else False
     | .fresh=>a1w S st.h (a2u first (a2u (b2j st.ts args) cap)) fun vs h'=>if a3z vs then
        S.calln f (AV.normL vs) fun x os=>K (x.shift (a3q h')) (a2u h' (a9s (a3q h') os)) [] else False
     | .raw=>S.call f (AV.normL (a2u first (a2u (b2j st.ts args) cap))) st.h fun pg v h''=>K v h'' pg
   | .yl l=>if m= .raw then S.yld l (AV.normL (b2j st.ts args)) st.h fun pg v h''=>K v h'' pg else False
   |_=>False
 | .len x=>match opd st.ts x with
   | .d .nil=>K (.d (.int .i64 (.l 0))) st.h []
   | .d (.sl _ n _)=>K (.d (.int .i64 (.v (S.ofNat n)))) st.h []
   | .dfs _ n _=>K (.d (.int .i64 (.v (S.ofNat n)))) st.h []
   | .msl _ _ _ n _=>K (.d (.int .i64 (.v (S.ofNat n)))) st.h []
   | .vsl _ _ n=>K (.d (.int .i64 (.v (S.ofNat n)))) st.h []
   |_=>False
 | .lenm x=>match opd st.ts x with
   | .map l=>match a1a st.h l with
     |some (.map _ _ n _)=>K (.d (.int .i64 (.v (S.ofNat n)))) st.h []
     |_=>False
   |_=>False
 | .cap x=>match opd st.ts x with
   | .msl l sz s n f=>match a1a st.h l with
     |some (.arr sz' m _)=>if AD sz sz' then (if f then K (.d (.int .i64 (.v (S.ofNat n)))) st.h []
       else K (.ge (f7l S m s)) st.h []) else False
     |_=>False
   |_=>False
 | .min x y=>match opd st.ts x,opd st.ts y with
   | .d (.int k a),.d (.int k' b)=>if k=k' then K (.d (.int k (.v (S.isel (S.ilt b.val a.val) b.val a.val)))) st.h [] else False
   |_,_=>False
 | .bw op x y=>match opd st.ts x,opd st.ts y with
   | .d (.int k a),.d (.int k' b)=>bwI S op k k' a.val b.val fun n=>K (.d (.int k (.v n))) st.h []
   |_,_=>False
 | .max x y=>match opd st.ts x,opd st.ts y with
   | .d (.int k a),.d (.int k' b)=>if k=k' then K (.d (.int k (.v (S.isel (S.ilt a.val b.val) b.val a.val)))) st.h [] else False
   |_,_=>False
 | .append sz _ x y mu=>a2g S st.h sz (opd st.ts x) (opd st.ts y) mu K
 | .copy sz x y=>a5z S st.h sz (opd st.ts x) (opd st.ts y) fun v h'=>K v h' []
 | .bad=>False
 | .appendIn sz x y=>a4o S st.h sz (opd st.ts x) (opd st.ts y) fun v h'=>K v h' []
 | .clear sz zs x=>match opd st.ts x with
   | .msl l sz' s n _=>if AD sz sz' then match a1a st.h l with
     |some (.arr sz'' n' e)=>if AD sz sz'' then S.req (S.pnle (c8f S s n) n') (K .any (a2x st.h l (.arr sz n' (S.put (c2c s) n e (S.rep n zs)))) []) else False
     |_=>False else False
   |_=>False
 | .isnil neg x=>match opd st.ts x with
   | .d .nil=>K (.d (.bool (if neg then AC else AJ))) st.h []
   | .d (.sl _ n _)=>S.req (S.pnlt 0 n) (K (.d (.bool neg)) st.h [])
   | .dfs _ n _=>S.req (S.pnlt 0 n) (K (.d (.bool neg)) st.h [])
   | .msl _ _ _ n _=>S.req (S.pnlt 0 n) (K (.d (.bool neg)) st.h [])
   | .d (.raw (.slice AB _ _))=>K (.d (.bool (if neg then AC else AJ))) st.h []
   | .d (.raw (.slice (AA _) _ _))=>K (.d (.bool neg)) st.h []
   |_=>False
 | .slicex sz x lo hi=>match opd st.ts x with
   | .msl l sz' s n AC=>if AD sz sz' then match a1a st.h l with
     |some (.arr sz'' n' _)=>if AD sz sz'' then b0u st.ts lo (.l 0) fun lo=>b0u st.ts hi (.v (S.ofNat n)) fun hi=>
       S.req (S.pile 0 lo.val) (S.req (S.pile lo.val hi.val) (S.req (S.pnle (c8f S s (nat S hi)) n') (K (.msl l sz (a6q S s lo) (S.nsub (nat S hi) (nat S lo)) AC) st.h []))) else False
     |_=>False else False
   |_=>False
 | .idxs l x=>match opd st.ts x with
   | .d (.int _ i)=>S.req (S.inb i.val (a3q l)) (K (.d (.int .u8 (.v (S.sidx l i.val)))) st.h [])
   |_=>False
 | .slchk sz x lo hi mx=>match opd st.ts x with
   | .msl _ sz' _ n _=>a4h S st.ts sz sz' n lo hi mx (K .any st.h [])
   | .d (.sl sz' n _)=>a4h S st.ts sz sz' n lo hi mx (K .any st.h [])
   |_=>False
 | .ovl x y=>match opd st.ts x,opd st.ts y with
   | .msl l _ _ n1 _,.msl l' _ _ n2 _=>if AD l l' then False else S.req (S.pnlt 0 n1)<|S.req (S.pnlt 0 n2)<|match a1a st.h l,a1a st.h l' with
     |some (.arr 1 _ _),AA (.arr 1 n' _)=>S.req (S.pnlt 0 n') (K (.d (.bool AC)) st.h [])
     |_,_=>False
   |_,_=>False
 | .appendN sz _ x y mu=>match opd st.ts x,a4d (opd st.ts y) with
   | .d .nil,AJ=>K (.d .nil) st.h []
   | .dfs sz' 0 e,AJ=>K (.dfs sz' 0 e) st.h []
   |x,_=>a2g S st.h sz x (opd st.ts y) mu K
 | .aeqw neg ks x y=>match opd st.ts x,opd st.ts y with
   | .agg xs,.agg ys=>match c6a S ks xs ys with
     |some b=>K (.d (.bool (if neg then S.bnot b else b))) st.h []
     |none=>False
   |_,_=>False
 | .mkmapv wide ks=>K (.map (a3q st.h)) (a2u st.h [.mapv wide ks [] []]) []
 | .lookupv wide ks ok z m k=>match opd st.ts m with
   | .map l=>match a1a st.h l with
     |some (.mapv wide' ks' keys vals)=>if wide=wide'/\ks=ks' then a2z S wide ks (opd st.ts k) fun kc=>match b1j kc keys vals with
       |some v=>if ok then K (.tuple [v,.d (.bool AJ)]) st.h [] else K v st.h []
       |none=>if ok then K (.tuple [z,.d (.bool AC)]) st.h [] else K z st.h []
      else False
     |_=>False
   |_=>False
 | .mapupdv wide ks m k x=>match opd st.ts m with
   | .map l=>match a1a st.h l with
     |some (.mapv wide' ks' keys vals)=>if wide=wide'/\ks=ks' then a2z S wide ks (opd st.ts k) fun kc=>match c7m kc (opd st.ts x) keys vals with
       |some vals'=>K .und (a2x st.h l (.mapv wide ks keys vals')) []
       |none=>K .und (a2x st.h l (.mapv wide ks (a2u keys [kc]) (a2u vals [opd st.ts x]))) []
      else False
     |_=>False
   |_=>False
 | .bsliceP sz len zs ps=>match a8q st.ts sz (b8q (b3y .d zs) len) ps with
   |some rs=>match d9t rs with
    |some rows=>K (.d (.sl sz len (rowAt rows))) st.h []
    |none=>False
   |none=>False
 | .extractF x i=>match opd st.ts x with
   | .tuple vs=>match a1a vs i with
     |some (.agg cs)=>a3t S st.h cs fun cs' h'=>K (.agg cs') h' []
     |some (.ptr l 0)=>a2p S st.h l fun v' h'=>K v' h' []
     |some v=>a2m S st.h v fun v' h'=>K v' h' []
     |none=>False
   |_=>False
 | .mapent wide ks z m k=>match opd st.ts m with
   | .map l=>match a1a st.h l with
     |some (.mapv wide' ks' keys vals)=>if wide=wide'/\ks=ks' then a2z S wide ks (opd st.ts k) fun kc=>match c9t kc keys 0 with
       |some i=>match a1a vals i with
        |some v=>K (.tuple [v,.d (.int .i64 (.v (S.ofNat i)))]) st.h []
        |none=>False
       |none=>K (.tuple [z,.d (.int .i64 (.v (S.ofNat (a3q keys))))]) (a2x st.h l (.mapv wide ks (a2u keys [kc]) (a2u vals [z]))) []
      else False
     |_=>False
   |_=>False
 | .bslice0 sz=>K (.dfs sz 0 fun _=>[]) st.h []
 | .bnewv=>K (.msl (a3q st.h) 1 AB 0 AC) (a2u st.h [.arrv []]) []
 | .bnewm sz=>K (.msl (a3q st.h) sz AB 0 AC) (a2u st.h [.arr sz 0 fun _=>[]]) []
 | .appendV _ x y=>h4i S st.h (opd st.ts x) (opd st.ts y) K
 | .appendP sz _ x y=>match opd st.ts x,opd st.ts y with
   | .d .nil,.d .nil=>K (.d .nil) st.h []
   | .d .nil,.d (.sl sz' m e)=>if AD sz sz' then S.req (S.pnle m big) (K (.d (.sl sz m e)) st.h []) else False
   |_,_=>False
 | .entst m s x=>match opd st.ts m with
   | .map l=>match a1a st.h l with
     |some (.mapv wide ks keys vals)=>a9r (opd st.ts s) fun n=>idx S n (a3q vals) fun j=>K .und (a2x st.h l (.mapv wide ks keys (a2x vals j (opd st.ts x)))) []
     |_=>False
   |_=>False
end
section
variable {α:Type}
theorem j7f (l:List α)(i:Nat):(match l,i with
 |[],_=>AB
 |x::_,0=>AA x
 |_::l,i+1=>a1a l i)=a1a l i:=(a1a.eq_def l i).symm
theorem j7h (l:List α)(i:Nat)(y:α):(match l,i,y with
 |[],_,_=>[]
 |_::l,0,y=>y::l
 |x::l,i+1,y=>x::a2x l i y)=a2x l i y:=(a2x.eq_def l i y).symm
theorem j7i (l m:List α):(match l,m with
 |[],m=>m
 |x::l,m=>x::a2u l m)=a2u l m:=(a2u.eq_def l m).symm
theorem j7j (l:List α)(i n:Nat):(match l,i,n with
 |_,0,0=>AA []
 |[],0,_+1=>AB
 |x::l,0,n+1=>match b0o l 0 n with|some r=>AA (x::r)|none=>AB
 |[],_+1,_=>AB
 |_::l,i+1,n=>b0o l i n)=b0o l i n:=(b0o.eq_def l i n).symm
theorem j7g (l:List α)(i:Nat)(m:List α):(match l,i,m with
 |l,0,[]=>AA l
 |[],_,_=>AB
 |_::l,0,y::new=>match b7y l 0 new with|some r=>AA (y::r)|none=>AB
 |x::l,i+1,new=>match b7y l i new with|some r=>AA (x::r)|none=>AB)=b7y l i m:=(b7y.eq_def l i m).symm
theorem j7k (l:List α):(match l with
 |[]=>0
 |_::l=>a3q l+1)=a3q l:=(a3q.eq_def l).symm
end
theorem j7e (l:Nat)(a:Bool)(h:List a0f):(match h with
 |[]=>[]
 |o::r=>o.forget l a::a2n l a r)=a2n l a h:=(a2n.eq_def l a h).symm
theorem j7d (l:Nat)(a:Bool)(h:List AV):(match h with
 |[]=>[]
 |v::r=>v.forget l a::AV.forgetL l a r)=AV.forgetL l a h:=(AV.forgetL.eq_def l a h).symm
theorem j7s (k:List KC)(ks:List (List KC))(vs:List AV):(match ks,vs with
 |k'::ks,v::vs=>if k'=k then AA v else b1j k ks vs
 |_,_=>AB)=b1j k ks vs:=(b1j.eq_def k ks vs).symm
theorem j7v (k:List KC)(ks:List (List KC))(n:Nat):(match ks,n with
 |[],_=>AB
 |k'::ks,n=>if k'=k then AA n else c9t k ks (n+1))=c9t k ks n:=(c9t.eq_def k ks n).symm
section
variable (S:Sig)
def e7y (next:St->Prop)(Q:Lv->St->Prop):Lv->St->Prop
 | .normal,st=>next st
 |e,st=>Q e st
def c3t (id:Nat)(Q:Lv->St->Prop):Lv->St->Prop
 | .exit i,st=>if AD i id then Q .normal st else Q (.exit i) st
 |e,st=>Q e st
def St.setb (st:St)(j:Nat)(b:Bool):St:=st.put (AA j) (.d (.bool b))
def e0g (o:a1c)(st:St)(K:St->Prop):Prop:=
 a0a S o.op st fun v h pg=>K (((st.setH h).purge pg).put o.dst v)
def c4b (o:a1c)(st:St)(K:St->Prop):Prop:=
 match o.guard with
 |none=>e0g S o st K
 |some (j,want)=>match a1a st.ts j with
  |some (.d (.bool b))=>match b with
   |true=>if want then e0g S o (st.setb j AJ) K else K ((st.setb j AJ).put o.dst .und)
   |false=>if want then K ((st.setb j AC).put o.dst .und) else e0g S o (st.setb j AC) K
  |some .und=>K (st.put o.dst .und)
  |_=>False
def d2r:List a1c->St->(St->Prop)->Prop
 |[],st,K=>K st
 |o::os,st,K=>c4b S o st fun st=>d2r os st K
def a4a (l:Nat)(o:IOp)(st:St)(K:AV->a0f->Prop):Prop:=
 match o with
 | .alloc zs=>K (.ptr l 0) (.var (b3y .d zs))
 | .box x=>if b5z (opd st.ts x).cells then K (.ptr l 0) (.var (opd st.ts x).cells) else False
 | .mkmap wide ks=>K (.map l) (.map wide ks 0 fun _=>AB)
 | .mkmapv wide ks=>K (.map l) (.mapv wide ks [] [])
 | .bnew sz=>K (.msl l sz AB 0 AC) (.arr sz 0 fun _=>[])
 | .mkslice sz zs _ n=>a9r (opd st.ts n) fun n=>S.req (S.pile 0 n.val) (S.req (S.pile n.val (S.ofNat big)) (K (.msl l sz AB (nat S n) AC) (.arr sz (nat S n) (S.rep (nat S n) zs))))
 |_=>False
def tgt:AV->Option Nat
 | .ptr l _=>AA l
 | .aptr l _ _ _=>AA l
 | .map l=>AA l
 |_=>AB
def a5c (base l:Nat):List Nat->Bool
 |[]=>AJ
 |s::r=>if AD l (base+s) then AC else a5c base l r
def c2n (base:Nat)(d:a0m)(ts:List AV):Bool:=
 match d.av with
 |[]=>AJ
 |_=>match d.o.op.at with
  |some x=>match opd ts x with
   | .ptr l _=>a5c base l d.av
   | .aptr l _ _ _=>if d.o.op.kl= .r then a5c base l d.av else AC
   | .map l=>if d.o.op.kl= .r then a5c base l d.av else AC
   | .dptr _ _=>if d.o.op.kl= .r then AJ else AC
   |_=>AC
  |none=>AC
def a2t (o:a1c)(st:St)(off:St->Prop)(on:St->Prop):Prop:=
 match o.guard with
 |none=>on st
 |some (j,want)=>match a1a st.ts j with
  |some (.d (.bool b))=>match b with
   |true=>if want then on (st.setb j AJ) else off (st.setb j AJ)
   |false=>if want then off (st.setb j AC) else on (st.setb j AC)
  |some .und=>off st
  |_=>False
def a1b (base:Nat)(st:St)(k:Prop):List a0m->Prop
 |[]=>k
 |r::rs=>if r.o.op.kl= .r then a2t r.o st (fun _=>a1b base st k rs) fun st=>if c2n base r st.ts then
   a0a S r.o.op st fun v _ _=>match r.o.dst with
    |some d=>S.req (S.same v (opd st.ts (.t d))) (a1b base st k rs)
    |none=>a1b base st k rs
   else False
  else a1b base st k rs
mutual
def a1u (pg:List Nat):AV->Bool
 | .agg cs=>a6n pg cs
 | .tuple cs=>a6n pg cs
 | .fn _ us cs=>if a6n pg us then a6n pg cs else AC
 | .ptr m _=>a3u m pg
 | .aptr m _ _ _=>a3u m pg
 | .msl m _ _ _ _=>a3u m pg
 | .vsl m _ _=>a3u m pg
 | .map m=>a3u m pg
 | .yl m=>a3u m pg
 |_=>AJ
def a6n (pg:List Nat):List AV->Bool
 |[]=>AJ
 |v::l=>if a1u pg v then a6n pg l else AC
def a3u (m:Nat):List Nat->Bool
 |[]=>AJ
 |l::pg=>if AD l m then AC else a3u m pg
end
def a4g (pg:List Nat)(ts:List AV):List Nat->Bool
 |[]=>AJ
 |t::l=>if (match a1a ts t with|some v=>a1u pg v|none=>AJ) then a4g pg ts l else AC
def e4t (o:a1c):List Nat:=
 match o.dst with
 |none=>[]
 |some d=>[d]
def a7a (pg:List Nat)(ts:List AV):List a0m->Bool
 |[]=>AJ
 |r::rs=>if a4g pg ts r.o.uses then (if a4g pg ts (e4t r.o) then a7a pg ts rs else AC) else AC
def h6l (base s:Nat)(pg:List Nat):Bool:=
 match s with
 |0=>AJ
 |s+1=>go base (base+(s+1)) pg
where go (base lim:Nat):List Nat->Bool
 |[]=>AJ
 |l::pg=>if Ae l base then go base lim pg else if AT lim l then go base lim pg else AC
def b2l (i:Nat):List Nat->Bool
 |[]=>AC
 |j::l=>if AD i j then AJ else b2l i l
def a4b (d:a0m):List a0m->List a0m
 |[]=>[]
 |r::F=>if b2l r.i d.bef then a4b d F else r::a4b d F
def evD (base:Nat)(F:List a0m)(d:a0m)(st:St)(K:St->Prop):Prop:=
 match d.o.op.kl with
 | .a=>a4a S (base+d.slot) d.o.op st fun v o=>K ((st.setH (a2x st.h (base+d.slot) o)).put d.o.dst v)
 | .m=>if c2n base d st.ts then a0a S d.o.op st fun v h pg=>match pg with
    |[]=>a1b S base ((st.setH h).put d.o.dst v) (K ((st.setH h).put d.o.dst v)) (a4b d F)
    |pg=>if d.alone then K (((st.setH h).purge pg).put d.o.dst v) else
      if h6l base d.slot pg then (if a7a pg st.ts (a4b d F) then a1b S base (((st.setH h).purge pg).put d.o.dst v) (K (((st.setH h).purge pg).put d.o.dst v)) (a4b d F) else False) else False
   else False
 | .r=>if c2n base d st.ts then a0a S d.o.op st fun v _ _=>K (st.put d.o.dst v) else False
 |_=>a0a S d.o.op st fun v _ _=>K (st.put d.o.dst v)
def b1f (base:Nat)(F:List a0m)(d:a0m)(st:St)(K:St->Prop):Prop:=
 a2t d.o st (fun st=>K (st.put d.o.dst .und)) fun st=>evD S base F d st K
def a8e (d:a0m)(F:List a0m):List a0m:=if d.watch then d::F else F
def evR (base:Nat)(F:List a0m)(ds:List a0m)(st:St)(K:St->Prop):Prop:=
 match ds with
 |[]=>K st
 |d::ds=>b1f S base F d st fun st=>evR base (a8e d F) ds st K
def St.setc (st:St)(c:a0h)(b:Bool):St:=
 match c with
 | .t j=>st.setb j b
 | .c _=>st
def ev:a0c->(Lv->St->Prop)->St->Prop
 | .skip,Q,st=>Q .normal st
 | .ops l,Q,st=>d2r S l st (Q .normal)
 | .draw n l,Q,st=>evR S (a3q st.h) [] l ⟨st.ts,a2u st.h (b8q (.var []) n),st.mv⟩ (Q .normal)
 | .seq a b,Q,st=>ev a (e7y (ev b Q) Q) st
 | .cond c a b,Q,st=>match opd st.ts c with
   | .d (.bool x)=>match x with
     |true=>ev a Q (st.setc c AJ)
     |false=>ev b Q (st.setc c AC)
   |_=>False
 | .block id c,Q,st=>ev c (c3t id Q) st
 | .loop c,Q,st=>S.loop c Q st
 | .range f ps a b,Q,st=>S.range f ps a b Q st
 | .exit id,Q,st=>Q (.exit id) st
 | .scope c,Q,st=>S.req S.top (ev c Q st)
 | .label _,Q,st=>Q .normal st
 | .ret,Q,st=>Q .ret st
end
structure Ann where
 ops:List (Nat×Nat×Nat):=[]
 refs:List (Nat×List (Nat×Bool)):=[]
def Ann.at (a:Ann)(r i:Nat):Nat:=
 match a.ops.find? fun (r',i',_)=>r==r'&&i==i' with
 |some (_,_,c)=>c
 |none=>0
def e3r:AI->Option DV
 | .int k n=>AA (.int k (.l n))
 | .bool b=>AA (.bool b)
 | .string s=>AA (.str s.data.toList)
 | .slice AB 0 0=>AA .nil
 | .map AB=>AA (.raw (.map AB))
 | .pointer AB=>AA (.raw (.pointer AB))
 | .nilFunc=>AA (.raw .nilFunc)
 | .nilIface=>AA (.raw .nilIface)
 |_=>AB
def d2l (v:AI):Option (List DV):=v.cells.toList.mapM e3r
def e5k (v:AI):Option AV:=
 match v with
 | .agg cs=>do AE (.agg ((<-cs.toList.mapM e3r).map .d))
 |v=>do AE (.d (<-e3r v))
def a0g:Aj->Option a0h
 | .tmp t=>AA (.t t)
 | .const v=>do AE (.c (<-e5k v))
 | .func f=>AA (.c (.fn f [] []))
 | .global _=>AB
def b3d (l:Array Aj):Option (List a0h):=l.toList.mapM a0g
def a1z:Option Aj->Option (Option a0h)
 |none=>AA AB
 |some x=>do AE (AA (<-a0g x))
def b1y (P:AG)(t:AM):Option Nat:=(P.info? t).map (·.size)
def a5j (P:AG)(t:AM):Option Nat:=(P.info? t).map (·.bytes)
def a5d (P:AG)(t:AM):Option (List DV):=do
 let i<-P.info? t
 d2l (<-i.zero)
def b8x (P:AG)(t:AM):Option AV:=do
 let i<-P.info? t
 e5k (<-i.zero)
def d3e (P:AG)(t:AM):Option (Option Nat):=do
 match<-P.underlying t with
 | .struct _| .array _ _=>AE (AA (<-b1y P t))
 |_=>AE AB
def a9y {α:Type}(P:AG)(g:AM->Option (List α)):List Field->Nat->Option (List α)
 |[],_=>AA []
 |f::fs,off=>do
  let ks<-g f.type
  if f.offset=off/\ks.length=P.cellsOf f.type then
   let r<-a9y P g fs (off+ks.length)
   AE (ks++r)
  else AB
def b9c (P:AG):Nat->AM->Option (List AH)
 |0,_=>AB
 |d+1,t=>
  match P.underlying t with
  |some (.int k)=>if P.cellsOf t=1 then AA [k] else AB
  |some (.struct fs)=>do
   let ks<-a9y P (b9c P d) fs.toList 0
   if ks.length=P.cellsOf t/\fs.all (·.name != "_")=AJ then AE ks else AB
  |some (.array n e)=>do
   let ks<-b9c P d e
   if ks.length=P.cellsOf e/\n*P.cellsOf e=P.cellsOf t then AE (Ab n ks).flatten else AB
  |_=>AB
def a4l (P:AG):Nat->AM->Option (List CK)
 |0,_=>AB
 |d+1,t=>
  match P.underlying t with
  |some (.int k)=>if P.cellsOf t=1 then AA [.i k] else AB
  |some .bool=>if P.cellsOf t=1 then AA [.o] else AB
  |some (.struct fs)=>do
   let ks<-a9y P (a4l P d) fs.toList 0
   if ks.length=P.cellsOf t/\fs.all (·.name != "_")=AJ then AE ks else AB
  |some (.array n e)=>do
   let ks<-a4l P d e
   if ks.length=P.cellsOf e/\n*P.cellsOf e=P.cellsOf t then AE (Ab n ks).flatten else AB
  |_=>AB
def d7w (P:AG)(t:AM):Option (List CK):=do
 let ks<-a4l P (P.types.size+1) t
 if P.keyTypeAt 20 t then AE ks else AB
def c5c (P:AG)(t:AM):Option (Bool×List AH):=do
 let ks<-b9c P (P.types.size+1) t
 match P.underlying t with
 |some (.int _)=>AE (AC,ks)
 |some (.struct _)|some (.array _ _)=>if P.keyTypeAt 20 t/\P.keyType t/\t<P.types.size then AE (AJ,ks) else AB
 |_=>AB
def c0x (op:Aa)(x y:a0h):IOp:=
 match c6z op with
 |0=> .bin op x y
 |_=> .bw op x y
def b6q (P:AG)(neg:Bool)(t:AM)(x y:a0h):Option IOp:=
 match c5c P t with
 |some k=>AE (.aeq neg k.2 x y)
 |none=>do AE (.aeqw neg (<-d7w P t) x y)
def c4t (P:AG)(t:AM):Option (AM×AM):=do
 match<-P.underlying t with
 | .map k e=>AE (k,e)
 |_=>AB
def d0m (P:AG)(t:AM):Option AH:=do
 match<-P.underlying t with
 | .int k=>AE k
 |_=>AB
def d0f (P:AG)(t:AM):Option Unit:=do
 match<-d0m P t with
 | .i64=>match (<-P.info? t).zero with
   |some (.int .i64 0)=>AE ()
   |_=>AB
 |_=>AB
def a2a (P:AG)(t:AM):Option AM:=do
 match<-P.underlying t with
 | .slice e=>AE e
 |_=>AB
def b5w (P:AG)(t:AM)(f:Nat):Option Field:=do
 match<-P.underlying t with
 | .struct fs=>fs[f]?
 |_=>AB
def a1x (P:AG)(t:AM):Option Nat:=do
 let n<-b1y P t
 if n=0 then AB else AE n
def b9j (P:AG)(t:AM):Option (Nat->Option (Nat×Nat)):=
 match P.underlying t with
 |some (.struct fs)=>match fs.toList.mapM (fun f=>(P.info? f.type).map fun i=>(f.offset,i.size)) with
  |some l=>AA fun i=>l.toArray[i]?
  |none=>AB
 |some (.array _ e)=>match P.info? e with
  |some ie=>AA fun i=>AA (i*ie.size,ie.size)
  |none=>AB
 |_=>AB
def d5l:Nat->Mode
 |0=> .borrow
 |1=> .share
 |2=> .raw
 |3=> .data
 |_=> .fresh
def b0f (c:Nat)(y:a0h):Option IOp:=
 if c=0 then AA (.mv y) else match y with
  | .c (.d .nil)=>AA (.newnil c)
  |_=>AB
def d6q (P:AG)(c:Nat)(b:Builtin)(args:List Aj)(tys:List AM):Option IOp:=
 match b with
 | .len=>match args,tys with
   |[x],[t]=>do
    match<-P.underlying t with
    | .slice _=>AE (.len (<-a0g x))
    | .map _ _=>AE (.lenm (<-a0g x))
    |_=>AB
   |_,_=>AB
 | .clear=>match args,tys with
   |[x],[t]=>do
    let e<-a2a P t
    let sz<-a1x P e
    let zs<-a5d P e
    if zs.length=sz then AE (.clear sz zs (<-a0g x)) else AB
   |_,_=>AB
 | .cap=>match args,tys with
   |[x],[t]=>do
    let _<-a2a P t
    AE (.cap (<-a0g x))
   |_,_=>AB
 | .min=>match args with
   |[x,y]=>do AE (.min (<-a0g x) (<-a0g y))
   |_=>AB
 | .max=>match args with
   |[x,y]=>do AE (.max (<-a0g x) (<-a0g y))
   |_=>AB
 | .append=>match args,tys with
   |[x,y],[t,u]=>do
    let e<-a2a P t
    let e'<-a2a P u
    let sz<-a1x P e
    let b<-a5j P e
    let zs<-a5d P e
    if e=e'/\b<=250/\zs.length=sz then (if c=5 then (if sz=1 then do AE (.appendV b (<-a0g x) (<-a0g y)) else AB) else if c=4 then do AE (.appendP sz b (<-a0g x) (<-a0g y)) else if c=2 then do AE (.appendIn sz (<-a0g x) (<-a0g y)) else if c=3 then do AE (.appendN sz b (<-a0g x) (<-a0g y) AJ) else do AE (.append sz b (<-a0g x) (<-a0g y) (c==1))) else AB
   |_,_=>AB
 | .copy=>match args,tys with
   |[x,y],[t,u]=>do
    let e<-a2a P t
    let e'<-a2a P u
    let sz<-a1x P e
    if e=e' then AE (.copy sz (<-a0g x) (<-a0g y)) else AB
   |_,_=>AB
 |_=>AB
def b1b:String:=String.ofList ([115,108,105,99,101,115,46,111,118,101,114,108,97,112,115,91,105,110,116,93].map Char.ofNat)
def a0y (P:AG)(c:Nat)(o:Ag):Option IOp:=
 match o.op with
 | .move x| .assign x=>do b0f c (<-a0g x)
 | .pick c a b=>do AE (.pick (<-a0g c) (<-a0g a) (<-a0g b))
 | .alloc t=>do AE (.alloc (<-a5d P t))
 | .box _ x=>do AE (.box (<-a0g x))
 | .build t ps=>do
   let zs<-a5d P t
   let b2u<-b9j P t
   let l<-ps.toList.mapM fun ix=>do
    let os<-b2u ix.1
    AE (os.1,os.2,<-a0g ix.2)
   AE (.build zs l)
 | .buildSlice t n ps=>do
   let e<-a2a P t
   let sz<-a1x P e
   let zs<-a5d P e
   if zs.length=sz/\n*sz<=1000000 then
    let l<-ps.toList.mapM fun ix=>do AE (ix.1,<-a0g ix.2)
    if n=0/\c=4 then (if l.isEmpty/\sz=1 then AA .bnewv else AB) else if n=0/\c=5 then (if l.isEmpty then AA (.bnewm sz) else AB) else if n=0/\c=1 then (if l.isEmpty then AA (.bnew sz) else AB) else if n=0/\c=2 then (if l.isEmpty then AA (.bslice0 sz) else AB) else if c=2 then AE (.bsliceP sz n zs l) else AE (.bslice sz n zs l (c==1))
   else AB
 | .load t a=>do AE (.load (<-d3e P t) (<-a0g a))
 | .store t a x=>do AE (.store (<-b1y P t) (<-a0g a) (<-a0g x))
 | .nilCheck x=>do AE (.nilchk (<-a0g x))
 | .binOp op t x y _=>do
   match<-P.underlying t with
   | .int _=>AE (c0x op (<-a0g x) (<-a0g y))
   | .bool=>AE (.binb op (<-a0g x) (<-a0g y))
   | .struct _=>match op with
     | .eql=>if P.eqGuardType P.depth t then AB else do b6q P AC t (<-a0g x) (<-a0g y)
     | .neq=>if P.eqGuardType P.depth t then AB else do b6q P AJ t (<-a0g x) (<-a0g y)
     |_=>AB
   | .array _ _=>match op with
     | .eql=>if P.eqGuardType P.depth t then AB else do AE (.aeqw AC (<-d7w P t) (<-a0g x) (<-a0g y))
     | .neq=>if P.eqGuardType P.depth t then AB else do AE (.aeqw AJ (<-d7w P t) (<-a0g x) (<-a0g y))
     |_=>AB
   | .slice _=>match op,y with
     | .eql,.const (.slice AB 0 0)=>do AE (.isnil AC (<-a0g x))
     | .neq,.const (.slice AB 0 0)=>do AE (.isnil AJ (<-a0g x))
     |_,_=>AB
   |_=>AB
 | .unOp op _ x=>do AE (.un op (<-a0g x))
 | .convert s d x=>do
   let _<-d0m P s
   AE (.conv (<-d0m P d) (<-a0g x))
 | .makeFunc (.func f) first cap=>do AE (.mkfn f (<-b3d first) (<-b3d cap))
 | .makeMap t AB=>do
   let (kt,et)<-c4t P t
   let (wide,ks)<-c5c P kt
   if c=1 then AE (.mkmapv wide ks) else match d0f P et with
   |some _=>AE (.mkmap wide ks)
   |none=>AE (.mkmapv wide ks)
 | .makeSlice t n m=>do
   let e<-a2a P t
   let sz<-a1x P e
   let zs<-a5d P e
   let b<-a5j P e
   let x<-a0g n
   match n,m with
   | .tmp i,.tmp j=>if i=j/\zs.length=sz/\b<=250 then AE (.mkslice sz zs b x) else AB
   | .const (.int .i64 i),.const (.int .i64 j)=>if i=j/\zs.length=sz/\b<=250 then AE (.mkslice sz zs b x) else AB
   |_,_=>AB
 | .slice t x lo hi mx=>do
   match<-P.underlying t with
   | .slice e=>do
     let sz<-a1x P e
     if c=1 then match mx with
      |none=>AE (.slicex sz (<-a0g x) (<-a1z lo) (<-a1z hi))
      |some _=>AB
     else if c=2 then match hi with
      |some _=>AE (.slchk sz (<-a0g x) (<-a1z lo) (<-a1z hi) (<-a1z mx))
      |none=>AB
     else match hi,mx with
     |none,AA _=>AB
     |_,_=>AE (.slice sz (<-a0g x) (<-a1z lo) (<-a1z hi) (<-a1z mx))
   | .array n e=>do
     let k<-b1y P e
     match mx with
     |none=>if k=1 then AE (.slarr n (<-a0g x) (<-a1z lo) (<-a1z hi)) else AB
     |_=>AB
   |_=>AB
 | .fieldAddr t x f=>do
   let f<-b5w P t f
   let _<-a1x P f.type
   AE (.faddr f.offset (<-a0g x))
 | .field t x f=>do
   let f<-b5w P t f
   AE (.field f.offset (<-d3e P f.type) (<-a0g x))
 | .indexAddr t x i=>do
   match<-P.underlying t with
   | .slice e=>do AE (.iaddr (<-a1x P e) (<-a0g x) (<-a0g i))
   | .array n e=>do AE (.iaddrA n (<-a1x P e) (<-a0g x) (<-a0g i))
   |_=>AB
 | .lookup t m k ok=>do
   let (kt,et)<-c4t P t
   let (wide,ks)<-c5c P kt
   if c=1 then AE (.lookupv wide ks ok (<-b8x P et) (<-a0g m) (<-a0g k)) else match d0f P et with
   |some _=>AE (.lookup wide ks ok (<-a0g m) (<-a0g k))
   |none=>AE (.lookupv wide ks ok (<-b8x P et) (<-a0g m) (<-a0g k))
 | .mapUpdate t m k x=>do
   let (kt,et)<-c4t P t
   let (wide,ks)<-c5c P kt
   if c=1 then AE (.mapupdv wide ks (<-a0g m) (<-a0g k) (<-a0g x)) else match d0f P et with
   |some _=>AE (.mapupd wide ks (<-a0g m) (<-a0g k) (<-a0g x))
   |none=>AE (.mapupdv wide ks (<-a0g m) (<-a0g k) (<-a0g x))
 | .mapEntry t m k=>do
   let (kt,et)<-c4t P t
   let (wide,ks)<-c5c P kt
   AE (.mapent wide ks (<-b8x P et) (<-a0g m) (<-a0g k))
 | .entryStore _ m s x=>do AE (.entst (<-a0g m) (<-a0g s) (<-a0g x))
 | .index t (.const (.string s)) i=>do
   match<-P.underlying t with
   | .string=>AE (.idxs s.data.toList (<-a0g i))
   |_=>AB
 | .extract x i=>do
   let x<-a0g x
   if c=1 then AE (.extractF x i) else AE (.extract x i)
 | .call k=>match k.callee with
   | .value (.func f)=>match P.funcs[f]? with
     |some fn=>if fn.body.isNone&&fn.name==b1b then match k.args.toList with
       |[x,y]=>do AE (.ovl (<-a0g x) (<-a0g y))
       |_=>AB
      else do AE (.call (.c (.fn f [] [])) (<-b3d k.args) (d5l c))
     |none=>AB
   | .value f=>do AE (.call (<-a0g f) (<-b3d k.args) (d5l c))
   | .builtin b=>d6q P c b k.args.toList k.argTypes.toList
   |_=>AB
 |_=>AB
def b7f (P:AG)(c:Nat)(o:Ag):Option IOp:=
 match a0y P c o with
 |some x=>AA x
 |none=>AA .bad
def c0z (P:AG)(A:Ann)(r:Nat)(ops:Array Ag)(i:Nat)(o:Ag):Option a1c:=do
 let op<-b7f P (A.at r i) o
 match o.guard with
 |none=>AE ⟨o.dst,AB,op⟩
 |some (j,w)=>do
  let oj<-ops[j]?
  let d<-oj.dst
  AE ⟨o.dst,AA (d,w),op⟩
def a3w (P:AG)(A:Ann)(r:Nat)(ops:Array Ag):List Ag->Nat->Option (List a1c)
 |[],_=>AA []
 |o::l,i=>do
  let x<-c0z P A r ops i o
  let xs<-a3w P A r ops l (i+1)
  AE (x::xs)
def a6u (o:Ag):List Nat:=(o.after.toList.filter (Region.binds .any ·)).map (·.on)
def b4c:List Ag->List (List Nat)->List (List Nat)
 |[],acc=>acc
 |o::os,acc=>b4c os (acc++[(a6u o++(a6u o).flatMap fun k=>acc.getD k []).eraseDups])
def a9f (ops:List Ag)(cl:List (List Nat)):Bool:=
 (AS ops.length).all fun j=>(cl.getD j []).all fun p=>match ops[j]? with
   |some o=>b2l p (a6u o)||(a6u o).any fun k=>b2l p (cl.getD k [])
   |none=>AC
def Kl.rank:Kl->Nat
 | .i=>0
 | .r=>1
 | .a=>2
 |_=>3
def e4h (ops:List Ag)(kl:List Nat):Nat->List Nat->List Nat->List Nat
 |0,_,acc=>acc
 |f+1,todo,acc=>
  let rs:=todo.filter fun j=>match ops[j]? with|some o=>(a6u o).all fun k=>b2l k acc|none=>AC
  let pick:=[0,1,2,3].findSome? fun c=>rs.find? fun j=>kl.getD j 3==c
  match pick with
  |some j=>e4h ops kl f (todo.filter (· !=j)) (acc++[j])
  |none=>acc
def c9v (o:a1c)(l:List Nat):Bool:=
 match o.dst with
 |none=>AC
 |some d=>b2l d l
def c0q (a b:a1c):Bool:=
 match a.dst,b.dst with
 |some x,AA y=>AD x y
 |_,_=>AC
def e5x (a b:a0m):Bool:=
 !c9v a.o b.o.uses&&!b.alone&&(!(b.o.op.kl== .m)||(a.watch&&!b2l a.i b.bef))&&(match a.o.op.kl with
  | .m=>AC
  | .r=>match b.o.op.kl with
    | .a=>b2l b.slot a.av
    |_=>AJ
  | .a=>match b.o.op.kl with
    | .r=>b2l a.slot b.av
    | .m=>b2l a.slot b.av
    |_=>AJ
  |_=>AJ)
def c1c (a b:a0m):Bool:=!c9v b.o a.o.uses&&!c0q a.o b.o
def d7c (cl:List (List Nat))(a b:a0m):Bool:=
 (!(a.watch&&b.watch)||(c1c a b&&(!(a.o.op.kl== .r)||!(b.o.op.kl== .a)||b2l b.slot a.av)))&&
 (!(b.o.op.kl== .a&&a.o.op.kl== .a)||!AD a.slot b.slot)&&
 (!(a.o.op.kl== .m&&b.o.op.kl== .a)||Ae b.slot a.slot)&&(!(a.o.op.kl== .a&&b.o.op.kl== .m)||Ae a.slot b.slot)&&
 !(a.alone&&b.o.op.kl== .a)&&
 (b2l a.i (cl.getD b.i [])||(c1c a b&&e5x a b))
def c2x (cl:List (List Nat)):List a0m->Bool
 |[]=>AJ
 |a::l=>(l.all fun b=>d7c cl a b)&&c2x cl l
def b4q (ops:List Ag):List Nat->List a0m->Bool
 |_,[]=>AJ
 |done,d::l=>(match ops[d.i]? with|some o=>(a6u o).all fun k=>b2l k done|none=>AC)&&!b2l d.i done&&b4q ops (d.i::done) l
def d5j (ios:List a1c)(cl:List (List Nat))(ref:List Nat):List a0m:=
 let kls:=ios.map (·.op.kl)
 let as:=(AS ios.length).filter fun j=>kls.getD j .m== .a
 let before (p j:Nat):Bool:=b2l p (cl.getD j [])
 ref.filterMap fun j=>match ios[j]? with
  |none=>AB
  |some o=>AA {
    o,i:=j,slot:=if o.op.kl== .m then as.length else (as.filter (· <j)).length
    av:=if o.op.kl== .r||o.op.kl== .m then (as.filter fun k=>!before k j&&(o.op.kl== .r||!before j k)).map fun k=>(as.filter (· <k)).length else []
    bef:=if o.op.kl== .m then cl.getD j [] else []
    alone:=o.op.kl== .m&&(AS ios.length).all fun k=>k==j||before k j||before j k
    watch:=(AS ios.length).any fun k=>kls.getD k .i== .m&&k !=j&&!before k j&&!before j k}
def b0j (ops:List Ag)(ios:List a1c):Option (Nat×List a0m):=
 let cl:=b4c ops []
 let ref:=e4h ops (ios.map (·.op.kl.rank)) ops.length (AS ops.length) []
 let ds:=d5j ios cl ref
 if ds.length=ops.length/\((AS ops.length).all fun i=>b2l i (ds.map (·.i)))=AJ/\a9f ops cl=AJ/\c2x cl ds=AJ/\b4q ops [] ds=AJ/\(ds.all fun d=>!c9v d.o d.o.uses&&(!(d.o.op.kl== .a)||Ae d.slot (ios.filter (·.op.kl== .a)).length))=AJ then AA ((ios.filter (·.op.kl== .a)).length,ds) else AB
def comp (P:AG)(A:Ann):Ak->Option a0c
 | .skip=>AA .skip
 | .region id ops AC=>do AE (.ops (<-a3w P A id ops ops.toList 0))
 | .region id ops AJ=>do
   let ios<-a3w P A id ops ops.toList 0
   let nd<-b0j ops.toList ios
   AE (.draw nd.1 nd.2)
 | .seq a b=>do AE (.seq (<-comp P A a) (<-comp P A b))
 | .cond c a b=>do AE (.cond (<-a0g c) (<-comp P A a) (<-comp P A b))
 | .block id c=>do AE (.block id (<-comp P A c))
 | .loop c=>do AE (.loop (<-comp P A c))
 | .rangeFunc f ps a b=>do AE (.range (<-a0g f) ps.toList (<-comp P A a) (<-comp P A b))
 | .exit id=>AA (.exit id)
 | .scope c=>do AE (.scope (<-comp P A c))
 | .label l=>AA (.label l)
 | .ret=>AA .ret
 |_=>AB
inductive c5p where
 |t (i:Nat)
 |c (i:Nat) (agg:Option Nat)
def b0m (P:AG)(fn:Func):Option (List c5p):=fn.results.toList.mapM fun
 | .tmp t=>AA (.t t)
 | .cell a t=>do AE (.c a (<-d3e P t))
theorem a0i {α:Type}(l:List α)(i:Nat):a1a l i=l[i]? :=by
 induction l generalizing i with
 |nil=>simp[a1a]
 |cons x l ih=>cases i<;>simp[a1a,ih]
theorem a0l {α:Type}(l:List α)(i:Nat)(y:α):a2x l i y=l.set i y:=by
 induction l generalizing i with
 |nil=>simp[a2x]
 |cons x l ih=>cases i<;>simp[a2x,ih]
theorem a5m {α β:Type}(f:α->β)(l:List α):b3y f l=l.map f:=by
 induction l with
 |nil=>rfl
 |cons x l ih=>simp[b3y,ih]
theorem a0r {α:Type}(l m:List α):a2u l m=l++m:=by
 induction l with
 |nil=>rfl
 |cons x l ih=>simp[a2u,ih]
theorem a0u {α:Type}(l:List α):a3q l=l.length:=by
 induction l with
 |nil=>rfl
 |cons x l ih=>simp[a3q,ih]
theorem d1o {cs:List AV}{l:List DV}(h:dvs cs=AA l):l.length=cs.length/\ ∀(i:Nat) (x:DV),l[i]? =AA x-> ∃y,cs[i]? =AA y/\ ∀{w:AF} {S:Nat->Prop} {ρ:Rho} {v:AI},VR w S ρ y v->DVR w S x v:=by
 induction cs generalizing l with
 |nil=>simp[dvs] at h;subst h;simp
 |cons c cs ih=>
  unfold dvs at h;split at h
  ·rename_i heq;cases heq
  ·rename_i x r heq;cases heq;split at h
   ·rename_i l' hl';cases h;obtain⟨h1,h2⟩:=ih hl';refine⟨by simp[h1],fun i y hy=> ?_⟩;cases i with
    |zero=>simp at hy;subst hy;exact⟨_,rfl,fun h=>by cases h with|d h=>exact h⟩
    |succ i=>simp at hy⊢;exact h2 i y hy
   ·cases h
  ·rename_i f r heq;cases heq;split at h
   ·rename_i l' hl';cases h;obtain⟨h1,h2⟩:=ih hl';refine⟨by simp[h1],fun i y hy=> ?_⟩;cases i with
    |zero=>
     simp at hy;subst hy;refine⟨_,rfl,fun h=> ?_⟩;cases h with
     |fn _ _ _ us vs h1 _ h2 _=>have e1:us= #[]:=AW (by simpa using h1.symm);have e2:vs= #[]:=AW (by simpa using h2.symm);subst e1 e2;exact .raw _ rfl
    |succ i=>simp at hy⊢;exact h2 i y hy
   ·cases h
  ·cases h
theorem a1k (rs:List (List DV))(i:Nat):rowAt rs i=rs[i]?.getD []:=by
 induction rs generalizing i with
 |nil=>simp[rowAt]
 |cons r rs ih=>cases i<;>simp[rowAt,ih]
theorem a7i {α:Type}(x:α)(n:Nat):b8q x n=Ab n x:=by
 induction n with
 |zero=>rfl
 |succ n ih=>simp[b8q,ih,List.replicate_succ]
theorem c8g (ts:List AV)(l:List a0h):b2j ts l=l.map (opd ts):=by
 induction l with
 |nil=>rfl
 |cons x l ih=>simp[b2j,ih]
theorem c0t {α:Type}(l:List α)(i n:Nat)(c:List α)(h:b0o l i n=AA c):c.length=n/\ ∀j,j<n->c[j]? =l[i+j]? :=by
 induction l generalizing i n c with
 |nil=>cases i<;>cases n<;>simp[b0o] at h;subst h;simp
 |cons x l ih=>
  cases i with
  |zero=>
   cases n with
   |zero=>simp[b0o] at h;subst h;simp
   |succ n=>
    simp only[b0o] at h;cases hr:b0o l 0 n with
    |none=>simp[hr] at h
    |some r=>
     simp[hr] at h;subst h;have:=ih 0 n r hr;refine⟨by simp[this.1],fun j hj=> ?_⟩;cases j with
     |zero=>simp
     |succ j=>have:=this.2 j (by omega);simp at this;simp[this]
  |succ i=>simp only[b0o] at h;have:=ih i n c h;refine⟨this.1,fun j hj=> ?_⟩;rw[this.2 j hj,show i+1+j=(i+j)+1 by omega];simp
theorem b5h {α:Type}(l:List α)(i:Nat)(new:List α)(r:List α)(h:b7y l i new=AA r):
 i+new.length<=l.length/\r=l.take i++new++l.drop (i+new.length):=by
 induction l generalizing i new r with
 |nil=>cases i<;>cases new<;>simp[b7y] at h;subst h;simp
 |cons x l ih=>
  cases i with
  |zero=>
   cases new with
   |nil=>simp[b7y] at h;subst h;simp
   |cons y new=>
    simp only[b7y] at h;cases hr:b7y l 0 new with
    |none=>simp[hr] at h
    |some r'=>simp[hr] at h;subst h;have:=ih 0 new r' hr;refine⟨by have:=this.1;simp at this⊢;omega,?_⟩;rw[this.2];simp
  |succ i=>
   simp only[b7y] at h;cases hr:b7y l i new with
   |none=>simp[hr] at h
   |some r'=>simp[hr] at h;subst h;have:=ih i new r' hr;refine⟨by have:=this.1;simp;omega,?_⟩;rw[this.2,show i+1+new.length=(i+new.length)+1 by omega];simp
theorem AV.normL_eq (l:List AV):AV.normL l=l.map AV.norm:=by
 induction l with
 |nil=>rfl
 |cons x l ih=>simp[AV.normL,ih]
theorem AV.forgetL_eq (m:Nat)(all:Bool)(l:List AV):AV.forgetL m all l=l.map (AV.forget m all):=by
 induction l with
 |nil=>rfl
 |cons x l ih=>simp[AV.forgetL,ih]
theorem a4i (m:Nat)(all:Bool)(l:List a0f):a2n m all l=l.map (a0f.forget m all):=by
 induction l with
 |nil=>rfl
 |cons x l ih=>simp[a2n,ih]
theorem VR.norm {w:AF}{S:Nat->Prop}{ρ:Rho}{x:AV}{v:AI}(h:VR w S ρ x v):VR w S ρ x.norm v:=by
 have key: ∀{cs:List AV} {vs:Array AI},(∀(i:Nat) (x:AV) (v:AI),cs[i]? =AA x->vs[i]? =AA v->VR w S ρ x.norm v)->
  ∀(i:Nat) (x:AV) (v:AI),(AV.normL cs)[i]? =AA x->vs[i]? =AA v->VR w S ρ x v:=by
  intro cs vs ih i x v hx hv;rw[AV.normL_eq,AK] at hx;cases hc:cs[i]? with
  |none=>simp[hc] at hx
  |some y=>simp[hc] at hx;subst hx;exact ih i y v hc hv
 induction h with
 | @d y u h=>
   cases y with
   |int k n=>cases h;exact .d (.int k (.v n.val))
   |_=>exact .d h
 |any v=>exact .any v
 |und=>exact .und
 |agg cs vs hl _ ih=>exact .agg _ vs (by simpa [AV.normL_eq] using hl) (key ih)
 |tuple cs vs hl _ ih=>exact .tuple _ vs (by simpa [AV.normL_eq] using hl) (key ih)
 |ptr l off b C h=>exact .ptr l off b C h
 |aptr l sz i off b C h=>exact .aptr l sz i off b C h
 |dptr row off b base f hb hv hr=>exact .dptr row off b base f hb hv hr
 |dfs sz n e a h=>exact .dfs sz n e a h
 |msl l sz AX len full ob C cap a h hc hcap ha=>exact .msl l sz AX len full ob C cap a h hc hcap ha
 |vsl l off n b C cap h hc=>exact .vsl l off n b C cap h hc
 |map l b C h=>exact .map l b C h
 |fn f first cap us vs hl1 _ hl _ ih1 ih=>exact .fn f _ _ us vs (by simpa [AV.normL_eq] using hl1) (key ih1) (by simpa [AV.normL_eq] using hl) (key ih)
 |ge m n h=>exact .ge m n h
 |yl l b C h=>exact .yl l b C h
def gone (l:Nat)(all:Bool)(m:Nat):Bool:=if all then AT l m else AD l m
theorem VR.forget {w w':AF}{S S':Nat->Prop}{ρ ρ':Rho}(hS: ∀b,S b->S' b)(hw: ∀b,S b->w'.heap[b]? =w.heap[b]?)(l:Nat)(all:Bool)
 (hρ: ∀m p,gone l all m=AC->ρ m=AA p->ρ' m=AA p) {x:AV} {v:AI} (h:VR w S ρ x v):VR w' S' ρ' (x.forget l all) v:=by
 have key: ∀{cs:List AV} {vs:Array AI},(∀(i:Nat) (x:AV) (v:AI),cs[i]? =AA x->vs[i]? =AA v->VR w' S' ρ' (x.forget l all) v)->
  ∀(i:Nat) (x:AV) (v:AI),(AV.forgetL l all cs)[i]? =AA x->vs[i]? =AA v->VR w' S' ρ' x v:=by
  intro cs vs ih i x v hx hv;rw[AV.forgetL_eq,AK] at hx;cases hc:cs[i]? with
  |none=>simp[hc] at hx
  |some y=>simp[hc] at hx;subst hx;exact ih i y v hc hv
 induction h with
 |d h=>exact .d (h.mono hS hw)
 |any v=>exact .any v
 |und=>exact .und
 |agg cs vs hl _ ih=>exact .agg _ vs (by simpa [AV.forgetL_eq] using hl) (key ih)
 |tuple cs vs hl _ ih=>exact .tuple _ vs (by simpa [AV.forgetL_eq] using hl) (key ih)
 |ptr m off b C h=>
  show VR w' S' ρ' (if gone l all m then .any else _) _;cases hg:gone l all m
  ·exact .ptr m off b C (hρ _ _ hg h)
  ·exact .any _
 |aptr m sz i off b C h=>
  show VR w' S' ρ' (if gone l all m then .any else _) _;cases hg:gone l all m
  ·exact .aptr m sz i off b C (hρ _ _ hg h)
  ·exact .any _
 |dptr row off b base f hb hv hr=>refine .dptr row off b base f (hS b hb) (fun j hj=> ?_) (fun j x hx=>(hr j x hx).mono hS hw);rw[cell?_congr (hw b hb)];exact hv j hj
 |dfs sz n e a h=>exact .dfs sz n e a (h.mono hS hw)
 |msl m sz AX len full ob C cap a h hc hcap ha=>
  show VR w' S' ρ' (if gone l all m then .any else _) _;cases hg:gone l all m
  ·exact .msl m sz AX len full ob C cap a (hρ _ _ hg h) hc hcap ha
  ·exact .any _
 |vsl m off n b C cap h hc=>
  show VR w' S' ρ' (if gone l all m then .any else _) _;cases hg:gone l all m
  ·exact .vsl m off n b C cap (hρ _ _ hg h) hc
  ·exact .any _
 |map m b C h=>
  show VR w' S' ρ' (if gone l all m then .any else _) _;cases hg:gone l all m
  ·exact .map m b C (hρ _ _ hg h)
  ·exact .any _
 |fn f first cap us vs hl1 _ hl _ ih1 ih=>exact .fn f _ _ us vs (by simpa [AV.forgetL_eq] using hl1) (key ih1) (by simpa [AV.forgetL_eq] using hl) (key ih)
 |ge m n h=>exact .ge m n h
 |yl m b C h=>
  show VR w' S' ρ' (if gone l all m then .any else _) _;cases hg:gone l all m
  ·exact .yl m b C (hρ _ _ hg h)
  ·exact .any _
def VRs (w:AF)(S:Nat->Prop)(ρ:Rho)(xs:List AV)(vs:Array AI):Prop:=
 xs.length=vs.size/\ ∀(i:Nat) (x:AV) (v:AI),xs[i]? =AA x->vs[i]? =AA v->VR w S ρ x v
def a2j:Rho:=fun _=>AB
structure d6d (w w':AF):Prop where
 os:w'.os=w.os
 tape:w'.tape=w.tape/\w.drawn<=w'.drawn
 output:w'.output=w.output
 size:w.heap.size<=w'.heap.size
 frame: ∀b,b<w.heap.size->w'.heap[b]? =w.heap[b]?
def c1p (P:AG)(f:AU):Prop:= ∃fn,P.funcs[f]? =AA fn/\fn.name≠ "runtime.NumGoroutine" /\fn.body≠AB
def a0j (P:AG)(own:Bool)(f:AU)(args:List AV)(r:AV):Prop:=
 c1p P f/\ ∀(w:AF) (S:Nat->Prop) (vs:Array AI),(∀b,S b->b<w.heap.size)->VRs w S a2j args vs->
  Calls P f vs w fun e w'=> ∃v S',e= .returned v/\VR w' S' a2j r v/\(∀b,S' b->(own=AC/\S b)\/(w.heap.size<=b/\b<w'.heap.size))/\d6d w w'
def e0c (P:AG)(f:AU)(args:List AV)(K:AV->List a0f->Prop):Prop:=
 c1p P f/\ ∀(w:AF) (S:Nat->Prop) (vs:Array AI),(∀b,S b->b<w.heap.size)->VRs w S a2j args vs->
  Calls P f vs w fun e w'=> ∃v x os S' ρ',e= .returned v/\K x os/\VR w' S' ρ' x v/\Sim w' S' ρ' os/\(∀b,S b->S' b)/\(∀b,S' b->S b\/w.heap.size<=b)/\
   (∀l b C,ρ' l=AA (AA b,C)->w.heap.size<=b)/\d6d w w'
def a1h (P:AG)(f:AU)(args:List AV)(h:List a0f)(K:List Nat->AV->List a0f->Prop):Prop:=
 c1p P f/\ ∀(w:AF) (S:Nat->Prop) (ρ:Rho) (vs:Array AI),Sim w S ρ h->VRs w S ρ args vs->
  Calls P f vs w fun e w'=> ∃v x pg h' S' ρ',e= .returned v/\K pg x h'/\VR w' S' ρ' x v/\Sim w' S' ρ' h'/\Ext w S ρ w' S' ρ'/\
   h.length<=h'.length/\ ∀l,l<h.length->l∉pg->ρ' l=ρ l
def b5d (P:AG)(l:Nat)(args:List AV)(h:List a0f)(K:List Nat->AV->List a0f->Prop):Prop:=
 ∀(w:AF) (S:Nat->Prop) (ρ:Rho) (vs:Array AI) (b C:Nat),Sim w S ρ h->VRs w S ρ args vs->ρ l=AA (AA b,C)->
  YieldAt Fence.wide 0 P b vs w fun e w'=> ∃v x pg h' S' ρ',e= .returned v/\K pg x h'/\VR w' S' ρ' x v/\Sim w' S' ρ' h'/\Ext w S ρ w' S' ρ'/\
   h.length<=h'.length/\ ∀l,l<h.length->l∉pg->ρ' l=ρ l
structure Ent where
 w:AF
 S:Nat->Prop
 ρ:Rho
 base:Nat
 ds:List Ai
structure d4q (w:AF)(S:Nat->Prop)(ρ:Rho)(n D:Nat):Prop where
 obj:w.heap[D]? =AA (.deferred (AA []))
 new:n<=D
 out: ∀l C,ρ l≠AA (AA D,C)
 imm: ¬S D
theorem d4q.ext {w w':AF}{S S':Nat->Prop}{ρ ρ':Rho}{n D:Nat}(m:d4q w S ρ n D)(e:Ext w S ρ w' S' ρ'):d4q w' S' ρ' n D:=by
 have hlt:D<w.heap.size:=(AR.1 m.obj).1;refine⟨(e.frame D hlt m.out).trans m.obj,m.new,fun l C hl=> ?_,fun hs=> ?_⟩
 ·rcases e.owned l D C hl with h|⟨l',C',h⟩
  ·omega
  ·exact m.out _ _ h
 ·rcases e.news D hs with h|h|⟨l',C',h⟩
  ·exact m.imm h
  ·omega
  ·exact m.out _ _ h
def b4p (w:AF)(S:Nat->Prop)(ρ:Rho)(n:Nat)(base ds:List Ai):Prop:=
 ∃Ds:List Nat,ds=Ds.map (fun D=>{target:= .collected D,args:= #[]})++base/\(∀D,D∈Ds->d4q w S ρ n D)/\Ds.Pairwise (· ≠ ·)
theorem b4p.nil (w:AF)(S:Nat->Prop)(ρ:Rho)(n:Nat)(base:List Ai):b4p w S ρ n base base:=⟨[],rfl,by simp,.nil⟩
theorem b4p.ext {w w':AF}{S S':Nat->Prop}{ρ ρ':Rho}{n:Nat}{base ds:List Ai}(m:b4p w S ρ n base ds)(e:Ext w S ρ w' S' ρ'):b4p w' S' ρ' n base ds:=by obtain⟨Ds,h1,h2,h3⟩:=m;exact⟨Ds,h1,fun D hD=>(h2 D hD).ext e,h3⟩
structure Rel (E:Ent)(st:St)(a:Act)(w:AF)(S:Nat->Prop)(ρ:Rho):Prop where
 ts:VRs w S ρ st.ts a.tmps
 ds:b4p w S ρ E.w.heap.size E.ds a.defers
 sim:Sim w S ρ st.h
 ext:Ext E.w E.S E.ρ w S ρ
 keep: ∀l,l<E.base->l∉st.mv->ρ l=E.ρ l
 len:E.base<=st.h.length
def a3i:Option Nat->Fence
 |none=>Fence.wide
 |some l=>Fence.wide.inRound l
def a9d:Exit->Option Lv
 | .normal=>AA .normal
 | .exit id=>AA (.exit id)
 | .ret=>AA .ret
 |_=>AB
def c7n (E:Ent)(Q:Lv->St->Prop):Exit->Act->AF->Prop:=
 fun e a w=> ∃lv st S ρ,a9d e=AA lv/\Q lv st/\Rel E st a w S ρ
def AWP (P:AG)(ro:Option Nat)(E:Ent)(c:Ak)(Q:Lv->St->Prop)(st:St):Prop:=
 ∀a w S ρ,Rel E st a w S ρ->c.wpIn (a3i ro) 0 P (c7n E Q) a w
def std (P:AG)(A:Ann)(ro:Option Nat)(E:Ent):Sig where
 iadd x y:=x+y
 isub x y:=x-y
 imul x y:=x*y
 iquo x y:=x.tdiv y
 irem x y:=x.tmod y
 iwrap k x:=k.wrap x
 ilt x y:=decide (x<y)
 ile x y:=decide (x<=y)
 ieq x y:=x==y
 isel c x y:=if c then x else y
 bnot b:=!b
 band a b:=a&&b
 beq a b:=a==b
 bsel c a b:=if c then a else b
 ofNat n:=(n:Int)
 toNat n:=n.toNat
 nadd a b:=a+b
 nsub a b:=a-b
 nmul a b:=a*b
 nlt a b:=decide (a<b)
 inr k x:=k.wrap x=x
 inb i n:=0<=i/\i<n
 pnlt a b:=a<b
 pnle a b:=a<=b
 pile a b:=a<=b
 nz x:=x≠0
 req p q:=p/\q
 alln p:= ∀n,p n
 top:=ro=AB
 upd e i row:=fun j=>if j=i then row else e j
 app n e e2:=fun j=>if j<n then e j else e2 (j-n)
 shift e s:=fun j=>e (s+j)
 rowsOk sz n e:= ∀i,i<n->(e i).length=sz
 put at' m e e2:=fun j=>if at'<=j/\j<at'+m then e2 (j-at') else e j
 rep n zs:=fun i=>if i<n then zs else []
 nmin m n:=min m n
 sidx l i:=((l.getD i.toNat 0).toNat:Int)
 ibits:=d2j
 ishift:=c2b
 mget f k:=(f k).getD 0
 mhas f k:=(f k).isSome
 mset f k v:=fun k'=>if k'=k then AA v else f k'
 mcnt f k n:=if (f k).isSome then n else n+1
 same x y:=x=y
 callb own f args K:= ∃r,a0j P own f args r/\K r
 calln f args K:=e0c P f args K
 call f args h K:=a1h P f args h K
 yld l args h K:=b5d P l args h K
 loop ic Q st:= ∀c,comp P A c=AA ic->AWP P ro E (.loop c) Q st
 range f ps a b Q st:= ∀f' ps' a' b',a0g f'=AA f->ps'.toList=ps->comp P A a'=AA a->comp P A b'=AA b->AWP P ro E (.rangeFunc f' ps' a' b') Q st
def h4b:List Nat->List a0f->List a0f
 |[],h=>h
 |l::pg,h=>h4b pg (a2n l AC h)
def a3g:List Nat->AV->AV
 |[],x=>x
 |l::pg,x=>a3g pg (x.forget l AC)
structure Chg (w:AF)(S:Nat->Prop)(ρ:Rho)(h:List a0f)(w':AF)(S':Nat->Prop)(ρ':Rho)(h':List a0f)(pg:List Nat):Prop where
 sim:Sim w' S' ρ' h'
 len:h.length<=h'.length
 ext:Ext w S ρ w' S' ρ'
 keep: ∀m p,m∉pg->ρ m=AA p->ρ' m=AA p
 low: ∀m,m<h.length->m∉pg->ρ' m=ρ m
theorem Chg.refl {w:AF}{S:Nat->Prop}{ρ:Rho}{h:List a0f}(s:Sim w S ρ h):Chg w S ρ h w S ρ h []:=
 ⟨s,AN _,.refl w S ρ,fun _ _ _ h=>h,fun _ _ _=>rfl⟩
theorem Chg.new {w:AF}{S:Nat->Prop}{ρ:Rho}{h:List a0f}(s:Sim w S ρ h)(hl:ρ h.length=AB)(o:Obj)(ao:a0f)(C:Nat)
 (ho: ∀w':AF,w'.heap=w.heap.push o->a0z w' S ρ w.heap.size C ao):
 Chg w S ρ h {w with heap:=w.heap.push o} S (fun m=>if m=h.length then AA (AA w.heap.size,C) else ρ m) (h++[ao]) []:=by
 have hold: ∀b,b<w.heap.size->(w.heap.push o)[b]? =w.heap[b]? :=fun b hb=>by rw[Af,if_neg (by omega)]
 have hρ: ∀m p,ρ m=AA p->(if m=h.length then AA (AA w.heap.size,C) else ρ m)=AA p:=by intro m p hm;rw[if_neg (fun e=>by subst e;simp[hl] at hm)];exact hm
 have hblk: ∀m b C',ρ m=AA (AA b,C')->b<w.heap.size:=by
  intro m b C' hm;obtain⟨o',_,h2⟩:=s.obj m (AA b) C' hm;have: ∃x,w.heap[b]? =AA x:=by
   cases o' with
   |var cs=>obtain⟨vs,ty,h3,_⟩:=h2;exact⟨_,h3⟩
   |arr sz n e=>obtain⟨vs,ty,h3,_⟩:=h2;exact⟨_,h3⟩
   |frz sz n e=>obtain⟨_,vs,ty,fr,h3,_⟩:=h2;exact⟨_,h3⟩
   |map wide ks n f=>obtain⟨es,clock,h3,_⟩:=h2;exact⟨_,h3⟩
   |mapv wide ks keys vals=>obtain⟨es,clock,h3,_⟩:=h2;exact⟨_,h3⟩
   |loop s ts ps code=>obtain⟨r,h3,_⟩:=h2;exact⟨_,h3⟩
   |gone=>exact⟨_,Ac (s.sblk b h2)⟩
   |arrv vals=>obtain⟨vs,ty,h3,_⟩:=h2;exact⟨_,h3⟩
  obtain⟨x,hx⟩:=this;exact (AR.1 hx).1
 refine⟨⟨fun b hb=> ?_,fun m ob C' hm=> ?_,fun m m' b C1 C2 h1 h2=> ?_,fun m b C' ao' hm hao hf=> ?_⟩,by simp,⟨rfl,⟨rfl,AN _⟩,rfl,by simp,fun _ h=>h,fun b hb=>hold b (s.sblk b hb),fun _ h=> .inl h,fun b hb _=>hold b hb,fun m b C' hm=> ?_⟩,fun m p _ hm=>hρ m p hm,fun m hm _=>if_neg (by omega)⟩
 ·have:=s.sblk b hb;simp;omega
 ·show∃o,(h++[ao])[m]? =AA o/\_;by_cases e:m=h.length
  ·rw[if_pos e] at hm;cases hm;refine⟨ao,by simp[e],?_⟩;show a0z _ _ _ _ _ _;refine (ho {w with heap:=w.heap.push o} rfl).mono (fun _ h=>h) (fun _ _=>rfl) hρ rfl
  ·rw[if_neg e] at hm;obtain⟨o',h1,h2⟩:=s.obj m ob C' hm;refine⟨o',by rw[Ad (AP.1 h1).1];exact h1,?_⟩;cases ob with
   |none=>exact h2
   |some b=>exact a0z.mono (fun _ h=>h) (fun b hb=>hold b (s.sblk b hb)) hρ (hold b (hblk m b C' hm)) h2
 ·by_cases e1:m=h.length<;>by_cases e2:m'=h.length
  ·rw[e1,e2]
  ·rw[if_pos e1] at h1;rw[if_neg e2] at h2;cases h1;have:=hblk _ _ _ h2;omega
  ·rw[if_neg e1] at h1;rw[if_pos e2] at h2;cases h2;have:=hblk _ _ _ h1;omega
  ·rw[if_neg e1] at h1;rw[if_neg e2] at h2;exact s.inj m m' b C1 C2 h1 h2
 ·by_cases e:m=h.length
  ·rw[if_pos e] at hm;cases hm;intro hs;have:=s.sblk _ hs;omega
  ·rw[if_neg e] at hm;obtain⟨o',h1,_⟩:=s.obj m _ C' hm;have hao:(h++[ao])[m]? =AA ao':=hao;rw[Ad (AP.1 h1).1] at hao;exact s.own m b C' ao' hm hao hf
 ·by_cases e:m=h.length
  ·rw[if_pos e] at hm;cases hm;exact .inl (AN _)
  ·rw[if_neg e] at hm;exact .inr ⟨m,C',hm⟩
theorem Sim.blk {w:AF}{S:Nat->Prop}{ρ:Rho}{h:List a0f}(s:Sim w S ρ h){m b C:Nat}(hm:ρ m=AA (AA b,C)):b<w.heap.size:=by
 obtain⟨o',_,h2⟩:=s.obj m (AA b) C hm;have: ∃x,w.heap[b]? =AA x:=by
  cases o' with
  |var cs=>obtain⟨vs,ty,h3,_⟩:=h2;exact⟨_,h3⟩
  |arr sz n e=>obtain⟨vs,ty,h3,_⟩:=h2;exact⟨_,h3⟩
  |frz sz n e=>obtain⟨_,vs,ty,fr,h3,_⟩:=h2;exact⟨_,h3⟩
  |map wide ks n f=>obtain⟨es,clock,h3,_⟩:=h2;exact⟨_,h3⟩
  |mapv wide ks keys vals=>obtain⟨es,clock,h3,_⟩:=h2;exact⟨_,h3⟩
  |loop s ts ps code=>obtain⟨r,h3,_⟩:=h2;exact⟨_,h3⟩
  |gone=>exact⟨_,Ac (s.sblk b h2)⟩
  |arrv vals=>obtain⟨vs,ty,h3,_⟩:=h2;exact⟨_,h3⟩
 obtain⟨x,hx⟩:=this;exact (AR.1 hx).1
theorem Chg.set {w:AF}{S:Nat->Prop}{ρ:Rho}{h:List a0f}(s:Sim w S ρ h){l b C:Nat}{o o':a0f}(hρl:ρ l=AA (AA b,C))(hl:h[l]? =AA o)
 (hf:o.frozen=AC) {w':AF} (hos:w'.os=w.os) (htp:w'.tape=w.tape/\w.drawn<=w'.drawn) (hout:w'.output=w.output) (hsz:w'.heap.size=w.heap.size)
 (hw: ∀k,k≠b->w'.heap[k]? =w.heap[k]?) (ho:a0z w' S ρ b C o'):
 Chg w S ρ h w' S ρ (h.set l o') []:=by
 have hnS: ¬S b:=s.own l b C o hρl hl hf;have hS: ∀k,S k->w'.heap[k]? =w.heap[k]? :=fun k hk=>hw k (fun e=>hnS (e▸hk));have hlt:=(AP.1 hl).1;refine⟨⟨fun k hk=>by rw[hsz];exact s.sblk k hk,fun m ob C' hm=> ?_,s.inj,fun m k C' ao hm hao hfz=> ?_⟩,by simp,
  ⟨hos,htp,hout,by rw[hsz];exact AN _,fun _ h=>h,hS,fun _ h=> .inl h,fun k _ hn=>hw k (fun e=>hn l C (e▸hρl)),fun m k C' hm=> .inr ⟨m,C',hm⟩⟩,
  fun _ _ _ hm=>hm,fun _ _ _=>rfl⟩
 ·show∃o,(h.set l o')[m]? =AA o/\_;by_cases e:m=l
  ·subst e;rw[hρl] at hm;cases hm;exact⟨o',by simp[hlt],ho⟩
  ·obtain⟨o1,h1,h2⟩:=s.obj m ob C' hm;refine⟨o1,by rw[AL (AY e)];exact h1,?_⟩;cases ob with
   |none=>exact h2
   |some k=>refine a0z.mono (fun _ h=>h) hS (fun _ _ h=>h) (hw k fun ek=> ?_) h2;subst ek;exact e (s.inj m l k C' C hm hρl)
 ·by_cases e:m=l
  ·subst e;rw[hρl] at hm;cases hm;exact hnS
  ·exact s.own m k C' ao hm (by rw[<-hao];show _=(h.set l o')[m]?;rw[AL (AY e)]) hfz
theorem Chg.frz {w:AF}{S:Nat->Prop}{ρ:Rho}{h:List a0f}(s:Sim w S ρ h){l:Nat}{ob:Option Nat}{C sz n:Nat}{e:Nat->List DV}(hρl:ρ l=AA (ob,C))
 (hl:h[l]? =AA (.arr sz n e)):Chg w S ρ h w (fun b=>S b\/ob=AA b) ρ (h.set l (.frz sz n e)) []:=by
 have hlt:=(AP.1 hl).1;have hS: ∀b,S b->S b\/ob=AA b:=fun _ h=> .inl h;refine⟨⟨fun k hk=> ?_,fun m ob' C' hm=> ?_,s.inj,fun m k C' ao hm hao hfz=> ?_⟩,by simp,
  ⟨rfl,⟨rfl,AN _⟩,rfl,AN _,hS,fun _ _=>rfl,fun k hk=> ?_,fun _ _ _=>rfl,fun m k C' hm=> .inr ⟨m,C',hm⟩⟩,
  fun _ _ _ hm=>hm,fun _ _ _=>rfl⟩
 ·rcases hk with hk|hk
  ·exact s.sblk k hk
  ·subst hk;exact s.blk hρl
 ·show∃o,(h.set l (.frz sz n e))[m]? =AA o/\_;by_cases em:m=l
  ·subst em;rw[hρl] at hm;cases hm;refine⟨.frz sz n e,by simp[hlt],?_⟩;obtain⟨o1,h1,h2⟩:=s.obj m ob C hρl;rw[hl] at h1;cases h1;cases ob with
   |none=>obtain⟨hC,sz',e',h3|h3⟩:=h2<;>cases h3;exact⟨hC,sz,e,.inr rfl⟩
   |some b=>obtain⟨vs,ty,h3,h4,h5,h6⟩:=h2;exact⟨.inr rfl,vs,ty,_,h3,h4,h5,fun i hi=>⟨(h6 i hi).1,fun j x v hx hv=>((h6 i hi).2 j x v hx hv).mono hS fun _ _=>rfl⟩⟩
  ·obtain⟨o1,h1,h2⟩:=s.obj m ob' C' hm;refine⟨o1,by rw[AL (AY em)];exact h1,?_⟩;cases ob' with
   |none=>exact h2
   |some k=>exact a0z.mono hS (fun _ _=>rfl) (fun _ _ h=>h) rfl h2
 ·by_cases em:m=l
  ·subst em;have:(h.set m (.frz sz n e))[m]? =AA ao:=hao;simp[hlt] at this;subst this;cases hfz
  ·have hao':h[m]? =AA ao:=by rw[<-hao];show _=(h.set l (.frz sz n e))[m]?;rw[AL (AY em)]
   intro hk;rcases hk with hk|hk
   ·exact s.own m k C' ao hm hao' hfz hk
   ·subst hk;exact em (s.inj m l k C' C hm hρl)
 ·rcases hk with hk|hk
  ·exact .inl hk
  ·subst hk;exact .inr (.inr ⟨l,C,hρl⟩)
theorem a3s (l:Nat)(all:Bool)(h:List a0f)(m:Nat):(a2n l all h)[m]? =(h[m]?).map (a0f.forget l all):=by rw[a4i,AK]
theorem a0f.forget_frozen (l:Nat)(all:Bool)(o:a0f):(o.forget l all).frozen=o.frozen:=by cases o<;>rfl
theorem a0z.forget {w w':AF}{S S':Nat->Prop}{ρ ρ':Rho}(hS: ∀b,S b->S' b)(hw: ∀b,S b->w'.heap[b]? =w.heap[b]?)(l:Nat)(all:Bool)
 (hρ: ∀m p,gone l all m=AC->ρ m=AA p->ρ' m=AA p) {b C:Nat} (hb:w'.heap[b]? =w.heap[b]?) {o:a0f} (h:a0z w S ρ b C o):
 a0z w' S' ρ' b C (o.forget l all):=by
 cases o with
 |var cs=>
  obtain⟨vs,ty,h1,h2,h3⟩:=h;refine⟨vs,ty,hb▸h1,by simpa [AV.forgetL_eq] using h2,fun i x v hx hv=> ?_⟩;rw[AV.forgetL_eq,AK] at hx;cases hc:cs[i]? with
  |none=>simp[hc] at hx
  |some y=>simp[hc] at hx;subst hx;exact (h3 i y v hc hv).forget hS hw l all hρ
 |arr sz n e=>obtain⟨vs,ty,h1,h2,h3,h4⟩:=h;exact⟨vs,ty,hb▸h1,h2,h3,fun i hi=>⟨(h4 i hi).1,fun j x v hx hv=>((h4 i hi).2 j x v hx hv).mono hS hw⟩⟩
 |frz sz n e=>obtain⟨h0,vs,ty,fr,h1,h2,h3,h4⟩:=h;exact⟨hS b h0,vs,ty,fr,hb▸h1,h2,h3,fun i hi=>⟨(h4 i hi).1,fun j x v hx hv=>((h4 i hi).2 j x v hx hv).mono hS hw⟩⟩
 |map wide ks n f=>obtain⟨es,clock,h1,h2⟩:=h;exact⟨es,clock,hb▸h1,h2⟩
 |mapv wide ks keys vals=>
  obtain⟨es,clock,h1,h2,h3,h4⟩:=h;refine⟨es,clock,hb▸h1,h2,by simpa [AV.forgetL_eq] using h3,fun i x v hx hv=> ?_⟩;rw[AV.forgetL_eq,AK] at hx;cases hc:vals[i]? with
  |none=>simp[hc] at hx
  |some y=>simp[hc] at hx;subst hx;exact (h4 i y v hc hv).forget hS hw l all hρ
 |loop s ts ps code=>
  obtain⟨r,h1,h2,h3,h4,h5,h6,h7⟩:=h;refine⟨r,hb▸h1,h2,h3,h4,h5,by simpa [AV.forgetL_eq] using h6,fun i x v hx hv=> ?_⟩;rw[AV.forgetL_eq,AK] at hx;cases hc:ts[i]? with
  |none=>simp[hc] at hx
  |some y=>simp[hc] at hx;subst hx;exact (h7 i y v hc hv).forget hS hw l all hρ
 |gone=>exact hS b h
 |arrv vals=>
  obtain⟨vs,ty,h1,h2,h3,h4⟩:=h;refine⟨vs,ty,hb▸h1,h2,by simpa [AV.forgetL_eq] using h3,fun i x v hx hv=> ?_⟩;rw[AV.forgetL_eq,AK] at hx;cases hc:vals[i]? with
  |none=>simp[hc] at hx
  |some y=>simp[hc] at hx;subst hx;exact (h4 i y v hc hv).forget hS hw l all hρ
theorem Chg.moveO {w:AF}{S:Nat->Prop}{ρ:Rho}{h:List a0f}(s:Sim w S ρ h){l:Nat}{ob:Option Nat}{C:Nat}(hρl:ρ l=AA (ob,C))(hl:l<h.length)
 (o:Obj) (ao:a0f) (hao:ao.frozen=AC) (C':Nat) (ho: ∀w':AF,w'.heap=w.heap.push o->a0z w' S ρ w.heap.size C' ao):
 Chg w S ρ h {w with heap:=w.heap.push o} S (fun m=>if m=l then AA (AA w.heap.size,C') else ρ m) (a2n l AC (h.set l ao)) [l]:=by
 have hold: ∀b,b<w.heap.size->(w.heap.push o)[b]? =w.heap[b]? :=fun b hb=>by rw[Af,if_neg (by omega)]
 have hρ: ∀m p,gone l AC m=AC->ρ m=AA p->(if m=l then AA (AA w.heap.size,C') else ρ m)=AA p:=by intro m p hg hm;rw[if_neg (fun e=>by subst e;simp[gone] at hg)];exact hm
 have hget: ∀m,m≠l->(a2n l AC (h.set l ao))[m]? =(h[m]?).map (a0f.forget l AC):=by intro m hm;rw[a3s,AL (AY hm)]
 have hgetl:(a2n l AC (h.set l ao))[l]? =AA (ao.forget l AC):=by rw[a3s];simp[hl]
 refine⟨⟨fun b hb=> ?_,fun m ob' C1 hm=> ?_,fun m m' b C1 C2 h1 h2=> ?_,fun m b C1 ao' hm hao' hf=> ?_⟩,by rw[a4i];simp,
  ⟨rfl,⟨rfl,AN _⟩,rfl,by simp,fun _ h=>h,fun b hb=>hold b (s.sblk b hb),fun _ h=> .inl h,fun b hb _=>hold b hb,fun m b C1 hm=> ?_⟩,
  fun m p hm hp=>hρ m p (by show AD l m=AC;cases hb:AD l m with|false=>rfl|true=>exact absurd (by simp[Nat.eq_of_beq_eq_true hb]) hm) hp,fun m _ hm=>if_neg (by simpa using hm)⟩
 ·have:=s.sblk b hb;simp;omega
 ·show∃o,(a2n l AC (h.set l ao))[m]? =AA o/\_;by_cases em:m=l
  ·subst em;rw[if_pos rfl] at hm;cases hm;refine⟨_,hgetl,?_⟩;have h0:=ho {w with heap:=w.heap.push o} rfl;exact a0z.forget (o:=ao) (fun _ h=>h) (fun _ _=>rfl) m AC hρ rfl h0
  ·rw[if_neg em] at hm;obtain⟨o',h1,h2⟩:=s.obj m ob' C1 hm;refine⟨o'.forget l AC,by rw[hget m em,h1];rfl,?_⟩;cases ob' with
   |none=>
    obtain⟨hC,sz',e',h3|h3⟩:=h2<;>subst h3
    ·exact⟨hC,sz',e',.inl rfl⟩
    ·exact⟨hC,sz',e',.inr rfl⟩
   |some b=>exact a0z.forget (fun _ h=>h) (fun b hb=>hold b (s.sblk b hb)) l AC hρ (hold b (s.blk hm)) h2
 ·by_cases e1:m=l<;>by_cases e2:m'=l
  ·rw[e1,e2]
  ·rw[if_pos e1] at h1;rw[if_neg e2] at h2;cases h1;have:=s.blk h2;omega
  ·rw[if_neg e1] at h1;rw[if_pos e2] at h2;cases h2;have:=s.blk h1;omega
  ·rw[if_neg e1] at h1;rw[if_neg e2] at h2;exact s.inj m m' b C1 C2 h1 h2
 ·by_cases em:m=l
  ·rw[if_pos em] at hm;cases hm;intro hs;have:=s.sblk _ hs;omega
  ·rw[if_neg em] at hm;have:(a2n l AC (h.set l ao))[m]? =AA ao':=hao';rw[hget m em] at this;cases hc:h[m]? with
   |none=>simp[hc] at this
   |some y=>simp[hc] at this;subst this;rw[a0f.forget_frozen] at hf;exact s.own m b C1 y hm hc hf
 ·by_cases em:m=l
  ·rw[if_pos em] at hm;cases hm;exact .inl (AN _)
  ·rw[if_neg em] at hm;exact .inr ⟨m,C1,hm⟩
theorem Chg.move {w:AF}{S:Nat->Prop}{ρ:Rho}{h:List a0f}(s:Sim w S ρ h){l:Nat}{ob:Option Nat}{C:Nat}(hρl:ρ l=AA (ob,C))(hl:l<h.length)
 (o:Obj) (sz n:Nat) (e:Nat->List DV) (C':Nat) (ho: ∀w':AF,w'.heap=w.heap.push o->a0z w' S ρ w.heap.size C' (.arr sz n e)):
 Chg w S ρ h {w with heap:=w.heap.push o} S (fun m=>if m=l then AA (AA w.heap.size,C') else ρ m) (a2n l AC (h.set l (.arr sz n e))) [l]:=
 Chg.moveO s hρl hl o (.arr sz n e) rfl C' ho
theorem Sim.forget {w:AF}{S:Nat->Prop}{ρ:Rho}{h:List a0f}(s:Sim w S ρ h)(l:Nat)(all:Bool):Sim w S ρ (a2n l all h) where
 sblk:=s.sblk
 obj m ob C hm:=by
  obtain⟨o,h1,h2⟩:=s.obj m ob C hm;refine⟨o.forget l all,by rw[a3s,h1];rfl,?_⟩;cases ob with
  |none=>
   obtain⟨hC,sz',e',h3|h3⟩:=h2<;>subst h3
   ·exact⟨hC,sz',e',.inl rfl⟩
   ·exact⟨hC,sz',e',.inr rfl⟩
  |some b=>exact a0z.forget (fun _ h=>h) (fun _ _=>rfl) l all (fun _ _ _ h=>h) rfl h2
 inj:=s.inj
 own m b C o hm ho hf:=by
  rw[a3s] at ho;cases hc:h[m]? with
  |none=>simp[hc] at ho
  |some y=>simp[hc] at ho;subst ho;rw[a0f.forget_frozen] at hf;exact s.own m b C y hm hc hf
theorem Chg.purged {w:AF}{S:Nat->Prop}{ρ:Rho}{h:List a0f}{w':AF}{S':Nat->Prop}{ρ':Rho}{h':List a0f}(c:Chg w S ρ h w' S' ρ' h' [])(pg:List Nat):
 Chg w S ρ h w' S' ρ' h' pg:=
 ⟨c.sim,c.len,c.ext,fun m p _ hm=>c.keep m p (by simp) hm,fun m hm _=>c.low m hm (by simp)⟩
theorem Chg.forgot {w:AF}{S:Nat->Prop}{ρ:Rho}{h:List a0f}{w':AF}{S':Nat->Prop}{ρ':Rho}{h':List a0f}{pg:List Nat}(c:Chg w S ρ h w' S' ρ' h' pg)(l:Nat):
 Chg w S ρ h w' S' ρ' (a2n l AC h') pg:=
 ⟨c.sim.forget l AC,by rw[a4i];simpa using c.len,c.ext,c.keep,c.low⟩
theorem VR.forgets {w w':AF}{S S':Nat->Prop}(hS: ∀b,S b->S' b)(hw: ∀b,S b->w'.heap[b]? =w.heap[b]?){ρ':Rho}(pg:List Nat):
 ∀{ρ:Rho},(∀m p,m∉pg->ρ m=AA p->ρ' m=AA p)-> ∀{x:AV} {v:AI},VR w S ρ x v->VR w' S' ρ' (a3g pg x) v:=by
 induction pg with
 |nil=>intro ρ hρ x v h;exact h.mono hS hw (fun m p=>hρ m p (by simp))
 |cons l pg ih=>
  intro ρ hρ x v h;have h1:VR w S (fun m=>if m=l then AB else ρ m) (x.forget l AC) v:=by refine VR.forget (fun _ h=>h) (fun _ _=>rfl) l AC (fun m p hg hm=> ?_) h;show (if m=l then AB else ρ m)=AA p;rw[if_neg (fun e=>by subst e;simp[gone] at hg)];exact hm
  refine ih (ρ:=fun m=>if m=l then AB else ρ m) (fun m p hm hp=> ?_) h1;by_cases e:m=l
  ·simp[e] at hp
  ·simp[e] at hp;exact hρ m p (by simp[e,hm]) hp
theorem a1r (pg:List Nat): ∀(st:St),(st.purge pg).ts=st.ts.map (a3g pg)/\(st.purge pg).h=st.h:=by
 induction pg with
 |nil=>intro st;simp[St.purge,a3g]
 |cons l pg ih=>intro st;obtain⟨h1,h2⟩:=ih ⟨AV.forgetL l AC st.ts,st.h,l::st.mv⟩;refine⟨?_,h2⟩;show (St.purge _ pg).ts=_;rw[h1];simp only[AV.forgetL_eq,List.map_map];rfl
theorem d2t (pg:List Nat): ∀(st:St) (m:Nat),m∉(st.purge pg).mv->m∉pg/\m∉st.mv:=by
 induction pg with
 |nil=>intro st m h;exact⟨by simp,h⟩
 |cons l pg ih=>intro st m h;have:=ih ⟨AV.forgetL l AC st.ts,st.h,l::st.mv⟩ m h;simp at this⊢;exact⟨⟨this.2.1,this.1⟩,this.2.2⟩
theorem h6c (pg:List Nat): ∀(h:List a0f),(h4b pg h).length=h.length:=by
 induction pg with
 |nil=>intro h;rfl
 |cons l pg ih=>intro h;simp[h4b,ih,a4i]
theorem Rel.step {E:Ent}{st:St}{a:Act}{w:AF}{S:Nat->Prop}{ρ:Rho}(r:Rel E st a w S ρ){w':AF}{S':Nat->Prop}{ρ':Rho}{h':List a0f}{pg:List Nat}
 (c:Chg w S ρ st.h w' S' ρ' h' pg) (dst:Option Nat) {x:AV} {v:AI} (hv:VR w' S' ρ' x v):
 Rel E (((st.setH h').purge pg).put dst x) (a.put dst v) w' S' ρ':=by
 have hp:=a1r pg (st.setH h');have hts:VRs w' S' ρ' ((st.setH h').purge pg).ts a.tmps:=by
  refine⟨by rw[hp.1];simpa [St.setH] using r.ts.1,fun i y u hy hu=> ?_⟩;rw[hp.1,AK] at hy;cases hc:st.ts[i]? with
  |none=>simp[St.setH,hc] at hy
  |some z=>simp[St.setH,hc] at hy;subst hy;exact VR.forgets c.ext.mono c.ext.cell pg c.keep (r.ts.2 i z u hc hu)
 have h1:Sim w' S' ρ' ((st.setH h').purge pg).h:=by rw[hp.2];exact c.sim
 have h2: ∀l,l<E.base->l∉((st.setH h').purge pg).mv->ρ' l=E.ρ l:=by intro l hl hm;obtain⟨h3,h4⟩:=d2t pg _ l hm;rw[c.low l (Ah hl r.len) h3];exact r.keep l hl h4
 have h3:E.base<=((st.setH h').purge pg).h.length:=by rw[hp.2];exact AQ r.len c.len
 cases dst with
 |none=>exact⟨hts,r.ds.ext c.ext,h1,r.ext.trans c.ext,h2,h3⟩
 |some d=>
  refine⟨⟨by simpa [St.put,Act.put,a0l] using hts.1,fun i y u hy hu=> ?_⟩,r.ds.ext c.ext,h1,r.ext.trans c.ext,h2,h3⟩;simp only[St.put,a0l] at hy;simp only[Act.put] at hu;by_cases e:i=d
  ·subst e;rw[List.getElem?_set] at hy;rw[Array.getElem?_setIfInBounds] at hu;simp at hy hu;obtain⟨_,rfl⟩:=hy;obtain⟨_,rfl⟩:=hu;exact hv
  ·rw[AL (AY e)] at hy;rw[Array.getElem?_setIfInBounds_ne (AY e)] at hu;exact hts.2 i y u hy hu
end Go.Vf
