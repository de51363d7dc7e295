/- The executor's first text: data values, abstract values, the relation to the model's memory; what a change of memory leaves standing. The executor's second text: the resolved operations and what each does to an abstract state, as a predicate transformer. The executor's third text: code. The executor's fourth text: how the model's code becomes resolved operations. The executor's fifth text: what a contract says; what the closed words mean; how changes of memory are followed. Conditions: none. -/
import Derived.OrdersIn
import Derived.KernelRfl
import Derived.Laws.Sem
import GoSem.ClaimKeys
import Derived.Laws.Cells
import Derived.Laws.CopyRow
import Derived.Laws.Rows
import Derived.Laws.Entries
import Derived.ChangeKeysEq
import Derived.RangeFuncCalls
import Derived.RangeFuncLeaves
set_option linter.unusedSimpArgs false
set_option linter.unusedVariables false

namespace Go.Vf
open Go

inductive KC where
  | i (n : Int)
  | o (b : Bool)
  | s (l : List UInt8)
  deriving DecidableEq

/-- An integer of a data value: known as a numeral, or not. -/
inductive IX where
  | v (n : Int)
  | l (n : Int)

def IX.val : IX → Int
  | .v n => n
  | .l n => n

inductive DV where
  | int (k : IntKind) (n : IX)
  | bool (b : Bool)
  | str (l : List UInt8)
  | nil
  | sl (sz n : Nat) (e : Nat → List DV)
  | raw (v : Value)

inductive AV where
  | d (x : DV)
  | any
  | und
  | agg (cs : List AV)
  | tuple (vs : List AV)
  | ptr (l off : Nat)
  | aptr (l sz i off : Nat)
  | dptr (row : List DV) (off : Nat)
  | dfs (sz n : Nat) (e : Nat → List DV)
  | msl (l sz : Nat) (start : Option Nat) (len : Nat) (full : Bool)
  | vsl (l off n : Nat)
  | map (l : Nat)
  | fn (f : FuncId) (first cap : List AV)
  | ge (m : Nat)
  | yl (l : Nat)

/-- How a piece of code is left. -/
inductive Lv where
  | normal
  | exit (id : Nat)
  | ret

/-- The state of a loop over a function. -/
inductive LSt where
  | ready
  | busy
  | done (lv : Lv)
  | over (lv : Lv)

def Lv.jump : Lv → Option Code
  | .normal => none
  | .exit id => some (.exit id)
  | .ret => some .ret

def LSt.state : LSt → LoopState
  | .ready => .ready
  | .busy => .busy
  | .done _ => .done
  | .over _ => .exhausted

def LSt.pend : LSt → Option Code
  | .done lv => lv.jump
  | .over lv => lv.jump
  | _ => none

inductive AObj where
  | var (cs : List AV)
  | arr (sz n : Nat) (e : Nat → List DV)
  | frz (sz n : Nat) (e : Nat → List DV)
  | map (wide : Bool) (ks : List IntKind) (n : Nat) (f : List KC → Option Int)
  | mapv (wide : Bool) (ks : List IntKind) (keys : List (List KC)) (vals : List AV)
  | loop (s : LSt) (ts : List AV) (ps : List Nat) (code : Code → Code → Prop)
  | gone

def AObj.frozen : AObj → Bool
  | .frz .. => true
  | .gone => true
  | _ => false

/-- Which block an object is (a growable slice may have none yet), and how many rows it has room for. -/
abbrev Rho := Nat → Option (Option Nat × Nat)

/-- A data value reads as a value of the model, all of its memory lying in blocks of S. -/
inductive DVR (w : World) (S : Nat → Prop) : DV → Value → Prop
  | int (k : IntKind) (n : IX) : DVR w S (.int k n) (.int k n.val)
  | bool (b : Bool) : DVR w S (.bool b) (.bool b)
  | str (l : List UInt8) : DVR w S (.str l) (.string ⟨l.toArray⟩)
  | nil : DVR w S .nil (.slice none 0 0)
  | raw (v : Value) (h : v.oneCell' = true) : DVR w S (.raw v) v
  | sl0 (sz : Nat) (e : Nat → List DV) (a : Option Addr) (cap : Nat) : DVR w S (.sl sz 0 e) (.slice a 0 cap)
  | sl (sz n : Nat) (e : Nat → List DV) (b off cap : Nat) (f : Nat → Nat → Value) (hb : 0 < n → S b) (hc : n ≤ cap)
      (hl : ∀ i, i < n → (e i).length = sz)
      (hv : ∀ i, i < n → ∀ j, j < sz → w.cell? ⟨b, off + i * sz + j, none⟩ = some (f i j))
      (hr : ∀ i, i < n → ∀ (j : Nat) (x : DV), (e i)[j]? = some x → DVR w S x (f i j)) : DVR w S (.sl sz n e) (.slice (some ⟨b, off, none⟩) n cap)

/-- An abstract value stands for a value of the model. -/
inductive VR (w : World) (S : Nat → Prop) (ρ : Rho) : AV → Value → Prop
  | d {x : DV} {v : Value} (h : DVR w S x v) : VR w S ρ (.d x) v
  | any (v : Value) : VR w S ρ .any v
  | und : VR w S ρ .und undef
  | agg (cs : List AV) (vs : Array Value) (hl : cs.length = vs.size) (h : ∀ (i : Nat) (x : AV) (v : Value), cs[i]? = some x → vs[i]? = some v → VR w S ρ x v) : VR w S ρ (.agg cs) (.agg vs)
  | tuple (cs : List AV) (vs : Array Value) (hl : cs.length = vs.size) (h : ∀ (i : Nat) (x : AV) (v : Value), cs[i]? = some x → vs[i]? = some v → VR w S ρ x v) : VR w S ρ (.tuple cs) (.tuple vs)
  | ptr (l off b C : Nat) (h : ρ l = some (some b, C)) : VR w S ρ (.ptr l off) (.pointer (some ⟨b, off, none⟩))
  | aptr (l sz i off b C : Nat) (h : ρ l = some (some b, C)) : VR w S ρ (.aptr l sz i off) (.pointer (some ⟨b, i * sz + off, none⟩))
  | dptr (row : List DV) (off b base : Nat) (f : Nat → Value) (hb : S b) (hv : ∀ j, j < row.length → w.cell? ⟨b, base + j, none⟩ = some (f j))
      (hr : ∀ (j : Nat) (x : DV), row[j]? = some x → DVR w S x (f j)) : VR w S ρ (.dptr row off) (.pointer (some ⟨b, base + off, none⟩))
  | dfs (sz n : Nat) (e : Nat → List DV) (a : Option Addr) (h : DVR w S (.sl sz n e) (.slice a n n)) : VR w S ρ (.dfs sz n e) (.slice a n n)
  | msl (l sz : Nat) (start : Option Nat) (len : Nat) (full : Bool) (ob : Option Nat) (C cap : Nat) (a : Option Addr) (h : ρ l = some (ob, C)) (hc : start.getD 0 + len ≤ C)
      (hcap : cap = if full then len else C - start.getD 0) (ha : 0 < cap → a = ob.map fun b => ⟨b, start.getD 0 * sz, none⟩) :
      VR w S ρ (.msl l sz start len full) (.slice a len cap)
  | vsl (l off n b C cap : Nat) (h : ρ l = some (some b, C)) (hc : n ≤ cap) : VR w S ρ (.vsl l off n) (.slice (some ⟨b, off, none⟩) n cap)
  | map (l b C : Nat) (h : ρ l = some (some b, C)) : VR w S ρ (.map l) (.map (some b))
  | fn (f : FuncId) (first cap : List AV) (us vs : Array Value) (hl1 : first.length = us.size) (h1 : ∀ (i : Nat) (x : AV) (v : Value), first[i]? = some x → us[i]? = some v → VR w S ρ x v)
      (hl : cap.length = vs.size) (h : ∀ (i : Nat) (x : AV) (v : Value), cap[i]? = some x → vs[i]? = some v → VR w S ρ x v) :
      VR w S ρ (.fn f first cap) (.func (.func f) us vs)
  | ge (m : Nat) (n : Int) (h : (m : Int) ≤ n) : VR w S ρ (.ge m) (.int .i64 n)
  | yl (l b C : Nat) (h : ρ l = some (some b, C)) : VR w S ρ (.yl l) (.func (.yield b) #[] #[])

/-- How a key of a map reads: one cell, or the cells of a struct. -/
def KC.ofValue : Value → Option KC
  | .int _ n => some (.i n)
  | .bool x => some (.o x)
  | .string t => some (.s t.data.toList)
  | _ => none

def keyOf (v : Value) : Option (List KC) := v.cells.toList.mapM KC.ofValue

/-- The entries of a map of the model, by key. -/
def findE (k : List KC) : List MapEntry → Option Int
  | [] => none
  | e :: es => if keyOf e.key = some k then (match e.val with | .int _ n => some n | _ => none) else findE k es

/-- A key of integers of known kinds, each within its kind. -/
def KShape (wide : Bool) (ks : List IntKind) (v : Value) : Prop :=
  (if wide then ∃ cs, v = .agg cs else ∃ k n, v = .int k n) ∧ ∃ ns : List Int, ns.length = ks.length ∧ v.cells.toList = List.zipWith Value.int ks ns ∧
    ∀ (i : Nat) (k : IntKind) (n : Int), ks[i]? = some k → ns[i]? = some n → k.wrap n = n

structure MapR (wide : Bool) (ks : List IntKind) (es : List MapEntry) (n : Nat) (f : List KC → Option Int) : Prop where
  len : es.length = n
  keys : ∀ e, e ∈ es → KShape wide ks e.key
  vals : ∀ e, e ∈ es → ∃ m, e.val = .int .i64 m
  find : ∀ k, findE k es = f k
  nd : es.Pairwise (fun a b => a.key ≠ b.key)

/-- The keys of a map's entries, in their order. -/
structure MapV (wide : Bool) (ks : List IntKind) (es : List MapEntry) (keys : List (List KC)) : Prop where
  len : keys.length = es.length
  shape : ∀ e, e ∈ es → KShape wide ks e.key
  at' : ∀ (i : Nat) (e : MapEntry) (k : List KC), es[i]? = some e → keys[i]? = some k → keyOf e.key = some k
  nd : es.Pairwise (fun a b => a.key ≠ b.key)
  born : ∀ (i : Nat) (e : MapEntry), es[i]? = some e → e.born = i

/-- What block b holds for an object. -/
def HoldsB (w : World) (S : Nat → Prop) (ρ : Rho) (b C : Nat) : AObj → Prop
  | .var cs => ∃ vs ty, w.heap[b]? = some (.cells vs ty (0, 0)) ∧ vs.size = cs.length ∧ ∀ (i : Nat) (x : AV) (v : Value), cs[i]? = some x → vs[i]? = some v → VR w S ρ x v
  | .arr sz n e => ∃ vs ty, w.heap[b]? = some (.cells vs ty (0, 0)) ∧ vs.size = C * sz ∧ n ≤ C ∧
      ∀ i, i < n → (e i).length = sz ∧ ∀ (j : Nat) (x : DV) (v : Value), (e i)[j]? = some x → vs[i * sz + j]? = some v → DVR w S x v
  | .frz sz n e => S b ∧ ∃ vs ty fr, w.heap[b]? = some (.cells vs ty fr) ∧ vs.size = C * sz ∧ n ≤ C ∧
      ∀ i, i < n → (e i).length = sz ∧ ∀ (j : Nat) (x : DV) (v : Value), (e i)[j]? = some x → vs[i * sz + j]? = some v → DVR w S x v
  | .map wide ks n f => ∃ es clock, w.heap[b]? = some (.map es clock) ∧ MapR wide ks es.toList n f
  | .mapv wide ks keys vals => ∃ es clock, w.heap[b]? = some (.map es clock) ∧ MapV wide ks es.toList keys ∧ (es.size = vals.length ∧ clock = es.size) ∧ ∀ (i : Nat) (x : AV) (e : MapEntry), vals[i]? = some x → es[i]? = some e → VR w S ρ x e.val
  | .loop s ts ps code => ∃ r : Loop, w.heap[b]? = some (.loop r) ∧ r.state = s.state ∧ r.pending = s.pend ∧ r.params.toList = ps ∧ code r.assign r.body ∧
      r.tmps.size = ts.length ∧ ∀ (i : Nat) (x : AV) (v : Value), ts[i]? = some x → r.tmps[i]? = some v → VR w S ρ x v
  | .gone => S b

def Holds (w : World) (S : Nat → Prop) (ρ : Rho) (ob : Option Nat) (C : Nat) (o : AObj) : Prop :=
  match ob with
  | some b => HoldsB w S ρ b C o
  | none => C = 0 ∧ ∃ sz e, o = .arr sz 0 e ∨ o = .frz sz 0 e

structure Sim (w : World) (S : Nat → Prop) (ρ : Rho) (h : List AObj) : Prop where
  sblk : ∀ b, S b → b < w.heap.size
  obj : ∀ l ob C, ρ l = some (ob, C) → ∃ o, h[l]? = some o ∧ Holds w S ρ ob C o
  inj : ∀ l l' b C C', ρ l = some (some b, C) → ρ l' = some (some b, C') → l = l'
  own : ∀ l b C o, ρ l = some (some b, C) → h[l]? = some o → o.frozen = false → ¬ S b

/-- From (w, S, ρ) to (w', S', ρ'): what was immutable stays; what was not owned stays. -/
structure Ext (w : World) (S : Nat → Prop) (ρ : Rho) (w' : World) (S' : Nat → Prop) (ρ' : Rho) : Prop where
  os : w'.os = w.os
  tape : w'.tape = w.tape
  output : w'.output = w.output
  size : w.heap.size ≤ w'.heap.size
  mono : ∀ b, S b → S' b
  cell : ∀ b, S b → w'.heap[b]? = w.heap[b]?
  news : ∀ b, S' b → S b ∨ w.heap.size ≤ b ∨ ∃ l C, ρ l = some (some b, C)
  frame : ∀ b, b < w.heap.size → (∀ l C, ρ l ≠ some (some b, C)) → w'.heap[b]? = w.heap[b]?
  owned : ∀ l b C, ρ' l = some (some b, C) → w.heap.size ≤ b ∨ ∃ l C, ρ l = some (some b, C)

theorem Ext.refl (w : World) (S : Nat → Prop) (ρ : Rho) : Ext w S ρ w S ρ :=
  ⟨rfl, rfl, rfl, Nat.le_refl _, fun _ h => h, fun _ _ => rfl, fun _ h => .inl h, fun _ _ _ => rfl, fun l _ C h => .inr ⟨l, C, h⟩⟩

theorem Ext.trans {w w' w'' : World} {S S' S'' : Nat → Prop} {ρ ρ' ρ'' : Rho} (h : Ext w S ρ w' S' ρ') (k : Ext w' S' ρ' w'' S'' ρ'') : Ext w S ρ w'' S'' ρ'' where
  os := k.os.trans h.os
  tape := k.tape.trans h.tape
  output := k.output.trans h.output
  size := Nat.le_trans h.size k.size
  mono b hb := k.mono b (h.mono b hb)
  cell b hb := (k.cell b (h.mono b hb)).trans (h.cell b hb)
  news b hb := by
    rcases k.news b hb with h1 | h1 | ⟨l, C, h1⟩
    · exact h.news b h1
    · exact .inr (.inl (Nat.le_trans h.size h1))
    · rcases h.owned l b C h1 with h2 | h2
      · exact .inr (.inl h2)
      · exact .inr (.inr h2)
  frame b hb hn := by
    refine (k.frame b (Nat.lt_of_lt_of_le hb h.size) fun l C hl => ?_).trans (h.frame b hb hn)
    rcases h.owned l b C hl with h2 | ⟨l', C', h2⟩
    · omega
    · exact hn _ _ h2
  owned l b C hl := by
    rcases k.owned l b C hl with h1 | ⟨l', C', h1⟩
    · exact .inl (Nat.le_trans h.size h1)
    · exact h.owned _ _ _ h1

theorem cell?_congr {w w' : World} {b o : Nat} (h : w'.heap[b]? = w.heap[b]?) : w'.cell? ⟨b, o, none⟩ = w.cell? ⟨b, o, none⟩ := by
  simp only [World.cell?, h]

theorem cell?_of {w : World} {b o : Nat} {c : Array Value} {ty : TypeId} {fr : Nat × Nat} (h : w.heap[b]? = some (.cells c ty fr)) : w.cell? ⟨b, o, none⟩ = c[o]? := by
  simp [World.cell?, h]

theorem DVR.mono {w w' : World} {S S' : Nat → Prop} (hS : ∀ b, S b → S' b) (hw : ∀ b, S b → w'.heap[b]? = w.heap[b]?) {x : DV} {v : Value} (h : DVR w S x v) : DVR w' S' x v := by
  induction h with
  | int k n => exact .int k n
  | bool b => exact .bool b
  | str l => exact .str l
  | nil => exact .nil
  | raw v h => exact .raw v h
  | sl0 sz e a cap => exact .sl0 sz e a cap
  | sl sz n e b off cap f hb hc hl hv _ ih =>
    refine .sl sz n e b off cap f (fun h => hS b (hb h)) hc hl (fun i hi j hj => ?_) ih
    rw [cell?_congr (hw b (hb (by omega)))]
    exact hv i hi j hj

theorem VR.mono {w w' : World} {S S' : Nat → Prop} {ρ ρ' : Rho} (hS : ∀ b, S b → S' b) (hw : ∀ b, S b → w'.heap[b]? = w.heap[b]?)
    (hρ : ∀ l p, ρ l = some p → ρ' l = some p) {x : AV} {v : Value} (h : VR w S ρ x v) : VR w' S' ρ' x v := by
  induction h with
  | d h => exact .d (h.mono hS hw)
  | any v => exact .any v
  | und => exact .und
  | agg cs vs hl _ ih => exact .agg cs vs hl ih
  | tuple cs vs hl _ ih => exact .tuple cs vs hl ih
  | ptr l off b C h => exact .ptr l off b C (hρ _ _ h)
  | aptr l sz i off b C h => exact .aptr l sz i off b C (hρ _ _ h)
  | dptr row off b base f hb hv hr =>
    refine .dptr row off b base f (hS b hb) (fun j hj => ?_) (fun j x hx => (hr j x hx).mono hS hw)
    rw [cell?_congr (hw b hb)]
    exact hv j hj
  | dfs sz n e a h => exact .dfs sz n e a (h.mono hS hw)
  | msl l sz start len full ob C cap a h hc hcap ha => exact .msl l sz start len full ob C cap a (hρ _ _ h) hc hcap ha
  | vsl l off n b C cap h hc => exact .vsl l off n b C cap (hρ _ _ h) hc
  | map l b C h => exact .map l b C (hρ _ _ h)
  | fn f first cap us vs hl1 _ hl _ ih1 ih => exact .fn f first cap us vs hl1 ih1 hl ih
  | ge m n h => exact .ge m n h
  | yl l b C h => exact .yl l b C (hρ _ _ h)

theorem HoldsB.mono {w w' : World} {S S' : Nat → Prop} {ρ ρ' : Rho} (hS : ∀ b, S b → S' b) (hw : ∀ b, S b → w'.heap[b]? = w.heap[b]?)
    (hρ : ∀ l p, ρ l = some p → ρ' l = some p) {b C : Nat} (hb : w'.heap[b]? = w.heap[b]?) {o : AObj} (h : HoldsB w S ρ b C o) : HoldsB w' S' ρ' b C o := by
  cases o with
  | var cs =>
    obtain ⟨vs, ty, h1, h2, h3⟩ := h
    exact ⟨vs, ty, hb ▸ h1, h2, fun i x v hx hv => (h3 i x v hx hv).mono hS hw hρ⟩
  | arr sz n e =>
    obtain ⟨vs, ty, h1, h2, h3, h4⟩ := h
    exact ⟨vs, ty, hb ▸ h1, h2, h3, fun i hi => ⟨(h4 i hi).1, fun j x v hx hv => ((h4 i hi).2 j x v hx hv).mono hS hw⟩⟩
  | frz sz n e =>
    obtain ⟨h0, vs, ty, fr, h1, h2, h3, h4⟩ := h
    exact ⟨hS b h0, vs, ty, fr, hb ▸ h1, h2, h3, fun i hi => ⟨(h4 i hi).1, fun j x v hx hv => ((h4 i hi).2 j x v hx hv).mono hS hw⟩⟩
  | map wide ks n f =>
    obtain ⟨es, clock, h1, h2⟩ := h
    exact ⟨es, clock, hb ▸ h1, h2⟩
  | mapv wide ks keys vals =>
    obtain ⟨es, clock, h1, h2, h3, h4⟩ := h
    exact ⟨es, clock, hb ▸ h1, h2, h3, fun i x e hx he => (h4 i x e hx he).mono hS hw hρ⟩
  | loop s ts ps code =>
    obtain ⟨r, h1, h2, h3, h4, h5, h6, h7⟩ := h
    exact ⟨r, hb ▸ h1, h2, h3, h4, h5, h6, fun i x v hx hv => (h7 i x v hx hv).mono hS hw hρ⟩
  | gone => exact hS b h

end Go.Vf


namespace Go.Vf
open Go

structure St where
  ts : List AV
  h : List AObj
  mv : List Nat

inductive IOpd where
  | t (i : Nat)
  | c (v : AV)

inductive Mode where
  | borrow   -- arguments are read, the result is data of its own
  | share    -- arguments become immutable, the result may share them
  | raw      -- arguments as they are
  | data     -- arguments are data already, the result may share them
  | fresh    -- arguments become immutable, the result comes with objects of its own
  deriving DecidableEq

/-- Bits of integers, and shifts, as the model has them. -/
def bitsZ (op : BinOp) (k : IntKind) (a b : Int) : Int :=
  match op with
  | .and => k.wrap (BitVec.ofInt k.bits a &&& BitVec.ofInt k.bits b).toNat
  | .or => k.wrap (BitVec.ofInt k.bits a ||| BitVec.ofInt k.bits b).toNat
  | .xor => k.wrap (BitVec.ofInt k.bits a ^^^ BitVec.ofInt k.bits b).toNat
  | _ => k.wrap (BitVec.ofInt k.bits a &&& ~~~BitVec.ofInt k.bits b).toNat

def shiftZ (op : BinOp) (k : IntKind) (a b : Int) : Int :=
  match op with
  | .shl => k.wrap (a * 2 ^ (Nat.min b.toNat k.bits))
  | _ => a.fdiv (2 ^ (Nat.min b.toNat k.bits))

/-- 1: a shift; 2: bits; 0: neither. -/
def bwCls : BinOp → Nat
  | .shl => 1
  | .shr => 1
  | .and => 2
  | .or => 2
  | .xor => 2
  | .andNot => 2
  | _ => 0

/-- What a cell that is compared is. -/
inductive CK where
  | i (k : IntKind)
  | o
  deriving DecidableEq

inductive IOp where
  | mv (x : IOpd)
  | newnil (sz : Nat)
  | bnew (sz : Nat)
  | pick (c a b : IOpd)
  | alloc (zs : List DV)
  | box (x : IOpd)
  | build (zs : List DV) (parts : List (Nat × Nat × IOpd))
  | bslice (sz len : Nat) (zs : List DV) (parts : List (Nat × IOpd)) (mu : Bool)
  | load (agg : Option Nat) (x : IOpd)
  | store (sz : Nat) (a x : IOpd)
  | nilchk (x : IOpd)
  | bin (op : BinOp) (x y : IOpd)
  | binb (op : BinOp) (x y : IOpd)
  | aeq (neg : Bool) (ks : List IntKind) (x y : IOpd)
  | un (op : UnOp) (x : IOpd)
  | conv (k : IntKind) (x : IOpd)
  | mkfn (f : FuncId) (first cap : List IOpd)
  | mkmap (wide : Bool) (ks : List IntKind)
  | mkslice (sz : Nat) (zs : List DV) (bytes : Nat) (n : IOpd)
  | slice (sz : Nat) (x : IOpd) (lo hi mx : Option IOpd)
  | slarr (n : Nat) (x : IOpd) (lo hi : Option IOpd)
  | faddr (off : Nat) (x : IOpd)
  | field (off : Nat) (agg : Option Nat) (x : IOpd)
  | iaddr (sz : Nat) (x i : IOpd)
  | iaddrA (n sz : Nat) (x i : IOpd)
  | lookup (wide : Bool) (ks : List IntKind) (ok : Bool) (m k : IOpd)
  | mapupd (wide : Bool) (ks : List IntKind) (m k x : IOpd)
  | extract (x : IOpd) (i : Nat)
  | call (f : IOpd) (args : List IOpd) (m : Mode)
  | len (x : IOpd)
  | lenm (x : IOpd)
  | cap (x : IOpd)
  | min (x y : IOpd)
  | append (sz bytes : Nat) (x y : IOpd) (mu : Bool)
  | copy (sz : Nat) (x y : IOpd)
  | bad
  | appendIn (sz : Nat) (x y : IOpd)
  | clear (sz : Nat) (zs : List DV) (x : IOpd)
  | isnil (neg : Bool) (x : IOpd)
  | slicex (sz : Nat) (x : IOpd) (lo hi : Option IOpd)
  | idxs (l : List UInt8) (x : IOpd)
  | slchk (sz : Nat) (x : IOpd) (lo hi mx : Option IOpd)
  | ovl (x y : IOpd)
  | appendN (sz bytes : Nat) (x y : IOpd) (mu : Bool)
  | mkmapv (wide : Bool) (ks : List IntKind)
  | lookupv (wide : Bool) (ks : List IntKind) (ok : Bool) (z : AV) (m k : IOpd)
  | mapupdv (wide : Bool) (ks : List IntKind) (m k x : IOpd)
  | aeqw (neg : Bool) (ks : List CK) (x y : IOpd)
  | max (x y : IOpd)
  | bw (op : BinOp) (x y : IOpd)
  | bsliceP (sz len : Nat) (zs : List DV) (parts : List (Nat × IOpd))
  | extractF (x : IOpd) (i : Nat)
  | mapent (wide : Bool) (ks : List IntKind) (z : AV) (m k : IOpd)
  | entst (m s x : IOpd)
  | appendP (sz bytes : Nat) (x y : IOpd)
  | bslice0 (sz : Nat)

structure IOper where
  dst : Option Nat
  guard : Option (Nat × Bool)
  op : IOp

inductive Kl where
  | i | r | a | p | m
  deriving DecidableEq

/-- How an operation meets the objects: not at all, reads, makes one, calls with data, whatever. -/
def IOp.kl : IOp → Kl
  | .mv _ => .i
  | .pick .. => .i
  | .build .. => .i
  | .nilchk _ => .i
  | .bin .. => .i
  | .binb .. => .i
  | .aeq .. => .i
  | .aeqw .. => .i
  | .un .. => .i
  | .conv .. => .i
  | .mkfn .. => .i
  | .slice .. => .i
  | .slarr .. => .i
  | .faddr .. => .i
  | .field .. => .i
  | .iaddr .. => .i
  | .iaddrA .. => .i
  | .extract .. => .i
  | .len _ => .i
  | .min .. => .i
  | .max .. => .i
  | .bw .. => .i
  | .isnil .. => .i
  | .idxs .. => .i
  | .slchk .. => .i
  | .load .. => .r
  | .lookup .. => .r
  | .lookupv .. => .r
  | .lenm _ => .r
  | .alloc _ => .a
  | .bnew _ => .a
  | .box _ => .a
  | .mkslice .. => .a
  | .mkmap .. => .a
  | .mkmapv .. => .a
  | .call _ _ .data => .p
  | .bsliceP .. => .i
  | .appendP .. => .i
  | .bslice0 _ => .i
  | _ => .m

def optL : Option IOpd → List IOpd
  | none => []
  | some x => [x]

def IOp.opds : IOp → List IOpd
  | .mv x => [x]
  | .newnil _ => []
  | .bnew _ => []
  | .pick c a b => [c, a, b]
  | .alloc _ => []
  | .box x => [x]
  | .build _ ps => ps.map (·.2.2)
  | .bslice _ _ _ ps _ => ps.map (·.2)
  | .load _ x => [x]
  | .store _ a x => [a, x]
  | .nilchk x => [x]
  | .bin _ x y => [x, y]
  | .binb _ x y => [x, y]
  | .aeq _ _ x y => [x, y]
  | .aeqw _ _ x y => [x, y]
  | .un _ x => [x]
  | .conv _ x => [x]
  | .mkfn _ l m => l ++ m
  | .mkmap .. => []
  | .mkslice _ _ _ n => [n]
  | .slice _ x a b c => x :: (optL a ++ optL b ++ optL c)
  | .slarr _ x a b => x :: (optL a ++ optL b)
  | .faddr _ x => [x]
  | .field _ _ x => [x]
  | .iaddr _ x y => [x, y]
  | .iaddrA _ _ x y => [x, y]
  | .lookup _ _ _ x y => [x, y]
  | .mapupd _ _ x y z => [x, y, z]
  | .extract x _ => [x]
  | .call f as _ => f :: as
  | .len x => [x]
  | .lenm x => [x]
  | .cap x => [x]
  | .min x y => [x, y]
  | .max x y => [x, y]
  | .bw _ x y => [x, y]
  | .append _ _ x y _ => [x, y]
  | .copy _ x y => [x, y]
  | .bad => []
  | .appendIn _ x y => [x, y]
  | .clear _ _ x => [x]
  | .isnil _ x => [x]
  | .slicex _ x a b => x :: (optL a ++ optL b)
  | .idxs _ x => [x]
  | .slchk _ x a b c => x :: (optL a ++ optL b ++ optL c)
  | .ovl x y => [x, y]
  | .appendN _ _ x y _ => [x, y]
  | .mkmapv .. => []
  | .lookupv _ _ _ _ x y => [x, y]
  | .mapupdv _ _ x y z => [x, y, z]
  | .bsliceP _ _ _ ps => ps.map (·.2)
  | .extractF x _ => [x]
  | .mapent _ _ _ x y => [x, y]
  | .entst x y z => [x, y, z]
  | .appendP _ _ x y => [x, y]
  | .bslice0 _ => []

/-- Where it reads or writes: the operand that says so. -/
def IOp.at : IOp → Option IOpd
  | .load _ x => some x
  | .lookup _ _ _ m _ => some m
  | .lookupv _ _ _ _ m _ => some m
  | .lenm x => some x
  | .store _ a _ => some a
  | _ => none

def tmpsOf : List IOpd → List Nat
  | [] => []
  | .t i :: l => i :: tmpsOf l
  | .c _ :: l => tmpsOf l

def IOper.uses (o : IOper) : List Nat :=
  match o.guard with
  | none => tmpsOf o.op.opds
  | some (j, _) => j :: tmpsOf o.op.opds

/-- An operation of a region that draws its order: its place, its object among those that the region makes, the objects that it must not meet, what comes before it, whether nothing is apart from it, whether a later one that changes an object is. -/
structure DOper where
  o : IOper
  i : Nat
  slot : Nat
  av : List Nat
  bef : List Nat
  alone : Bool
  watch : Bool

inductive ICode where
  | skip
  | ops (l : List IOper)
  | draw (n : Nat) (l : List DOper)
  | seq (a b : ICode)
  | cond (c : IOpd) (a b : ICode)
  | block (id : Nat) (c : ICode)
  | loop (c : ICode)
  | range (f : IOpd) (params : List Nat) (assign body : ICode)
  | exit (id : Nat)
  | scope (c : ICode)
  | label (l : Nat)
  | ret

/-- What stays closed while the executor runs. -/
structure Sig where
  iadd : Int → Int → Int
  isub : Int → Int → Int
  imul : Int → Int → Int
  iquo : Int → Int → Int
  irem : Int → Int → Int
  iwrap : IntKind → Int → Int
  ilt : Int → Int → Bool
  ile : Int → Int → Bool
  ieq : Int → Int → Bool
  isel : Bool → Int → Int → Int
  bnot : Bool → Bool
  band : Bool → Bool → Bool
  beq : Bool → Bool → Bool
  bsel : Bool → Bool → Bool → Bool
  ofNat : Nat → Int
  toNat : Int → Nat
  nadd : Nat → Nat → Nat
  nsub : Nat → Nat → Nat
  nmul : Nat → Nat → Nat
  nlt : Nat → Nat → Bool
  inr : IntKind → Int → Prop
  inb : Int → Nat → Prop
  pnlt : Nat → Nat → Prop
  pnle : Nat → Nat → Prop
  pile : Int → Int → Prop
  nz : Int → Prop
  req : Prop → Prop → Prop
  alln : (Nat → Prop) → Prop
  top : Prop
  upd : (Nat → List DV) → Nat → List DV → Nat → List DV
  app : Nat → (Nat → List DV) → (Nat → List DV) → Nat → List DV
  shift : (Nat → List DV) → Nat → Nat → List DV
  rowsOk : Nat → Nat → (Nat → List DV) → Prop
  put : Nat → Nat → (Nat → List DV) → (Nat → List DV) → Nat → List DV
  rep : Nat → List DV → Nat → List DV
  nmin : Nat → Nat → Nat
  sidx : List UInt8 → Int → Int
  ibits : BinOp → IntKind → Int → Int → Int
  ishift : BinOp → IntKind → Int → Int → Int
  mget : (List KC → Option Int) → List KC → Int
  mhas : (List KC → Option Int) → List KC → Bool
  mset : (List KC → Option Int) → List KC → Int → List KC → Option Int
  mcnt : (List KC → Option Int) → List KC → Nat → Nat
  same : AV → AV → Prop
  callb : Bool → FuncId → List AV → (AV → Prop) → Prop
  calln : FuncId → List AV → (AV → List AObj → Prop) → Prop
  call : FuncId → List AV → List AObj → (List Nat → AV → List AObj → Prop) → Prop
  yld : Nat → List AV → List AObj → (List Nat → AV → List AObj → Prop) → Prop
  loop : ICode → (Lv → St → Prop) → St → Prop
  range : IOpd → List Nat → ICode → ICode → (Lv → St → Prop) → St → Prop

def lget {α : Type} : List α → Nat → Option α
  | [], _ => none
  | x :: _, 0 => some x
  | _ :: l, i + 1 => lget l i

def lset {α : Type} : List α → Nat → α → List α
  | [], _, _ => []
  | _ :: l, 0, y => y :: l
  | x :: l, i + 1, y => x :: lset l i y

def lcut {α : Type} : List α → Nat → Nat → Option (List α)
  | _, 0, 0 => some []
  | [], 0, _ + 1 => none
  | x :: l, 0, n + 1 => match lcut l 0 n with | some r => some (x :: r) | none => none
  | [], _ + 1, _ => none
  | _ :: l, i + 1, n => lcut l i n

/-- 'new' laid over the elements from i on. -/
def lput {α : Type} : List α → Nat → List α → Option (List α)
  | l, 0, [] => some l
  | [], _, _ => none
  | _ :: l, 0, y :: new => match lput l 0 new with | some r => some (y :: r) | none => none
  | x :: l, i + 1, new => match lput l i new with | some r => some (x :: r) | none => none

def lmap {α β : Type} (f : α → β) : List α → List β
  | [] => []
  | x :: l => f x :: lmap f l

def lapp {α : Type} : List α → List α → List α
  | [], m => m
  | x :: l, m => x :: lapp l m

def llen {α : Type} : List α → Nat
  | [] => 0
  | _ :: l => llen l + 1

def opd (ts : List AV) : IOpd → AV
  | .c v => v
  | .t i => match lget ts i with | some v => v | none => .any

def AV.cells : AV → List AV
  | .agg cs => cs
  | v => [v]

mutual
def AV.norm : AV → AV
  | .d (.int k n) => .d (.int k (.v n.val))
  | .agg cs => .agg (AV.normL cs)
  | .tuple cs => .tuple (AV.normL cs)
  | .fn f us cs => .fn f (AV.normL us) (AV.normL cs)
  | v => v
def AV.normL : List AV → List AV
  | [] => []
  | v :: l => v.norm :: AV.normL l
end

mutual
/-- What names object l (with 'all': or a later one) is forgotten. -/
def AV.forget (l : Nat) (all : Bool) : AV → AV
  | .agg cs => .agg (AV.forgetL l all cs)
  | .tuple cs => .tuple (AV.forgetL l all cs)
  | .fn f us cs => .fn f (AV.forgetL l all us) (AV.forgetL l all cs)
  | .ptr m off => if (if all then Nat.ble l m else Nat.beq l m) then .any else .ptr m off
  | .aptr m sz i off => if (if all then Nat.ble l m else Nat.beq l m) then .any else .aptr m sz i off
  | .msl m sz s n f => if (if all then Nat.ble l m else Nat.beq l m) then .any else .msl m sz s n f
  | .vsl m off n => if (if all then Nat.ble l m else Nat.beq l m) then .any else .vsl m off n
  | .map m => if (if all then Nat.ble l m else Nat.beq l m) then .any else .map m
  | .yl m => if (if all then Nat.ble l m else Nat.beq l m) then .any else .yl m
  | v => v
def AV.forgetL (l : Nat) (all : Bool) : List AV → List AV
  | [] => []
  | v :: r => v.forget l all :: AV.forgetL l all r
end

mutual
/-- The objects renumbered from k on. -/
def AV.shift (k : Nat) : AV → AV
  | .agg cs => .agg (AV.shiftL k cs)
  | .tuple cs => .tuple (AV.shiftL k cs)
  | .fn f us cs => .fn f (AV.shiftL k us) (AV.shiftL k cs)
  | .ptr m off => .ptr (k + m) off
  | .aptr m sz i off => .aptr (k + m) sz i off
  | .msl m sz s n f => .msl (k + m) sz s n f
  | .vsl m off n => .vsl (k + m) off n
  | .map m => .map (k + m)
  | .yl m => .yl (k + m)
  | v => v
def AV.shiftL (k : Nat) : List AV → List AV
  | [] => []
  | v :: r => v.shift k :: AV.shiftL k r
end

def AObj.shift (k : Nat) : AObj → AObj
  | .var cs => .var (AV.shiftL k cs)
  | .mapv wide ks keys vals => .mapv wide ks keys (AV.shiftL k vals)
  | .loop s ts ps code => .loop s (AV.shiftL k ts) ps code
  | o => o

def shiftH (k : Nat) : List AObj → List AObj
  | [] => []
  | o :: r => o.shift k :: shiftH k r

def AObj.forget (l : Nat) (all : Bool) : AObj → AObj
  | .var cs => .var (AV.forgetL l all cs)
  | .mapv wide ks keys vals => .mapv wide ks keys (AV.forgetL l all vals)
  | .loop s ts ps code => .loop s (AV.forgetL l all ts) ps code
  | o => o

def forgetH (l : Nat) (all : Bool) : List AObj → List AObj
  | [] => []
  | o :: r => o.forget l all :: forgetH l all r

/-- The objects in 'pg' have moved: what named them is forgotten. -/
def St.purge (st : St) : List Nat → St
  | [] => st
  | l :: pg => St.purge ⟨AV.forgetL l false st.ts, st.h, l :: st.mv⟩ pg

def St.put (st : St) (dst : Option Nat) (v : AV) : St :=
  match dst with
  | none => st
  | some d => ⟨lset st.ts d v, st.h, st.mv⟩

def St.setH (st : St) (h : List AObj) : St := ⟨st.ts, h, st.mv⟩

/-- It is one cell. -/
def AV.one : AV → Bool
  | .und => false
  | .any => false
  | .agg _ => false
  | .tuple _ => false
  | _ => true

def ones : List AV → Bool
  | [] => true
  | v :: l => if v.one then ones l else false

/-- What a map has for a key. -/
def kfind (k : List KC) : List (List KC) → List AV → Option AV
  | k' :: ks, v :: vs => if k' = k then some v else kfind k ks vs
  | _, _ => none

/-- A map's values with one put in place of that of a key. -/
def kset (k : List KC) (x : AV) : List (List KC) → List AV → Option (List AV)
  | k' :: ks, v :: vs => if k' = k then some (x :: vs) else match kset k x ks vs with | some l => some (v :: l) | none => none
  | _, _ => none

/-- Which place a map has for a key, counted from n on. -/
def kidx (k : List KC) : List (List KC) → Nat → Option Nat
  | [], _ => none
  | k' :: ks, n => if k' = k then some n else kidx k ks (n + 1)

section
variable (S : Sig)

def shiftO (e : Nat → List DV) : Option Nat → Nat → List DV
  | none => e
  | some s => S.shift e s

def addO : Option Nat → Nat → Nat
  | none, n => n
  | some s, n => S.nadd s n

/-- The data that a slice's elements are. -/
def view (h : List AObj) (v : AV) (K : Nat → Nat → (Nat → List DV) → Prop) : Prop :=
  match v with
  | .d (.sl sz n e) => K sz n e
  | .dfs sz n e => K sz n e
  | .msl l sz s n _ => match lget h l with
    | some (.arr sz' m e) => if Nat.beq sz sz' then S.req (S.pnle (addO S s n) m) (K sz n (shiftO S e s)) else False
    | some (.frz sz' m e) => if Nat.beq sz sz' then S.req (S.pnle (addO S s n) m) (K sz n (shiftO S e s)) else False
    | _ => False
  | _ => False

def dvs : List AV → Option (List DV)
  | [] => some []
  | .d x :: r => match dvs r with | some l => some (x :: l) | none => none
  | .fn f [] [] :: r => match dvs r with | some l => some (.raw (.func (.func f) #[] #[]) :: l) | none => none
  | _ :: _ => none

/-- Rows of data. -/
def dvsR : List (List AV) → Option (List (List DV))
  | [] => some []
  | r :: rs => match dvs r, dvsR rs with
    | some l, some ls => some (l :: ls)
    | _, _ => none

/-- A function that stands as data, as a function. -/
def fnOf : AV → AV
  | .d (.raw (.func (.func f) us vs)) => if Nat.beq us.size 0 && Nat.beq vs.size 0 then .fn f [] [] else .any
  | v => v

def rowAt : List (List DV) → Nat → List DV
  | [], _ => []
  | r :: _, 0 => r
  | _ :: rs, i + 1 => rowAt rs i

/-- A value as data, for the length of a call. -/
def peek (h : List AObj) (v : AV) (K : AV → Prop) : Prop :=
  match v with
  | .vsl l off n => match lget h l with
    | some (.var cs) => match lcut cs off n with
      | some c => match dvs c with
        | some ds => K (.d (.sl 1 n (rowAt (lmap (fun x => [x]) ds))))
        | none => False
      | none => False
    | _ => False
  | .msl .. => view S h v fun sz n e => K (.d (.sl sz n e))
  | .dfs sz n e => K (.d (.sl sz n e))
  | v => K v

def peekC (h : List AObj) (vs : List AV) (K : List AV → Prop) : Prop :=
  match vs with
  | [] => K []
  | v :: r => peek S h v fun v' => peekC h r fun r' => K (v' :: r')

def peekL (h : List AObj) (vs : List AV) (K : List AV → Prop) : Prop :=
  match vs with
  | [] => K []
  | .agg cs :: r => peekC S h cs fun cs' => peekL h r fun r' => K (.agg cs' :: r')
  | v :: r => peek S h v fun v' => peekL h r fun r' => K (v' :: r')

/-- A value as data for good: its arrays are written no more. -/
def freeze (h : List AObj) (v : AV) (K : AV → List AObj → Prop) : Prop :=
  match v with
  | .msl l sz s n f => view S h (.msl l sz s n f) fun sz n e => match lget h l with
    | some (.arr sz' m e') => K (.d (.sl sz n e)) (lset h l (.frz sz' m e'))
    | _ => K (.d (.sl sz n e)) h
  | .dfs sz n e => K (.d (.sl sz n e)) h
  | v => K v h

def freezeC (h : List AObj) (vs : List AV) (K : List AV → List AObj → Prop) : Prop :=
  match vs with
  | [] => K [] h
  | v :: r => freeze S h v fun v' h' => freezeC h' r fun r' h'' => K (v' :: r') h''

/-- A variable that is written no more, its cells being data: its address as that of data. -/
def freezePtr (h : List AObj) (l : Nat) (K : AV → List AObj → Prop) : Prop :=
  match lget h l with
  | some (.var cs) => freezeC S h cs fun cs' h' => match dvs cs' with
    | some row => K (.dptr row 0) (lset h' l .gone)
    | none => False
  | _ => False

def freezeL (h : List AObj) (vs : List AV) (K : List AV → List AObj → Prop) : Prop :=
  match vs with
  | [] => K [] h
  | .agg cs :: r => freezeC S h cs fun cs' h' => freezeL h' r fun r' h'' => K (.agg cs' :: r') h''
  | .ptr l 0 :: r => freezePtr S h l fun v' h' => freezeL h' r fun r' h'' => K (v' :: r') h''
  | v :: r => freeze S h v fun v' h' => freezeL h' r fun r' h'' => K (v' :: r') h''

/-- Cells as data for good. -/
def dcells (h : List AObj) (v : AV) (K : List DV → List AObj → Prop) : Prop :=
  freezeC S h v.cells fun cs h' => match dvs cs with | some l => K l h' | none => False

def binI (op : BinOp) (k : IntKind) (x y : IX) (K : DV → Prop) : Prop :=
  match op with
  | .add => match x, y with
    | .l a, .l b => S.req (S.inr k (a + b)) (K (.int k (.l (a + b))))
    | x, y => S.req (S.inr k (S.iadd x.val y.val)) (K (.int k (.v (S.iadd x.val y.val))))
  | .sub => match x, y with
    | .l a, .l b => S.req (S.inr k (a - b)) (K (.int k (.l (a - b))))
    | x, y => S.req (S.inr k (S.isub x.val y.val)) (K (.int k (.v (S.isub x.val y.val))))
  | .mul => S.req (S.inr k (S.imul x.val y.val)) (K (.int k (.v (S.imul x.val y.val))))
  | .quo => S.req (S.nz y.val) (S.req (S.inr k (S.iquo x.val y.val)) (K (.int k (.v (S.iquo x.val y.val)))))
  | .rem => S.req (S.nz y.val) (K (.int k (.v (S.irem x.val y.val))))
  | .eql => match x, y with
    | .l a, .l b => K (.bool (Int.beq' a b))
    | x, y => K (.bool (S.ieq x.val y.val))
  | .neq => match x, y with
    | .l a, .l b => K (.bool (Bool.not (Int.beq' a b)))
    | x, y => K (.bool (S.bnot (S.ieq x.val y.val)))
  | .lss => K (.bool (S.ilt x.val y.val))
  | .gtr => K (.bool (S.ilt y.val x.val))
  | .leq => K (.bool (S.ile x.val y.val))
  | .geq => K (.bool (S.ile y.val x.val))
  | _ => False

def bwI (op : BinOp) (k k' : IntKind) (a b : Int) (K : Int → Prop) : Prop :=
  match bwCls op with
  | 1 => S.req (S.pile 0 b) (K (S.ishift op k a b))
  | 2 => if k = k' then K (S.ibits op k a b) else False
  | _ => False

def aeqB : List IntKind → List AV → List AV → Option Bool
  | [], [], [] => some true
  | k :: ks, .d (.int k1 x) :: xs, .d (.int k2 y) :: ys => if k = k1 then (if k = k2 then match aeqB ks xs ys with
    | some b => some (S.band (S.ieq x.val y.val) b)
    | none => none else none) else none
  | _, _, _ => none

def aeqC : List CK → List AV → List AV → Option Bool
  | [], [], [] => some true
  | .i k :: ks, .d (.int k1 x) :: xs, .d (.int k2 y) :: ys => if k = k1 then (if k = k2 then match aeqC ks xs ys with
    | some b => some (S.band (S.ieq x.val y.val) b)
    | none => none else none) else none
  | .o :: ks, .d (.bool x) :: xs, .d (.bool y) :: ys => match aeqC ks xs ys with
    | some b => some (S.band (S.beq x y) b)
    | none => none
  | _, _, _ => none

def kcells : List IntKind → List AV → (List KC → Prop) → Prop
  | [], [], K => K []
  | k :: ks, .d (.int k' x) :: xs, K => if k = k' then S.req (S.inr k x.val) (kcells ks xs fun l => K (.i x.val :: l)) else False
  | _, _, _ => False

def kshape (wide : Bool) (ks : List IntKind) (v : AV) (K : List KC → Prop) : Prop :=
  match v with
  | .agg cs => if wide then kcells S ks cs K else False
  | v => if wide then False else kcells S ks [v] K

def bval : AV → (Bool → Prop) → Prop
  | .d (.bool b), K => K b
  | _, _ => False

def ival : AV → (IX → Prop) → Prop
  | .d (.int .i64 n), K => K n
  | _, _ => False

def opdL (ts : List AV) : List IOpd → List AV
  | [] => []
  | x :: l => opd ts x :: opdL ts l

def fillP (ts : List AV) : List AV → List (Nat × Nat × IOpd) → Option (List AV)
  | cs, [] => some cs
  | cs, (off, sz, x) :: r => if Nat.beq (llen (opd ts x).cells) sz && ones (opd ts x).cells then match lput cs off (opd ts x).cells with
      | some cs' => fillP ts cs' r
      | none => none
    else none

/-- The rows of a slice that is written out. -/
def fillR (ts : List AV) (sz : Nat) : List (List AV) → List (Nat × IOpd) → Option (List (List AV))
  | rs, [] => some rs
  | rs, (i, x) :: r => if Nat.beq (llen (opd ts x).cells) sz && ones (opd ts x).cells then match lget rs i with
      | some _ => fillR ts sz (lset rs i (opd ts x).cells) r
      | none => none
    else none

def lrep {α : Type} (x : α) : Nat → List α
  | 0 => []
  | n + 1 => x :: lrep x n

def freezeR (h : List AObj) (rs : List (List AV)) (K : List (List DV) → List AObj → Prop) : Prop :=
  match rs with
  | [] => K [] h
  | r :: rs => freezeC S h r fun cs h' => match dvs cs with
    | some l => freezeR h' rs fun ls h'' => K (l :: ls) h''
    | none => False

/-- A part of a row of data. -/
def pickD (row : List DV) (off : Nat) (agg : Option Nat) (K : AV → Prop) : Prop :=
  match agg with
  | none => match lget row off with | some v => K (.d v) | none => False
  | some m => match lcut row off m with | some c => K (.agg (lmap .d c)) | none => False

/-- What lies behind an address. -/
def readP (h : List AObj) (p : AV) (agg : Option Nat) (K : AV → Prop) : Prop :=
  match p with
  | .ptr l off => match lget h l with
    | some (.var cs) => match agg with
      | none => match lget cs off with | some v => K v | none => False
      | some n => match lcut cs off n with | some c => K (.agg c) | none => False
    | _ => False
  | .aptr l sz i off => match lget h l with
    | some (.arr sz' n e) => if Nat.beq sz sz' then S.req (S.pnlt i n) (pickD (e i) off agg K) else False
    | some (.frz sz' n e) => if Nat.beq sz sz' then S.req (S.pnlt i n) (pickD (e i) off agg K) else False
    | _ => False
  | .dptr row off => pickD row off agg K
  | _ => False

def writeP (h : List AObj) (p v : AV) (sz : Nat) (K : List AObj → Prop) : Prop :=
  match p with
  | .ptr l off => if Nat.beq (llen v.cells) sz && ones v.cells then match lget h l with
    | some (.var cs) => match lput cs off v.cells with | some cs' => K (lset h l (.var cs')) | none => False
    | _ => False
    else False
  | .aptr l sz' i off => if Nat.beq (llen v.cells) sz && ones v.cells then dcells S h v fun new h' => match lget h' l with
    | some (.arr sz'' n e) => if Nat.beq sz' sz'' then S.req (S.pnlt i n) (match lput (e i) off new with
        | some row => K (lset h' l (.arr sz'' n (S.upd e i row)))
        | none => False) else False
    | _ => False
    else False
  | _ => False

/-- No local object is named in it. -/
def AV.free : AV → Bool
  | .d _ => true
  | .dfs .. => true
  | .dptr .. => true
  | .fn _ [] [] => true
  | _ => false

def frees : List AV → Bool
  | [] => true
  | .agg cs :: l => if frees1 cs then frees l else false
  | v :: l => if v.free then frees l else false
where frees1 : List AV → Bool
  | [] => true
  | v :: l => if v.free then frees1 l else false

def AV.isPtr : AV → Bool
  | .ptr .. => true
  | .aptr .. => true
  | .dptr .. => true
  | _ => false

def big : Nat := 1073741824

/-- x[i:] and so on, of elements of sz cells: the bounds. -/
def bndI (ts : List AV) (x : Option IOpd) (d : IX) (K : IX → Prop) : Prop :=
  match x with
  | none => K d
  | some o => ival (opd ts o) K

def nat (S : Sig) : IX → Nat
  | .v n => S.toNat n
  | .l n => n.toNat

def startO (s : Option Nat) (lo : IX) : Option Nat :=
  match lo with
  | .l 0 => s
  | lo => match s with
    | none => some (nat S lo)
    | some t => some (S.nadd t (nat S lo))

def shiftL (e : Nat → List DV) (lo : IX) : Nat → List DV :=
  match lo with
  | .l 0 => e
  | lo => S.shift e (nat S lo)

def stepSlice (ts : List AV) (sz : Nat) (x : AV) (lo hi mx : Option IOpd) (K : AV → Prop) : Prop :=
  match x with
  | .msl l sz' s n f => if Nat.beq sz sz' then
      bndI ts lo (.l 0) fun lo => bndI ts hi (.v (S.ofNat n)) fun hi =>
        S.req (S.pile 0 lo.val) (S.req (S.pile lo.val hi.val) (S.req (S.pile hi.val (S.ofNat n)) (
          match mx with
          | none => if f then S.req (hi.val = S.ofNat n) (K (.msl l sz (startO S s lo) (S.nsub (nat S hi) (nat S lo)) true)) else K (.msl l sz (startO S s lo) (S.nsub (nat S hi) (nat S lo)) false)
          | some m => ival (opd ts m) fun m => S.req (m.val = hi.val) (K (.msl l sz (startO S s lo) (S.nsub (nat S hi) (nat S lo)) true)))))
    else False
  | .d (.sl sz' n e) => if Nat.beq sz sz' then
      bndI ts lo (.l 0) fun lo => bndI ts hi (.v (S.ofNat n)) fun hi =>
        S.req (S.pile 0 lo.val) (S.req (S.pile lo.val hi.val) (S.req (S.pile hi.val (S.ofNat n)) (
          match mx with
          | none => K (.d (.sl sz (S.nsub (nat S hi) (nat S lo)) (shiftL S e lo)))
          | some m => ival (opd ts m) fun m => S.req (m.val = hi.val) (K (.dfs sz (S.nsub (nat S hi) (nat S lo)) (shiftL S e lo))))))
    else False
  | .d .nil => bndI ts lo (.l 0) fun lo => bndI ts hi (.l 0) fun hi => S.req (lo.val = 0) (S.req (hi.val = 0) (match mx with
      | none => K (.d .nil)
      | some m => ival (opd ts m) fun m => S.req (m.val = 0) (K (.d .nil))))
  | _ => False

def idx (i : IX) (n : Nat) (K : Nat → Prop) : Prop := S.req (S.inb i.val n) (K (nat S i))

def stepIaddr (sz : Nat) (x : AV) (i : IX) (K : AV → Prop) : Prop :=
  match x with
  | .msl l sz' s n _ => if Nat.beq sz sz' then idx S i n fun j => K (.aptr l sz (addO S s j) 0) else False
  | .d (.sl sz' n e) => if Nat.beq sz sz' then idx S i n fun j => K (.dptr (e j) 0) else False
  | .dfs sz' n e => if Nat.beq sz sz' then idx S i n fun j => K (.dptr (e j) 0) else False
  | _ => False

def viewN (sz : Nat) (h : List AObj) (v : AV) (K : Nat → Nat → (Nat → List DV) → Prop) : Prop :=
  match v with
  | .d .nil => K sz 0 fun _ => []
  | .d (.raw (.slice _ 0 _)) => K sz 0 fun _ => []
  | v => view S h v K

def stepAppend (h : List AObj) (sz : Nat) (x y : AV) (mu : Bool) (K : AV → List AObj → List Nat → Prop) : Prop :=
  viewN S sz h y fun sz2 m e2 => if Nat.beq sz sz2 then (
    match x with
    | .d .nil => S.req (S.pnle m big) (if mu then K (.msl (llen h) sz none m false) (lapp h [.arr sz m e2]) [] else K (.d (.sl sz m e2)) h [])
    | .dfs sz' n e => if Nat.beq sz sz' then S.req (S.pnle (S.nadd n m) big) (S.req (S.pnlt 0 m) (
        if mu then K (.msl (llen h) sz none (S.nadd n m) false) (lapp h [.arr sz (S.nadd n m) (S.app n e e2)]) []
        else K (.d (.sl sz (S.nadd n m) (S.app n e e2))) h [])) else False
    | .msl l sz' none n false => if Nat.beq sz sz' then match lget h l with
        | some (.arr sz'' n' e) => if Nat.beq sz sz'' then S.req (n' = n) (S.req (S.pnle (S.nadd n m) big)
            (K (.msl l sz none (S.nadd n m) false) (forgetH l false (lset h l (.arr sz (S.nadd n m) (S.app n e e2)))) [l])) else False
        | _ => False else False
    | .msl l sz' s n true => if Nat.beq sz sz' then view S h (.msl l sz' s n true) fun _ n e => S.req (S.pnle (S.nadd n m) big) (S.req (S.pnlt 0 m) (
        if mu then K (.msl (llen h) sz none (S.nadd n m) false) (lapp h [.arr sz (S.nadd n m) (S.app n e e2)]) []
        else K (.d (.sl sz (S.nadd n m) (S.app n e e2))) h [])) else False
    | _ => False) else False

/-- A slice of nothing. -/
def isZero : AV → Bool
  | .d .nil => true
  | .d (.sl _ 0 _) => true
  | .dfs _ 0 _ => true
  | .msl _ _ _ 0 _ => true
  | _ => false

def subO (n : Nat) : Option Nat → Nat
  | none => n
  | some s => S.nsub n s

def startN : Option Nat → Nat
  | none => 0
  | some s => s

def stepAppIn (h : List AObj) (sz : Nat) (x y : AV) (K : AV → List AObj → Prop) : Prop :=
  viewN S sz h y fun sz2 m e2 => if Nat.beq sz sz2 then (
    match x with
    | .msl l sz' s n false => if Nat.beq sz sz' then match lget h l with
        | some (.arr sz'' n' e) => if Nat.beq sz sz'' then S.req (S.pnle (S.nadd (addO S s n) m) n') (
            K (.msl l sz s (S.nadd n m) false) (lset h l (.arr sz n' (S.put (addO S s n) m e e2)))) else False
        | _ => False else False
    | _ => False) else False

/-- The first k rows of one cell each. -/
def rowsE (e : Nat → List DV) : Nat → Option (List AV)
  | 0 => some []
  | k + 1 => match rowsE e k with
    | some l => match e k with
      | [x] => some (lapp l [.d x])
      | _ => none
    | none => none

def stepCopy (h : List AObj) (sz : Nat) (x y : AV) (K : AV → List AObj → Prop) : Prop :=
  viewN S sz h y fun sz2 m e2 => if Nat.beq sz sz2 then (
    match x with
    | .msl l sz' s n _ => if Nat.beq sz sz' then match lget h l with
        | some (.arr sz'' n' e) => if Nat.beq sz sz'' then S.req (S.pnle (addO S s n) n') (
            K (.d (.int .i64 (.v (S.ofNat (S.nmin n m))))) (lset h l (.arr sz n' (S.put (startN s) (S.nmin n m) e e2)))) else False
        | _ => False else False
    | .vsl l off n => if Nat.beq sz 1 then match lget h l with
        | some (.var cs) => match rowsE e2 (S.nmin n m) with
          | some new => match lput cs off new with
            | some cs' => K (.d (.int .i64 (.v (S.ofNat (S.nmin n m))))) (lset h l (.var cs'))
            | none => False
          | none => False
        | _ => False else False
    | _ => False) else False

/-- The bounds of a slice that nothing looks at. -/
def stepChk (ts : List AV) (sz sz' n : Nat) (lo hi mx : Option IOpd) (K : Prop) : Prop :=
  if Nat.beq sz sz' then bndI ts lo (.l 0) fun lo => bndI ts hi (.v (S.ofNat n)) fun hi => bndI ts mx (.v (S.ofNat n)) fun mx =>
    S.req (S.pile 0 lo.val) (S.req (S.pile lo.val hi.val) (S.req (S.pile hi.val mx.val) (S.req (S.pile mx.val (S.ofNat n)) K))) else False

/-- One operation: what it yields, the objects behind it, the objects that have moved. -/
def stepOp (o : IOp) (st : St) (K : AV → List AObj → List Nat → Prop) : Prop :=
  match o with
  | .mv x => K (opd st.ts x) st.h []
  | .newnil sz => K (.msl (llen st.h) sz none 0 false) (lapp st.h [.arr sz 0 fun _ => []]) []
  | .bnew sz => K (.msl (llen st.h) sz none 0 false) (lapp st.h [.arr sz 0 fun _ => []]) []
  | .pick c a b => bval (opd st.ts c) fun
    | true => K (opd st.ts a) st.h []
    | false => K (opd st.ts b) st.h []
  | .alloc zs => K (.ptr (llen st.h) 0) (lapp st.h [.var (lmap .d zs)]) []
  | .box x => if ones (opd st.ts x).cells then K (.ptr (llen st.h) 0) (lapp st.h [.var (opd st.ts x).cells]) [] else False
  | .build zs ps => match fillP st.ts (lmap .d zs) ps with | some cs => K (.agg cs) st.h [] | none => False
  | .bslice sz len zs ps mu => match fillR st.ts sz (lrep (lmap .d zs) len) ps with
    | some rs => freezeR S st.h rs fun rows h' =>
        if mu then K (.msl (llen h') sz none len false) (lapp h' [.arr sz len (rowAt rows)]) [] else K (.d (.sl sz len (rowAt rows))) h' []
    | none => False
  | .load agg x => readP S st.h (opd st.ts x) agg fun v => K v st.h []
  | .store sz a x => writeP S st.h (opd st.ts a) (opd st.ts x) sz fun h' => K (.und) h' []
  | .nilchk x => if (opd st.ts x).isPtr then K (opd st.ts x) st.h [] else False
  | .bin op x y => match opd st.ts x, opd st.ts y with
    | .d (.int k a), .d (.int k' b) => if k = k' then binI S op k a b fun v => K (.d v) st.h [] else False
    | .d (.int .i64 a), .ge m => match op with
      | .gtr => S.req (S.pile a.val (S.ofNat m)) (K (.d (.bool false)) st.h [])
      | _ => False
    | _, _ => False
  | .binb op x y => match opd st.ts x, opd st.ts y with
    | .d (.bool a), .d (.bool b) => match op with
      | .eql => K (.d (.bool (S.beq a b))) st.h []
      | .neq => K (.d (.bool (S.bnot (S.beq a b)))) st.h []
      | _ => False
    | _, _ => False
  | .aeq neg ks x y => match opd st.ts x, opd st.ts y with
    | .agg xs, .agg ys => match aeqB S ks xs ys with
      | some b => K (.d (.bool (if neg then S.bnot b else b))) st.h []
      | none => False
    | _, _ => False
  | .un op x => match op, opd st.ts x with
    | .not, .d (.bool true) => K (.d (.bool false)) st.h []
    | .not, .d (.bool false) => K (.d (.bool true)) st.h []
    | .neg, .d (.int k n) => S.req (S.inr k (S.isub 0 n.val)) (K (.d (.int k (.v (S.isub 0 n.val)))) st.h [])
    | _, _ => False
  | .conv k x => match opd st.ts x with
    | .d (.int _ n) => K (.d (.int k (.v (S.iwrap k n.val)))) st.h []
    | _ => False
  | .mkfn f first cap => K (.fn f (opdL st.ts first) (opdL st.ts cap)) st.h []
  | .mkmap wide ks => K (.map (llen st.h)) (lapp st.h [.map wide ks 0 fun _ => none]) []
  | .mkslice sz zs _ n => ival (opd st.ts n) fun n => S.req (S.pile 0 n.val) (S.req (S.pile n.val (S.ofNat big))
      (K (.msl (llen st.h) sz none (nat S n) false) (lapp st.h [.arr sz (nat S n) (S.rep (nat S n) zs)]) []))
  | .slice sz x lo hi mx => stepSlice S st.ts sz (opd st.ts x) lo hi mx fun v => K v st.h []
  | .slarr n x lo hi => match opd st.ts x with
    | .ptr l off => bndI st.ts lo (.l 0) fun lo => bndI st.ts hi (.l n) fun hi =>
        S.req (S.pile 0 lo.val) (S.req (S.pile lo.val hi.val) (S.req (S.pile hi.val (S.ofNat n)) (match S.nsub (nat S hi) (nat S lo) with
          | 0 => K (.d (.sl 1 0 fun _ => [])) st.h []
          | m + 1 => K (.vsl l (S.nadd off (nat S lo)) (m + 1)) st.h [])))
    | _ => False
  | .faddr off x => match opd st.ts x with
    | .ptr l o => K (.ptr l (o + off)) st.h []
    | .aptr l sz i o => K (.aptr l sz i (o + off)) st.h []
    | .dptr row o => K (.dptr row (o + off)) st.h []
    | _ => False
  | .field off agg x => match opd st.ts x with
    | .agg cs => match agg with
      | none => match lget cs off with | some v => K v st.h [] | none => False
      | some n => match lcut cs off n with | some c => K (.agg c) st.h [] | none => False
    | _ => False
  | .iaddr sz x i => ival (opd st.ts i) fun i => stepIaddr S sz (opd st.ts x) i fun v => K v st.h []
  | .iaddrA n sz x i => ival (opd st.ts i) fun i => match opd st.ts x with
    | .ptr l off => match i with
      | .l i => if Nat.blt i.toNat n && Int.beq' (Int.ofNat i.toNat) i then K (.ptr l (off + i.toNat * sz)) st.h [] else False
      | .v i => S.req (S.inb i n) (K (.ptr l (S.nadd off (S.nmul (S.toNat i) sz))) st.h [])
    | _ => False
  | .lookup wide ks ok m k => match opd st.ts m with
    | .map l => match lget st.h l with
      | some (.map wide' ks' _ f) => if wide = wide' ∧ ks = ks' then kshape S wide ks (opd st.ts k) fun kc =>
          if ok then K (.tuple [.d (.int .i64 (.v (S.mget f kc))), .d (.bool (S.mhas f kc))]) st.h [] else K (.d (.int .i64 (.v (S.mget f kc)))) st.h [] else False
      | _ => False
    | _ => False
  | .mapupd wide ks m k x => match opd st.ts m with
    | .map l => match lget st.h l with
      | some (.map wide' ks' n f) => if wide = wide' ∧ ks = ks' then kshape S wide ks (opd st.ts k) fun kc =>
          ival (opd st.ts x) fun x => K .und (lset st.h l (.map wide ks (S.mcnt f kc n) (S.mset f kc x.val))) [] else False
      | _ => False
    | _ => False
  | .extract x i => match opd st.ts x with
    | .tuple vs => match lget vs i with | some v => K v st.h [] | none => False
    | _ => False
  | .call f args m => match fnOf (opd st.ts f) with
    | .fn f first cap => match m with
      | .borrow => peekL S st.h (lapp first (lapp (opdL st.ts args) cap)) fun vs => if frees vs then S.callb true f (AV.normL vs) fun v => K v st.h [] else False
      | .share => freezeL S st.h (lapp first (lapp (opdL st.ts args) cap)) fun vs h' => if frees vs then S.callb false f (AV.normL vs) fun v => K v h' [] else False
      | .data => if frees (lapp first (lapp (opdL st.ts args) cap)) then S.callb false f (AV.normL (lapp first (lapp (opdL st.ts args) cap))) fun v => K v st.h [] else False
      | .fresh => freezeL S st.h (lapp first (lapp (opdL st.ts args) cap)) fun vs h' => if frees vs then
          S.calln f (AV.normL vs) fun x os => K (x.shift (llen h')) (lapp h' (shiftH (llen h') os)) [] else False
      | .raw => S.call f (AV.normL (lapp first (lapp (opdL st.ts args) cap))) st.h fun pg v h'' => K v h'' pg
    | .yl l => if m = .raw then S.yld l (AV.normL (opdL st.ts args)) st.h fun pg v h'' => K v h'' pg else False
    | _ => False
  | .len x => match opd st.ts x with
    | .d .nil => K (.d (.int .i64 (.l 0))) st.h []
    | .d (.sl _ n _) => K (.d (.int .i64 (.v (S.ofNat n)))) st.h []
    | .dfs _ n _ => K (.d (.int .i64 (.v (S.ofNat n)))) st.h []
    | .msl _ _ _ n _ => K (.d (.int .i64 (.v (S.ofNat n)))) st.h []
    | .vsl _ _ n => K (.d (.int .i64 (.v (S.ofNat n)))) st.h []
    | _ => False
  | .lenm x => match opd st.ts x with
    | .map l => match lget st.h l with
      | some (.map _ _ n _) => K (.d (.int .i64 (.v (S.ofNat n)))) st.h []
      | _ => False
    | _ => False
  | .cap x => match opd st.ts x with
    | .msl l sz s n f => match lget st.h l with
      | some (.arr sz' m _) => if Nat.beq sz sz' then (if f then K (.d (.int .i64 (.v (S.ofNat n)))) st.h []
          else K (.ge (subO S m s)) st.h []) else False
      | _ => False
    | _ => False
  | .min x y => match opd st.ts x, opd st.ts y with
    | .d (.int k a), .d (.int k' b) => if k = k' then K (.d (.int k (.v (S.isel (S.ilt b.val a.val) b.val a.val)))) st.h [] else False
    | _, _ => False
  | .bw op x y => match opd st.ts x, opd st.ts y with
    | .d (.int k a), .d (.int k' b) => bwI S op k k' a.val b.val fun n => K (.d (.int k (.v n))) st.h []
    | _, _ => False
  | .max x y => match opd st.ts x, opd st.ts y with
    | .d (.int k a), .d (.int k' b) => if k = k' then K (.d (.int k (.v (S.isel (S.ilt a.val b.val) b.val a.val)))) st.h [] else False
    | _, _ => False
  | .append sz _ x y mu => stepAppend S st.h sz (opd st.ts x) (opd st.ts y) mu K
  | .copy sz x y => stepCopy S st.h sz (opd st.ts x) (opd st.ts y) fun v h' => K v h' []
  | .bad => False
  | .appendIn sz x y => stepAppIn S st.h sz (opd st.ts x) (opd st.ts y) fun v h' => K v h' []
  | .clear sz zs x => match opd st.ts x with
    | .msl l sz' s n _ => if Nat.beq sz sz' then match lget st.h l with
      | some (.arr sz'' n' e) => if Nat.beq sz sz'' then S.req (S.pnle (addO S s n) n') (K .any (lset st.h l (.arr sz n' (S.put (startN s) n e (S.rep n zs)))) []) else False
      | _ => False else False
    | _ => False
  | .isnil neg x => match opd st.ts x with
    | .d .nil => K (.d (.bool (if neg then false else true))) st.h []
    | .d (.sl _ n _) => S.req (S.pnlt 0 n) (K (.d (.bool neg)) st.h [])
    | .dfs _ n _ => S.req (S.pnlt 0 n) (K (.d (.bool neg)) st.h [])
    | .msl _ _ _ n _ => S.req (S.pnlt 0 n) (K (.d (.bool neg)) st.h [])
    | .d (.raw (.slice none _ _)) => K (.d (.bool (if neg then false else true))) st.h []
    | .d (.raw (.slice (some _) _ _)) => K (.d (.bool neg)) st.h []
    | _ => False
  | .slicex sz x lo hi => match opd st.ts x with
    | .msl l sz' s n false => if Nat.beq sz sz' then match lget st.h l with
      | some (.arr sz'' n' _) => if Nat.beq sz sz'' then bndI st.ts lo (.l 0) fun lo => bndI st.ts hi (.v (S.ofNat n)) fun hi =>
          S.req (S.pile 0 lo.val) (S.req (S.pile lo.val hi.val) (S.req (S.pnle (addO S s (nat S hi)) n') (K (.msl l sz (startO S s lo) (S.nsub (nat S hi) (nat S lo)) false) st.h []))) else False
      | _ => False else False
    | _ => False
  | .idxs l x => match opd st.ts x with
    | .d (.int _ i) => S.req (S.inb i.val (llen l)) (K (.d (.int .u8 (.v (S.sidx l i.val)))) st.h [])
    | _ => False
  | .slchk sz x lo hi mx => match opd st.ts x with
    | .msl _ sz' _ n _ => stepChk S st.ts sz sz' n lo hi mx (K .any st.h [])
    | .d (.sl sz' n _) => stepChk S st.ts sz sz' n lo hi mx (K .any st.h [])
    | _ => False
  | .ovl x y => match opd st.ts x, opd st.ts y with
    | .msl l _ _ n1 _, .msl l' _ _ n2 _ => if Nat.beq l l' then False else S.req (S.pnlt 0 n1) <| S.req (S.pnlt 0 n2) <| match lget st.h l, lget st.h l' with
      | some (.arr 1 _ _), some (.arr 1 n' _) => S.req (S.pnlt 0 n') (K (.d (.bool false)) st.h [])
      | _, _ => False
    | _, _ => False
  | .appendN sz _ x y mu => match opd st.ts x, isZero (opd st.ts y) with
    | .d .nil, true => K (.d .nil) st.h []
    | .dfs sz' 0 e, true => K (.dfs sz' 0 e) st.h []
    | x, _ => stepAppend S st.h sz x (opd st.ts y) mu K
  | .aeqw neg ks x y => match opd st.ts x, opd st.ts y with
    | .agg xs, .agg ys => match aeqC S ks xs ys with
      | some b => K (.d (.bool (if neg then S.bnot b else b))) st.h []
      | none => False
    | _, _ => False
  | .mkmapv wide ks => K (.map (llen st.h)) (lapp st.h [.mapv wide ks [] []]) []
  | .lookupv wide ks ok z m k => match opd st.ts m with
    | .map l => match lget st.h l with
      | some (.mapv wide' ks' keys vals) => if wide = wide' ∧ ks = ks' then kshape S wide ks (opd st.ts k) fun kc => match kfind kc keys vals with
          | some v => if ok then K (.tuple [v, .d (.bool true)]) st.h [] else K v st.h []
          | none => if ok then K (.tuple [z, .d (.bool false)]) st.h [] else K z st.h []
        else False
      | _ => False
    | _ => False
  | .mapupdv wide ks m k x => match opd st.ts m with
    | .map l => match lget st.h l with
      | some (.mapv wide' ks' keys vals) => if wide = wide' ∧ ks = ks' then kshape S wide ks (opd st.ts k) fun kc => match kset kc (opd st.ts x) keys vals with
          | some vals' => K .und (lset st.h l (.mapv wide ks keys vals')) []
          | none => K .und (lset st.h l (.mapv wide ks (lapp keys [kc]) (lapp vals [opd st.ts x]))) []
        else False
      | _ => False
    | _ => False
  | .bsliceP sz len zs ps => match fillR st.ts sz (lrep (lmap .d zs) len) ps with
    | some rs => match dvsR rs with
      | some rows => K (.d (.sl sz len (rowAt rows))) st.h []
      | none => False
    | none => False
  | .extractF x i => match opd st.ts x with
    | .tuple vs => match lget vs i with
      | some (.agg cs) => freezeC S st.h cs fun cs' h' => K (.agg cs') h' []
      | some (.ptr l 0) => freezePtr S st.h l fun v' h' => K v' h' []
      | some v => freeze S st.h v fun v' h' => K v' h' []
      | none => False
    | _ => False
  | .mapent wide ks z m k => match opd st.ts m with
    | .map l => match lget st.h l with
      | some (.mapv wide' ks' keys vals) => if wide = wide' ∧ ks = ks' then kshape S wide ks (opd st.ts k) fun kc => match kidx kc keys 0 with
          | some i => match lget vals i with
            | some v => K (.tuple [v, .d (.int .i64 (.v (S.ofNat i)))]) st.h []
            | none => False
          | none => K (.tuple [z, .d (.int .i64 (.v (S.ofNat (llen keys))))]) (lset st.h l (.mapv wide ks (lapp keys [kc]) (lapp vals [z]))) []
        else False
      | _ => False
    | _ => False
  | .bslice0 sz => K (.dfs sz 0 fun _ => []) st.h []
  | .appendP sz _ x y => match opd st.ts x, opd st.ts y with
    | .d .nil, .d .nil => K (.d .nil) st.h []
    | .d .nil, .d (.sl sz' m e) => if Nat.beq sz sz' then S.req (S.pnle m big) (K (.d (.sl sz m e)) st.h []) else False
    | _, _ => False
  | .entst m s x => match opd st.ts m with
    | .map l => match lget st.h l with
      | some (.mapv wide ks keys vals) => ival (opd st.ts s) fun n => idx S n (llen vals) fun j => K .und (lset st.h l (.mapv wide ks keys (lset vals j (opd st.ts x)))) []
      | _ => False
    | _ => False

end

end Go.Vf


namespace Go.Vf
open Go
section
variable (S : Sig)

def thenQ (next : St → Prop) (Q : Lv → St → Prop) : Lv → St → Prop
  | .normal, st => next st
  | e, st => Q e st

def blockQ (id : Nat) (Q : Lv → St → Prop) : Lv → St → Prop
  | .exit i, st => if Nat.beq i id then Q .normal st else Q (.exit i) st
  | e, st => Q e st

def St.setb (st : St) (j : Nat) (b : Bool) : St := st.put (some j) (.d (.bool b))

def evOp (o : IOper) (st : St) (K : St → Prop) : Prop :=
  stepOp S o.op st fun v h pg => K (((st.setH h).purge pg).put o.dst v)

def evOpG (o : IOper) (st : St) (K : St → Prop) : Prop :=
  match o.guard with
  | none => evOp S o st K
  | some (j, want) => match lget st.ts j with
    | some (.d (.bool b)) => match b with
      | true => if want then evOp S o (st.setb j true) K else K ((st.setb j true).put o.dst .und)
      | false => if want then K ((st.setb j false).put o.dst .und) else evOp S o (st.setb j false) K
    | some .und => K (st.put o.dst .und)
    | _ => False

def evOps : List IOper → St → (St → Prop) → Prop
  | [], st, K => K st
  | o :: os, st, K => evOpG S o st fun st => evOps os st K

/-- An operation that makes an object, the object being number l. -/
def stepA (l : Nat) (o : IOp) (st : St) (K : AV → AObj → Prop) : Prop :=
  match o with
  | .alloc zs => K (.ptr l 0) (.var (lmap .d zs))
  | .box x => if ones (opd st.ts x).cells then K (.ptr l 0) (.var (opd st.ts x).cells) else False
  | .mkmap wide ks => K (.map l) (.map wide ks 0 fun _ => none)
  | .mkmapv wide ks => K (.map l) (.mapv wide ks [] [])
  | .bnew sz => K (.msl l sz none 0 false) (.arr sz 0 fun _ => [])
  | .mkslice sz zs _ n => ival (opd st.ts n) fun n => S.req (S.pile 0 n.val) (S.req (S.pile n.val (S.ofNat big)) (K (.msl l sz none (nat S n) false) (.arr sz (nat S n) (S.rep (nat S n) zs))))
  | _ => False

def tgt : AV → Option Nat
  | .ptr l _ => some l
  | .aptr l _ _ _ => some l
  | .map l => some l
  | _ => none

def avoids (base l : Nat) : List Nat → Bool
  | [] => true
  | s :: r => if Nat.beq l (base + s) then false else avoids base l r

/-- It meets none of the objects that it must not meet. -/
def avOk (base : Nat) (d : DOper) (ts : List AV) : Bool :=
  match d.av with
  | [] => true
  | _ => match d.o.op.at with
    | some x => match opd ts x with
      | .ptr l _ => avoids base l d.av
      | .aptr l _ _ _ => if d.o.op.kl = .r then avoids base l d.av else false
      | .map l => if d.o.op.kl = .r then avoids base l d.av else false
      | .dptr _ _ => if d.o.op.kl = .r then true else false
      | _ => false
    | none => false

/-- With its guard looked at. -/
def guarded (o : IOper) (st : St) (off : St → Prop) (on : St → Prop) : Prop :=
  match o.guard with
  | none => on st
  | some (j, want) => match lget st.ts j with
    | some (.d (.bool b)) => match b with
      | true => if want then on (st.setb j true) else off (st.setb j true)
      | false => if want then off (st.setb j false) else on (st.setb j false)
    | some .und => off st
    | _ => False

/-- What was loaded is there still. -/
def recheck (base : Nat) (st : St) (k : Prop) : List DOper → Prop
  | [] => k
  | r :: rs => if r.o.op.kl = .r then guarded r.o st (fun _ => recheck base st k rs) fun st => if avOk base r st.ts then
      stepOp S r.o.op st fun v _ _ => match r.o.dst with
        | some d => S.req (S.same v (opd st.ts (.t d))) (recheck base st k rs)
        | none => recheck base st k rs
      else False
    else recheck base st k rs

mutual
/-- No object of these is named. -/
def cleanV (pg : List Nat) : AV → Bool
  | .agg cs => cleanL pg cs
  | .tuple cs => cleanL pg cs
  | .fn _ us cs => if cleanL pg us then cleanL pg cs else false
  | .ptr m _ => cleanN m pg
  | .aptr m _ _ _ => cleanN m pg
  | .msl m _ _ _ _ => cleanN m pg
  | .vsl m _ _ => cleanN m pg
  | .map m => cleanN m pg
  | .yl m => cleanN m pg
  | _ => true
def cleanL (pg : List Nat) : List AV → Bool
  | [] => true
  | v :: l => if cleanV pg v then cleanL pg l else false
def cleanN (m : Nat) : List Nat → Bool
  | [] => true
  | l :: pg => if Nat.beq l m then false else cleanN m pg
end

def cleanT (pg : List Nat) (ts : List AV) : List Nat → Bool
  | [] => true
  | t :: l => if (match lget ts t with | some v => cleanV pg v | none => true) then cleanT pg ts l else false

def dstL (o : IOper) : List Nat :=
  match o.dst with
  | none => []
  | some d => [d]

def calmF (pg : List Nat) (ts : List AV) : List DOper → Bool
  | [] => true
  | r :: rs => if cleanT pg ts r.o.uses then (if cleanT pg ts (dstL r.o) then calmF pg ts rs else false) else false

def allLt (base : Nat) : List Nat → Bool
  | [] => true
  | l :: pg => if Nat.blt l base then allLt base pg else false

def isIn (i : Nat) : List Nat → Bool
  | [] => false
  | j :: l => if Nat.beq i j then true else isIn i l

def apart (d : DOper) : List DOper → List DOper
  | [] => []
  | r :: F => if isIn r.i d.bef then apart d F else r :: apart d F

def evD (base : Nat) (F : List DOper) (d : DOper) (st : St) (K : St → Prop) : Prop :=
  match d.o.op.kl with
  | .a => stepA S (base + d.slot) d.o.op st fun v o => K ((st.setH (lset st.h (base + d.slot) o)).put d.o.dst v)
  | .m => if avOk base d st.ts then stepOp S d.o.op st fun v h pg => match pg with
      | [] => recheck S base ((st.setH h).put d.o.dst v) (K ((st.setH h).put d.o.dst v)) (apart d F)
      | pg => if d.alone then K (((st.setH h).purge pg).put d.o.dst v) else
          if allLt base pg then (if calmF pg st.ts (apart d F) then recheck S base (((st.setH h).purge pg).put d.o.dst v) (K (((st.setH h).purge pg).put d.o.dst v)) (apart d F) else False) else False
    else False
  | .r => if avOk base d st.ts then stepOp S d.o.op st fun v _ _ => K (st.put d.o.dst v) else False
  | _ => stepOp S d.o.op st fun v _ _ => K (st.put d.o.dst v)

def evDG (base : Nat) (F : List DOper) (d : DOper) (st : St) (K : St → Prop) : Prop :=
  guarded d.o st (fun st => K (st.put d.o.dst .und)) fun st => evD S base F d st K

def loads (d : DOper) (F : List DOper) : List DOper := if d.watch then d :: F else F

def evR (base : Nat) (F : List DOper) (ds : List DOper) (st : St) (K : St → Prop) : Prop :=
  match ds with
  | [] => K st
  | d :: ds => evDG S base F d st fun st => evR base (loads d F) ds st K

def St.setc (st : St) (c : IOpd) (b : Bool) : St :=
  match c with
  | .t j => st.setb j b
  | .c _ => st

def ev : ICode → (Lv → St → Prop) → St → Prop
  | .skip, Q, st => Q .normal st
  | .ops l, Q, st => evOps S l st (Q .normal)
  | .draw n l, Q, st => evR S (llen st.h) [] l ⟨st.ts, lapp st.h (lrep (.var []) n), st.mv⟩ (Q .normal)
  | .seq a b, Q, st => ev a (thenQ (ev b Q) Q) st
  | .cond c a b, Q, st => match opd st.ts c with
    | .d (.bool x) => match x with
      | true => ev a Q (st.setc c true)
      | false => ev b Q (st.setc c false)
    | _ => False
  | .block id c, Q, st => ev c (blockQ id Q) st
  | .loop c, Q, st => S.loop c Q st
  | .range f ps a b, Q, st => S.range f ps a b Q st
  | .exit id, Q, st => Q (.exit id) st
  | .scope c, Q, st => S.req S.top (ev c Q st)
  | .label _, Q, st => Q .normal st
  | .ret, Q, st => Q .ret st
end
end Go.Vf


namespace Go.Vf
open Go

/-- What the prover chooses at an operation: (region, place in it, choice). -/
structure Ann where
  ops : List (Nat × Nat × Nat) := []
  refs : List (Nat × List (Nat × Bool)) := []

def Ann.at (a : Ann) (r i : Nat) : Nat :=
  match a.ops.find? fun (r', i', _) => r == r' && i == i' with
  | some (_, _, c) => c
  | none => 0

def dvOf : Value → Option DV
  | .int k n => some (.int k (.l n))
  | .bool b => some (.bool b)
  | .string s => some (.str s.data.toList)
  | .slice none 0 0 => some .nil
  | .map none => some (.raw (.map none))
  | .pointer none => some (.raw (.pointer none))
  | .nilFunc => some (.raw .nilFunc)
  | .nilIface => some (.raw .nilIface)
  | _ => none

def dvsOf (v : Value) : Option (List DV) := v.cells.toList.mapM dvOf

def avOf (v : Value) : Option AV :=
  match v with
  | .agg cs => do pure (.agg ((← cs.toList.mapM dvOf).map .d))
  | v => do pure (.d (← dvOf v))

def opdOf : Operand → Option IOpd
  | .tmp t => some (.t t)
  | .const v => do pure (.c (← avOf v))
  | .func f => some (.c (.fn f [] []))
  | .global _ => none

def opdsOf (l : Array Operand) : Option (List IOpd) := l.toList.mapM opdOf

def optOf : Option Operand → Option (Option IOpd)
  | none => some none
  | some x => do pure (some (← opdOf x))

def sizeT (P : Program) (t : TypeId) : Option Nat := (P.info? t).map (·.size)
def bytesT (P : Program) (t : TypeId) : Option Nat := (P.info? t).map (·.bytes)

def zeroT (P : Program) (t : TypeId) : Option (List DV) := do
  let i ← P.info? t
  dvsOf (← i.zero)

/-- The zero value of a type. -/
def zeroA (P : Program) (t : TypeId) : Option AV := do
  let i ← P.info? t
  avOf (← i.zero)

/-- None of a type that is one cell; its size of a struct or an array. -/
def aggT (P : Program) (t : TypeId) : Option (Option Nat) := do
  match ← P.underlying t with
  | .struct _ | .array _ _ => pure (some (← sizeT P t))
  | _ => pure none

/-- The kinds of the fields' cells, one after the other. -/
def flatF {α : Type} (P : Program) (g : TypeId → Option (List α)) : List Field → Nat → Option (List α)
  | [], _ => some []
  | f :: fs, off => do
    let ks ← g f.type
    if f.offset = off ∧ ks.length = P.cellsOf f.type then
      let r ← flatF P g fs (off + ks.length)
      pure (ks ++ r)
    else none

/-- The kinds of the integers that a value of a type is, cell by cell; the cells must lie one after the other. -/
def flat (P : Program) : Nat → TypeId → Option (List IntKind)
  | 0, _ => none
  | d + 1, t =>
    match P.underlying t with
    | some (.int k) => if P.cellsOf t = 1 then some [k] else none
    | some (.struct fs) => do
      let ks ← flatF P (flat P d) fs.toList 0
      if ks.length = P.cellsOf t ∧ fs.all (·.name != "_") = true then pure ks else none
    | some (.array n e) => do
      let ks ← flat P d e
      if ks.length = P.cellsOf e ∧ n * P.cellsOf e = P.cellsOf t then pure (List.replicate n ks).flatten else none
    | _ => none

/-- What a value of a type is cell by cell, where it can be compared so. -/
def flatC (P : Program) : Nat → TypeId → Option (List CK)
  | 0, _ => none
  | d + 1, t =>
    match P.underlying t with
    | some (.int k) => if P.cellsOf t = 1 then some [.i k] else none
    | some .bool => if P.cellsOf t = 1 then some [.o] else none
    | some (.struct fs) => do
      let ks ← flatF P (flatC P d) fs.toList 0
      if ks.length = P.cellsOf t ∧ fs.all (·.name != "_") = true then pure ks else none
    | some (.array n e) => do
      let ks ← flatC P d e
      if ks.length = P.cellsOf e ∧ n * P.cellsOf e = P.cellsOf t then pure (List.replicate n ks).flatten else none
    | _ => none

def cmpT (P : Program) (t : TypeId) : Option (List CK) := do
  let ks ← flatC P (P.types.size + 1) t
  if P.keyTypeAt 20 t then pure ks else none

/-- The kinds of a key's cells; whether it is a struct or an array. -/
def keyT (P : Program) (t : TypeId) : Option (Bool × List IntKind) := do
  let ks ← flat P (P.types.size + 1) t
  match P.underlying t with
  | some (.int _) => pure (false, ks)
  | some (.struct _) | some (.array _ _) => if P.keyTypeAt 20 t ∧ P.keyType t ∧ t < P.types.size then pure (true, ks) else none
  | _ => none

def compBin (op : BinOp) (x y : IOpd) : IOp :=
  match bwCls op with
  | 0 => .bin op x y
  | _ => .bw op x y

def compEq (P : Program) (neg : Bool) (t : TypeId) (x y : IOpd) : Option IOp :=
  match keyT P t with
  | some k => pure (.aeq neg k.2 x y)
  | none => do pure (.aeqw neg (← cmpT P t) x y)

def isMap (P : Program) (t : TypeId) : Option (TypeId × TypeId) := do
  match ← P.underlying t with
  | .map k e => pure (k, e)
  | _ => none

def isInt (P : Program) (t : TypeId) : Option IntKind := do
  match ← P.underlying t with
  | .int k => pure k
  | _ => none

def isI64 (P : Program) (t : TypeId) : Option Unit := do
  match ← isInt P t with
  | .i64 => match (← P.info? t).zero with
    | some (.int .i64 0) => pure ()
    | _ => none
  | _ => none

def sliceElem (P : Program) (t : TypeId) : Option TypeId := do
  match ← P.underlying t with
  | .slice e => pure e
  | _ => none

def fieldOf (P : Program) (t : TypeId) (f : Nat) : Option Field := do
  match ← P.underlying t with
  | .struct fs => fs[f]?
  | _ => none

def sizeP (P : Program) (t : TypeId) : Option Nat := do
  let n ← sizeT P t
  if n = 0 then none else pure n

/-- Where the parts of a struct or an array lie. -/
def placesT (P : Program) (t : TypeId) : Option (Nat → Option (Nat × Nat)) :=
  match P.underlying t with
  | some (.struct fs) => match fs.toList.mapM (fun f => (P.info? f.type).map fun i => (f.offset, i.size)) with
    | some l => some fun i => l.toArray[i]?
    | none => none
  | some (.array _ e) => match P.info? e with
    | some ie => some fun i => some (i * ie.size, ie.size)
    | none => none
  | _ => none

def modeOf : Nat → Mode
  | 0 => .borrow
  | 1 => .share
  | 2 => .raw
  | 3 => .data
  | _ => .fresh

def compMove (c : Nat) (y : IOpd) : Option IOp :=
  if c = 0 then some (.mv y) else match y with
    | .c (.d .nil) => some (.newnil c)
    | _ => none

def compB (P : Program) (c : Nat) (b : Builtin) (args : List Operand) (tys : List TypeId) : Option IOp :=
  match b with
  | .len => match args, tys with
    | [x], [t] => do
      match ← P.underlying t with
      | .slice _ => pure (.len (← opdOf x))
      | .map _ _ => pure (.lenm (← opdOf x))
      | _ => none
    | _, _ => none
  | .clear => match args, tys with
    | [x], [t] => do
      let e ← sliceElem P t
      let sz ← sizeP P e
      let zs ← zeroT P e
      if zs.length = sz then pure (.clear sz zs (← opdOf x)) else none
    | _, _ => none
  | .cap => match args, tys with
    | [x], [t] => do
      let _ ← sliceElem P t
      pure (.cap (← opdOf x))
    | _, _ => none
  | .min => match args with
    | [x, y] => do pure (.min (← opdOf x) (← opdOf y))
    | _ => none
  | .max => match args with
    | [x, y] => do pure (.max (← opdOf x) (← opdOf y))
    | _ => none
  | .append => match args, tys with
    | [x, y], [t, u] => do
      let e ← sliceElem P t
      let e' ← sliceElem P u
      let sz ← sizeP P e
      let b ← bytesT P e
      let zs ← zeroT P e
      if e = e' ∧ b ≤ 250 ∧ zs.length = sz then (if c = 4 then do pure (.appendP sz b (← opdOf x) (← opdOf y)) else if c = 2 then do pure (.appendIn sz (← opdOf x) (← opdOf y)) else if c = 3 then do pure (.appendN sz b (← opdOf x) (← opdOf y) true) else do pure (.append sz b (← opdOf x) (← opdOf y) (c == 1))) else none
    | _, _ => none
  | .copy => match args, tys with
    | [x, y], [t, u] => do
      let e ← sliceElem P t
      let e' ← sliceElem P u
      let sz ← sizeP P e
      if e = e' then pure (.copy sz (← opdOf x) (← opdOf y)) else none
    | _, _ => none
  | _ => none

/-- The one function of the library without a body that is covered. -/
def ovlName : String := String.ofList ([115, 108, 105, 99, 101, 115, 46, 111, 118, 101, 114, 108, 97, 112, 115, 91, 105, 110, 116, 93].map Char.ofNat)

def compOp0 (P : Program) (c : Nat) (o : Oper) : Option IOp :=
  match o.op with
  | .move x | .assign x => do compMove c (← opdOf x)
  | .pick c a b => do pure (.pick (← opdOf c) (← opdOf a) (← opdOf b))
  | .alloc t => do pure (.alloc (← zeroT P t))
  | .box _ x => do pure (.box (← opdOf x))
  | .build t ps => do
    let zs ← zeroT P t
    let place ← placesT P t
    let l ← ps.toList.mapM fun ix => do
      let os ← place ix.1
      pure (os.1, os.2, ← opdOf ix.2)
    pure (.build zs l)
  | .buildSlice t n ps => do
    let e ← sliceElem P t
    let sz ← sizeP P e
    let zs ← zeroT P e
    if zs.length = sz ∧ n * sz ≤ 1000000 then
      let l ← ps.toList.mapM fun ix => do pure (ix.1, ← opdOf ix.2)
      if n = 0 ∧ c = 1 then (if l.isEmpty then some (.bnew sz) else none) else if n = 0 ∧ c = 2 then (if l.isEmpty then some (.bslice0 sz) else none) else if c = 2 then pure (.bsliceP sz n zs l) else pure (.bslice sz n zs l (c == 1))
    else none
  | .load t a => do pure (.load (← aggT P t) (← opdOf a))
  | .store t a x => do pure (.store (← sizeT P t) (← opdOf a) (← opdOf x))
  | .nilCheck x => do pure (.nilchk (← opdOf x))
  | .binOp op t x y _ => do
    match ← P.underlying t with
    | .int _ => pure (compBin op (← opdOf x) (← opdOf y))
    | .bool => pure (.binb op (← opdOf x) (← opdOf y))
    | .struct _ => match op with
      | .eql => if P.eqGuardType P.depth t then none else do compEq P false t (← opdOf x) (← opdOf y)
      | .neq => if P.eqGuardType P.depth t then none else do compEq P true t (← opdOf x) (← opdOf y)
      | _ => none
    | .array _ _ => match op with
      | .eql => if P.eqGuardType P.depth t then none else do pure (.aeqw false (← cmpT P t) (← opdOf x) (← opdOf y))
      | .neq => if P.eqGuardType P.depth t then none else do pure (.aeqw true (← cmpT P t) (← opdOf x) (← opdOf y))
      | _ => none
    | .slice _ => match op, y with
      | .eql, .const (.slice none 0 0) => do pure (.isnil false (← opdOf x))
      | .neq, .const (.slice none 0 0) => do pure (.isnil true (← opdOf x))
      | _, _ => none
    | _ => none
  | .unOp op _ x => do pure (.un op (← opdOf x))
  | .convert s d x => do
    let _ ← isInt P s
    pure (.conv (← isInt P d) (← opdOf x))
  | .makeFunc (.func f) first cap => do pure (.mkfn f (← opdsOf first) (← opdsOf cap))
  | .makeMap t none => do
    let (kt, et) ← isMap P t
    let (wide, ks) ← keyT P kt
    if c = 1 then pure (.mkmapv wide ks) else match isI64 P et with
    | some _ => pure (.mkmap wide ks)
    | none => pure (.mkmapv wide ks)
  | .makeSlice t n m => do
    let e ← sliceElem P t
    let sz ← sizeP P e
    let zs ← zeroT P e
    let b ← bytesT P e
    let x ← opdOf n
    match n, m with
    | .tmp i, .tmp j => if i = j ∧ zs.length = sz ∧ b ≤ 250 then pure (.mkslice sz zs b x) else none
    | .const (.int .i64 i), .const (.int .i64 j) => if i = j ∧ zs.length = sz ∧ b ≤ 250 then pure (.mkslice sz zs b x) else none
    | _, _ => none
  | .slice t x lo hi mx => do
    match ← P.underlying t with
    | .slice e => do
      let sz ← sizeP P e
      if c = 1 then match mx with
        | none => pure (.slicex sz (← opdOf x) (← optOf lo) (← optOf hi))
        | some _ => none
      else if c = 2 then match hi with
        | some _ => pure (.slchk sz (← opdOf x) (← optOf lo) (← optOf hi) (← optOf mx))
        | none => none
      else match hi, mx with
      | none, some _ => none
      | _, _ => pure (.slice sz (← opdOf x) (← optOf lo) (← optOf hi) (← optOf mx))
    | .array n e => do
      let k ← sizeT P e
      match mx with
      | none => if k = 1 then pure (.slarr n (← opdOf x) (← optOf lo) (← optOf hi)) else none
      | _ => none
    | _ => none
  | .fieldAddr t x f => do
    let f ← fieldOf P t f
    let _ ← sizeP P f.type
    pure (.faddr f.offset (← opdOf x))
  | .field t x f => do
    let f ← fieldOf P t f
    pure (.field f.offset (← aggT P f.type) (← opdOf x))
  | .indexAddr t x i => do
    match ← P.underlying t with
    | .slice e => do pure (.iaddr (← sizeP P e) (← opdOf x) (← opdOf i))
    | .array n e => do pure (.iaddrA n (← sizeP P e) (← opdOf x) (← opdOf i))
    | _ => none
  | .lookup t m k ok => do
    let (kt, et) ← isMap P t
    let (wide, ks) ← keyT P kt
    if c = 1 then pure (.lookupv wide ks ok (← zeroA P et) (← opdOf m) (← opdOf k)) else match isI64 P et with
    | some _ => pure (.lookup wide ks ok (← opdOf m) (← opdOf k))
    | none => pure (.lookupv wide ks ok (← zeroA P et) (← opdOf m) (← opdOf k))
  | .mapUpdate t m k x => do
    let (kt, et) ← isMap P t
    let (wide, ks) ← keyT P kt
    if c = 1 then pure (.mapupdv wide ks (← opdOf m) (← opdOf k) (← opdOf x)) else match isI64 P et with
    | some _ => pure (.mapupd wide ks (← opdOf m) (← opdOf k) (← opdOf x))
    | none => pure (.mapupdv wide ks (← opdOf m) (← opdOf k) (← opdOf x))
  | .mapEntry t m k => do
    let (kt, et) ← isMap P t
    let (wide, ks) ← keyT P kt
    pure (.mapent wide ks (← zeroA P et) (← opdOf m) (← opdOf k))
  | .entryStore _ m s x => do pure (.entst (← opdOf m) (← opdOf s) (← opdOf x))
  | .index t (.const (.string s)) i => do
    match ← P.underlying t with
    | .string => pure (.idxs s.data.toList (← opdOf i))
    | _ => none
  | .extract x i => do
    let x ← opdOf x
    if c = 1 then pure (.extractF x i) else pure (.extract x i)
  | .call k => match k.callee with
    | .value (.func f) => match P.funcs[f]? with
      | some fn => if fn.body.isNone && fn.name == ovlName then match k.args.toList with
          | [x, y] => do pure (.ovl (← opdOf x) (← opdOf y))
          | _ => none
        else do pure (.call (.c (.fn f [] [])) (← opdsOf k.args) (modeOf c))
      | none => none
    | .value f => do pure (.call (← opdOf f) (← opdsOf k.args) (modeOf c))
    | .builtin b => compB P c b k.args.toList k.argTypes.toList
    | _ => none
  | _ => none

/-- What has no meaning here is bad: to be come to never. -/
def compOp (P : Program) (c : Nat) (o : Oper) : Option IOp :=
  match compOp0 P c o with
  | some x => some x
  | none => some .bad

def compG (P : Program) (A : Ann) (r : Nat) (ops : Array Oper) (i : Nat) (o : Oper) : Option IOper := do
  let op ← compOp P (A.at r i) o
  match o.guard with
  | none => pure ⟨o.dst, none, op⟩
  | some (j, w) => do
    let oj ← ops[j]?
    let d ← oj.dst
    pure ⟨o.dst, some (d, w), op⟩

def compOps (P : Program) (A : Ann) (r : Nat) (ops : Array Oper) : List Oper → Nat → Option (List IOper)
  | [], _ => some []
  | o :: l, i => do
    let x ← compG P A r ops i o
    let xs ← compOps P A r ops l (i + 1)
    pure (x :: xs)

/-- What must have been done ahead of an operation, and the closure of that. -/
def direct (o : Oper) : List Nat := (o.after.toList.filter (Region.binds .any ·)).map (·.on)

def closure : List Oper → List (List Nat) → List (List Nat)
  | [], acc => acc
  | o :: os, acc => closure os (acc ++ [(direct o ++ (direct o).flatMap fun k => acc.getD k []).eraseDups])

def closedB (ops : List Oper) (cl : List (List Nat)) : Bool :=
  (List.range ops.length).all fun j => (cl.getD j []).all fun p => match ops[j]? with
    | some o => isIn p (direct o) || (direct o).any fun k => isIn p (cl.getD k [])
    | none => false

def Kl.rank : Kl → Nat
  | .i => 0
  | .r => 1
  | .a => 2
  | _ => 3

/-- An order: of what is ready, the lowest rank, the earliest. -/
def order (ops : List Oper) (kl : List Nat) : Nat → List Nat → List Nat → List Nat
  | 0, _, acc => acc
  | f + 1, todo, acc =>
    let rs := todo.filter fun j => match ops[j]? with | some o => (direct o).all fun k => isIn k acc | none => false
    let pick := [0, 1, 2, 3].findSome? fun c => rs.find? fun j => kl.getD j 3 == c
    match pick with
    | some j => order ops kl f (todo.filter (· != j)) (acc ++ [j])
    | none => acc

def dstIn (o : IOper) (l : List Nat) : Bool :=
  match o.dst with
  | none => false
  | some d => isIn d l

def sameDst (a b : IOper) : Bool :=
  match a.dst, b.dst with
  | some x, some y => Nat.beq x y
  | _, _ => false

/-- a ahead of b, nothing orders them: they may change places. -/
def indB (a b : DOper) : Bool :=
  !dstIn a.o b.o.uses && !b.alone && (!(b.o.op.kl == .m) || (a.watch && !isIn a.i b.bef)) && (match a.o.op.kl with
    | .m => false
    | .r => match b.o.op.kl with
      | .a => isIn b.slot a.av
      | _ => true
    | .a => match b.o.op.kl with
      | .r => isIn a.slot b.av
      | .m => isIn a.slot b.av
      | _ => true
    | _ => true)

/-- Neither writes what the other looks at. -/
def awayB (a b : DOper) : Bool := !dstIn b.o a.o.uses && !sameDst a.o b.o

def pairB (cl : List (List Nat)) (a b : DOper) : Bool :=
  (!(a.watch && b.watch) || (awayB a b && (!(a.o.op.kl == .r) || !(b.o.op.kl == .a) || isIn b.slot a.av))) &&
  (!(b.o.op.kl == .a && a.o.op.kl == .a) || !Nat.beq a.slot b.slot) &&
  !(a.alone && b.o.op.kl == .a) &&
  (isIn a.i (cl.getD b.i []) || (awayB a b && indB a b))

def pairsB (cl : List (List Nat)) : List DOper → Bool
  | [] => true
  | a :: l => (l.all fun b => pairB cl a b) && pairsB cl l

def placedB (ops : List Oper) : List Nat → List DOper → Bool
  | _, [] => true
  | done, d :: l => (match ops[d.i]? with | some o => (direct o).all fun k => isIn k done | none => false) && !isIn d.i done && placedB ops (d.i :: done) l

def dopers (ios : List IOper) (cl : List (List Nat)) (ref : List Nat) : List DOper :=
  let kls := ios.map (·.op.kl)
  let as := (List.range ios.length).filter fun j => kls.getD j .m == .a
  let before (p j : Nat) : Bool := isIn p (cl.getD j [])
  ref.filterMap fun j => match ios[j]? with
    | none => none
    | some o => some {
        o, i := j, slot := (as.filter (· < j)).length
        av := if o.op.kl == .r || o.op.kl == .m then (as.filter fun k => !before k j && (o.op.kl == .r || !before j k)).map fun k => (as.filter (· < k)).length else []
        bef := if o.op.kl == .m then cl.getD j [] else []
        alone := o.op.kl == .m && (List.range ios.length).all fun k => k == j || before k j || before j k
        watch := (List.range ios.length).any fun k => kls.getD k .i == .m && k != j && !before k j && !before j k }

def compDraw (ops : List Oper) (ios : List IOper) : Option (Nat × List DOper) :=
  let cl := closure ops []
  let ref := order ops (ios.map (·.op.kl.rank)) ops.length (List.range ops.length) []
  let ds := dopers ios cl ref
  if ds.length = ops.length ∧ ((List.range ops.length).all fun i => isIn i (ds.map (·.i))) = true ∧ closedB ops cl = true ∧ pairsB cl ds = true ∧ placedB ops [] ds = true ∧ (ds.all fun d => !dstIn d.o d.o.uses && (!(d.o.op.kl == .a) || Nat.blt d.slot (ios.filter (·.op.kl == .a)).length)) = true then some ((ios.filter (·.op.kl == .a)).length, ds) else none

def comp (P : Program) (A : Ann) : Code → Option ICode
  | .skip => some .skip
  | .region id ops false => do pure (.ops (← compOps P A id ops ops.toList 0))
  | .region id ops true => do
    let ios ← compOps P A id ops ops.toList 0
    let nd ← compDraw ops.toList ios
    pure (.draw nd.1 nd.2)
  | .seq a b => do pure (.seq (← comp P A a) (← comp P A b))
  | .cond c a b => do pure (.cond (← opdOf c) (← comp P A a) (← comp P A b))
  | .block id c => do pure (.block id (← comp P A c))
  | .loop c => do pure (.loop (← comp P A c))
  | .rangeFunc f ps a b => do pure (.range (← opdOf f) ps.toList (← comp P A a) (← comp P A b))
  | .exit id => some (.exit id)
  | .scope c => do pure (.scope (← comp P A c))
  | .label l => some (.label l)
  | .ret => some .ret
  | _ => none

inductive IRes where
  | t (i : Nat)
  | c (i : Nat) (agg : Option Nat)

def compRes (P : Program) (fn : Func) : Option (List IRes) := fn.results.toList.mapM fun
  | .tmp t => some (.t t)
  | .cell a t => do pure (.c a (← aggT P t))

end Go.Vf


namespace Go.Vf
open Go

theorem lget_eq {α : Type} (l : List α) (i : Nat) : lget l i = l[i]? := by
  induction l generalizing i with
  | nil => simp [lget]
  | cons x l ih => cases i <;> simp [lget, ih]

theorem lset_eq {α : Type} (l : List α) (i : Nat) (y : α) : lset l i y = l.set i y := by
  induction l generalizing i with
  | nil => simp [lset]
  | cons x l ih => cases i <;> simp [lset, ih]

theorem lmap_eq {α β : Type} (f : α → β) (l : List α) : lmap f l = l.map f := by
  induction l with
  | nil => rfl
  | cons x l ih => simp [lmap, ih]

theorem lapp_eq {α : Type} (l m : List α) : lapp l m = l ++ m := by
  induction l with
  | nil => rfl
  | cons x l ih => simp [lapp, ih]

theorem llen_eq {α : Type} (l : List α) : llen l = l.length := by
  induction l with
  | nil => rfl
  | cons x l ih => simp [llen, ih]

theorem dvs_r {cs : List AV} {l : List DV} (h : dvs cs = some l) : l.length = cs.length ∧ ∀ (i : Nat) (x : DV), l[i]? = some x → ∃ y, cs[i]? = some y ∧ ∀ {w : World} {S : Nat → Prop} {ρ : Rho} {v : Value}, VR w S ρ y v → DVR w S x v := by
  induction cs generalizing l with
  | nil => simp [dvs] at h; subst h; simp
  | cons c cs ih =>
    unfold dvs at h
    split at h
    · rename_i heq; cases heq
    · rename_i x r heq
      cases heq
      split at h
      · rename_i l' hl'
        cases h
        obtain ⟨h1, h2⟩ := ih hl'
        refine ⟨by simp [h1], fun i y hy => ?_⟩
        cases i with
        | zero => simp at hy; subst hy; exact ⟨_, rfl, fun h => by cases h with | d h => exact h⟩
        | succ i => simp at hy ⊢; exact h2 i y hy
      · cases h
    · rename_i f r heq
      cases heq
      split at h
      · rename_i l' hl'
        cases h
        obtain ⟨h1, h2⟩ := ih hl'
        refine ⟨by simp [h1], fun i y hy => ?_⟩
        cases i with
        | zero =>
          simp at hy; subst hy
          refine ⟨_, rfl, fun h => ?_⟩
          cases h with
          | fn _ _ _ us vs h1 _ h2 _ =>
            have e1 : us = #[] := Array.eq_empty_of_size_eq_zero (by simpa using h1.symm)
            have e2 : vs = #[] := Array.eq_empty_of_size_eq_zero (by simpa using h2.symm)
            subst e1 e2
            exact .raw _ rfl
        | succ i => simp at hy ⊢; exact h2 i y hy
      · cases h
    · cases h

theorem rowAt_eq (rs : List (List DV)) (i : Nat) : rowAt rs i = rs[i]?.getD [] := by
  induction rs generalizing i with
  | nil => simp [rowAt]
  | cons r rs ih => cases i <;> simp [rowAt, ih]

theorem lrep_eq {α : Type} (x : α) (n : Nat) : lrep x n = List.replicate n x := by
  induction n with
  | zero => rfl
  | succ n ih => simp [lrep, ih, List.replicate_succ]

theorem opdL_eq (ts : List AV) (l : List IOpd) : opdL ts l = l.map (opd ts) := by
  induction l with
  | nil => rfl
  | cons x l ih => simp [opdL, ih]

theorem lcut_eq {α : Type} (l : List α) (i n : Nat) (c : List α) (h : lcut l i n = some c) : c.length = n ∧ ∀ j, j < n → c[j]? = l[i + j]? := by
  induction l generalizing i n c with
  | nil =>
    cases i <;> cases n <;> simp [lcut] at h
    subst h; simp
  | cons x l ih =>
    cases i with
    | zero =>
      cases n with
      | zero => simp [lcut] at h; subst h; simp
      | succ n =>
        simp only [lcut] at h
        cases hr : lcut l 0 n with
        | none => simp [hr] at h
        | some r =>
          simp [hr] at h
          subst h
          have := ih 0 n r hr
          refine ⟨by simp [this.1], fun j hj => ?_⟩
          cases j with
          | zero => simp
          | succ j =>
            have := this.2 j (by omega)
            simp at this
            simp [this]
    | succ i =>
      simp only [lcut] at h
      have := ih i n c h
      refine ⟨this.1, fun j hj => ?_⟩
      rw [this.2 j hj, show i + 1 + j = (i + j) + 1 by omega]
      simp

theorem lput_eq {α : Type} (l : List α) (i : Nat) (new : List α) (r : List α) (h : lput l i new = some r) :
    i + new.length ≤ l.length ∧ r = l.take i ++ new ++ l.drop (i + new.length) := by
  induction l generalizing i new r with
  | nil =>
    cases i <;> cases new <;> simp [lput] at h
    subst h; simp
  | cons x l ih =>
    cases i with
    | zero =>
      cases new with
      | nil => simp [lput] at h; subst h; simp
      | cons y new =>
        simp only [lput] at h
        cases hr : lput l 0 new with
        | none => simp [hr] at h
        | some r' =>
          simp [hr] at h
          subst h
          have := ih 0 new r' hr
          refine ⟨by have := this.1; simp at this ⊢; omega, ?_⟩
          rw [this.2]
          simp
    | succ i =>
      simp only [lput] at h
      cases hr : lput l i new with
      | none => simp [hr] at h
      | some r' =>
        simp [hr] at h
        subst h
        have := ih i new r' hr
        refine ⟨by have := this.1; simp; omega, ?_⟩
        rw [this.2, show i + 1 + new.length = (i + new.length) + 1 by omega]
        simp

theorem AV.normL_eq (l : List AV) : AV.normL l = l.map AV.norm := by
  induction l with
  | nil => rfl
  | cons x l ih => simp [AV.normL, ih]

theorem AV.forgetL_eq (m : Nat) (all : Bool) (l : List AV) : AV.forgetL m all l = l.map (AV.forget m all) := by
  induction l with
  | nil => rfl
  | cons x l ih => simp [AV.forgetL, ih]

theorem forgetH_eq (m : Nat) (all : Bool) (l : List AObj) : forgetH m all l = l.map (AObj.forget m all) := by
  induction l with
  | nil => rfl
  | cons x l ih => simp [forgetH, ih]

theorem VR.norm {w : World} {S : Nat → Prop} {ρ : Rho} {x : AV} {v : Value} (h : VR w S ρ x v) : VR w S ρ x.norm v := by
  have key : ∀ {cs : List AV} {vs : Array Value}, (∀ (i : Nat) (x : AV) (v : Value), cs[i]? = some x → vs[i]? = some v → VR w S ρ x.norm v) →
      ∀ (i : Nat) (x : AV) (v : Value), (AV.normL cs)[i]? = some x → vs[i]? = some v → VR w S ρ x v := by
    intro cs vs ih i x v hx hv
    rw [AV.normL_eq, List.getElem?_map] at hx
    cases hc : cs[i]? with
    | none => simp [hc] at hx
    | some y => simp [hc] at hx; subst hx; exact ih i y v hc hv
  induction h with
  | @d y u h =>
    cases y with
    | int k n => cases h; exact .d (.int k (.v n.val))
    | _ => exact .d h
  | any v => exact .any v
  | und => exact .und
  | agg cs vs hl _ ih => exact .agg _ vs (by simpa [AV.normL_eq] using hl) (key ih)
  | tuple cs vs hl _ ih => exact .tuple _ vs (by simpa [AV.normL_eq] using hl) (key ih)
  | ptr l off b C h => exact .ptr l off b C h
  | aptr l sz i off b C h => exact .aptr l sz i off b C h
  | dptr row off b base f hb hv hr => exact .dptr row off b base f hb hv hr
  | dfs sz n e a h => exact .dfs sz n e a h
  | msl l sz start len full ob C cap a h hc hcap ha => exact .msl l sz start len full ob C cap a h hc hcap ha
  | vsl l off n b C cap h hc => exact .vsl l off n b C cap h hc
  | map l b C h => exact .map l b C h
  | fn f first cap us vs hl1 _ hl _ ih1 ih => exact .fn f _ _ us vs (by simpa [AV.normL_eq] using hl1) (key ih1) (by simpa [AV.normL_eq] using hl) (key ih)
  | ge m n h => exact .ge m n h
  | yl l b C h => exact .yl l b C h

/-- Is object m forgotten? -/
def gone (l : Nat) (all : Bool) (m : Nat) : Bool := if all then Nat.ble l m else Nat.beq l m

theorem VR.forget {w w' : World} {S S' : Nat → Prop} {ρ ρ' : Rho} (hS : ∀ b, S b → S' b) (hw : ∀ b, S b → w'.heap[b]? = w.heap[b]?) (l : Nat) (all : Bool)
    (hρ : ∀ m p, gone l all m = false → ρ m = some p → ρ' m = some p) {x : AV} {v : Value} (h : VR w S ρ x v) : VR w' S' ρ' (x.forget l all) v := by
  have key : ∀ {cs : List AV} {vs : Array Value}, (∀ (i : Nat) (x : AV) (v : Value), cs[i]? = some x → vs[i]? = some v → VR w' S' ρ' (x.forget l all) v) →
      ∀ (i : Nat) (x : AV) (v : Value), (AV.forgetL l all cs)[i]? = some x → vs[i]? = some v → VR w' S' ρ' x v := by
    intro cs vs ih i x v hx hv
    rw [AV.forgetL_eq, List.getElem?_map] at hx
    cases hc : cs[i]? with
    | none => simp [hc] at hx
    | some y => simp [hc] at hx; subst hx; exact ih i y v hc hv
  induction h with
  | d h => exact .d (h.mono hS hw)
  | any v => exact .any v
  | und => exact .und
  | agg cs vs hl _ ih => exact .agg _ vs (by simpa [AV.forgetL_eq] using hl) (key ih)
  | tuple cs vs hl _ ih => exact .tuple _ vs (by simpa [AV.forgetL_eq] using hl) (key ih)
  | ptr m off b C h =>
    show VR w' S' ρ' (if gone l all m then .any else _) _
    cases hg : gone l all m
    · exact .ptr m off b C (hρ _ _ hg h)
    · exact .any _
  | aptr m sz i off b C h =>
    show VR w' S' ρ' (if gone l all m then .any else _) _
    cases hg : gone l all m
    · exact .aptr m sz i off b C (hρ _ _ hg h)
    · exact .any _
  | dptr row off b base f hb hv hr =>
    refine .dptr row off b base f (hS b hb) (fun j hj => ?_) (fun j x hx => (hr j x hx).mono hS hw)
    rw [cell?_congr (hw b hb)]
    exact hv j hj
  | dfs sz n e a h => exact .dfs sz n e a (h.mono hS hw)
  | msl m sz start len full ob C cap a h hc hcap ha =>
    show VR w' S' ρ' (if gone l all m then .any else _) _
    cases hg : gone l all m
    · exact .msl m sz start len full ob C cap a (hρ _ _ hg h) hc hcap ha
    · exact .any _
  | vsl m off n b C cap h hc =>
    show VR w' S' ρ' (if gone l all m then .any else _) _
    cases hg : gone l all m
    · exact .vsl m off n b C cap (hρ _ _ hg h) hc
    · exact .any _
  | map m b C h =>
    show VR w' S' ρ' (if gone l all m then .any else _) _
    cases hg : gone l all m
    · exact .map m b C (hρ _ _ hg h)
    · exact .any _
  | fn f first cap us vs hl1 _ hl _ ih1 ih => exact .fn f _ _ us vs (by simpa [AV.forgetL_eq] using hl1) (key ih1) (by simpa [AV.forgetL_eq] using hl) (key ih)
  | ge m n h => exact .ge m n h
  | yl m b C h =>
    show VR w' S' ρ' (if gone l all m then .any else _) _
    cases hg : gone l all m
    · exact .yl m b C (hρ _ _ hg h)
    · exact .any _

def VRs (w : World) (S : Nat → Prop) (ρ : Rho) (xs : List AV) (vs : Array Value) : Prop :=
  xs.length = vs.size ∧ ∀ (i : Nat) (x : AV) (v : Value), xs[i]? = some x → vs[i]? = some v → VR w S ρ x v

def noRho : Rho := fun _ => none

/-- What a call leaves that reads its arguments and hands back something of its own. -/
structure Kept (w w' : World) : Prop where
  os : w'.os = w.os
  tape : w'.tape = w.tape
  output : w'.output = w.output
  size : w.heap.size ≤ w'.heap.size
  frame : ∀ b, b < w.heap.size → w'.heap[b]? = w.heap[b]?

/-- A function that can be entered. -/
def Enters (P : Program) (f : FuncId) : Prop := ∃ fn, P.funcs[f]? = some fn ∧ fn.name ≠ "runtime.NumGoroutine" ∧ fn.body ≠ none

/-- It reads data and hands back data; with 'own', all of it of its own. -/
def PureF (P : Program) (own : Bool) (f : FuncId) (args : List AV) (r : AV) : Prop :=
  Enters P f ∧ ∀ (w : World) (S : Nat → Prop) (vs : Array Value), (∀ b, S b → b < w.heap.size) → VRs w S noRho args vs →
    Calls P f vs w fun e w' => ∃ v S', e = .returned v ∧ VR w' S' noRho r v ∧ (∀ b, S' b → (own = false ∧ S b) ∨ (w.heap.size ≤ b ∧ b < w'.heap.size)) ∧ Kept w w'

/-- It reads data and hands back something that comes with objects of its own. -/
def NewF (P : Program) (f : FuncId) (args : List AV) (K : AV → List AObj → Prop) : Prop :=
  Enters P f ∧ ∀ (w : World) (S : Nat → Prop) (vs : Array Value), (∀ b, S b → b < w.heap.size) → VRs w S noRho args vs →
    Calls P f vs w fun e w' => ∃ v x os S' ρ', e = .returned v ∧ K x os ∧ VR w' S' ρ' x v ∧ Sim w' S' ρ' os ∧ (∀ b, S b → S' b) ∧ (∀ b, S' b → S b ∨ w.heap.size ≤ b) ∧
      (∀ l b C, ρ' l = some (some b, C) → w.heap.size ≤ b) ∧ Kept w w'

def ACall (P : Program) (f : FuncId) (args : List AV) (h : List AObj) (K : List Nat → AV → List AObj → Prop) : Prop :=
  Enters P f ∧ ∀ (w : World) (S : Nat → Prop) (ρ : Rho) (vs : Array Value), Sim w S ρ h → VRs w S ρ args vs →
    Calls P f vs w fun e w' => ∃ v x pg h' S' ρ', e = .returned v ∧ K pg x h' ∧ VR w' S' ρ' x v ∧ Sim w' S' ρ' h' ∧ Ext w S ρ w' S' ρ' ∧
      h.length ≤ h'.length ∧ ∀ l, l < h.length → l ∉ pg → ρ' l = ρ l

/-- A round of loop l. -/
def YCall (P : Program) (l : Nat) (args : List AV) (h : List AObj) (K : List Nat → AV → List AObj → Prop) : Prop :=
  ∀ (w : World) (S : Nat → Prop) (ρ : Rho) (vs : Array Value) (b C : Nat), Sim w S ρ h → VRs w S ρ args vs → ρ l = some (some b, C) →
    YieldAt Fence.wide 0 P b vs w fun e w' => ∃ v x pg h' S' ρ', e = .returned v ∧ K pg x h' ∧ VR w' S' ρ' x v ∧ Sim w' S' ρ' h' ∧ Ext w S ρ w' S' ρ' ∧
      h.length ≤ h'.length ∧ ∀ l, l < h.length → l ∉ pg → ρ' l = ρ l

/-- Where an activation began. -/
structure Ent where
  w : World
  S : Nat → Prop
  ρ : Rho
  base : Nat
  ds : List Deferred

/-- A block for the calls that the rounds of a loop defer: none. -/
structure Mark (w : World) (S : Nat → Prop) (ρ : Rho) (n D : Nat) : Prop where
  obj : w.heap[D]? = some (.deferred (some []))
  new : n ≤ D
  out : ∀ l C, ρ l ≠ some (some D, C)
  imm : ¬ S D

theorem Mark.ext {w w' : World} {S S' : Nat → Prop} {ρ ρ' : Rho} {n D : Nat} (m : Mark w S ρ n D) (e : Ext w S ρ w' S' ρ') : Mark w' S' ρ' n D := by
  have hlt : D < w.heap.size := (Array.getElem?_eq_some_iff.1 m.obj).1
  refine ⟨(e.frame D hlt m.out).trans m.obj, m.new, fun l C hl => ?_, fun hs => ?_⟩
  · rcases e.owned l D C hl with h | ⟨l', C', h⟩
    · omega
    · exact m.out _ _ h
  · rcases e.news D hs with h | h | ⟨l', C', h⟩
    · exact m.imm h
    · omega
    · exact m.out _ _ h

def Marks (w : World) (S : Nat → Prop) (ρ : Rho) (n : Nat) (base ds : List Deferred) : Prop :=
  ∃ Ds : List Nat, ds = Ds.map (fun D => { target := .collected D, args := #[] }) ++ base ∧ (∀ D, D ∈ Ds → Mark w S ρ n D) ∧ Ds.Pairwise (· ≠ ·)

theorem Marks.nil (w : World) (S : Nat → Prop) (ρ : Rho) (n : Nat) (base : List Deferred) : Marks w S ρ n base base := ⟨[], rfl, by simp, .nil⟩

theorem Marks.ext {w w' : World} {S S' : Nat → Prop} {ρ ρ' : Rho} {n : Nat} {base ds : List Deferred} (m : Marks w S ρ n base ds) (e : Ext w S ρ w' S' ρ') : Marks w' S' ρ' n base ds := by
  obtain ⟨Ds, h1, h2, h3⟩ := m
  exact ⟨Ds, h1, fun D hD => (h2 D hD).ext e, h3⟩

structure Rel (E : Ent) (st : St) (a : Act) (w : World) (S : Nat → Prop) (ρ : Rho) : Prop where
  ts : VRs w S ρ st.ts a.tmps
  ds : Marks w S ρ E.w.heap.size E.ds a.defers
  sim : Sim w S ρ st.h
  ext : Ext E.w E.S E.ρ w S ρ
  keep : ∀ l, l < E.base → l ∉ st.mv → ρ l = E.ρ l
  len : E.base ≤ st.h.length

def fence : Option Nat → Fence
  | none => Fence.wide
  | some l => Fence.wide.inRound l

def lvOf : Exit → Option Lv
  | .normal => some .normal
  | .exit id => some (.exit id)
  | .ret => some .ret
  | _ => none

def postOf (E : Ent) (Q : Lv → St → Prop) : Exit → Act → World → Prop :=
  fun e a w => ∃ lv st S ρ, lvOf e = some lv ∧ Q lv st ∧ Rel E st a w S ρ

def AWP (P : Program) (ro : Option Nat) (E : Ent) (c : Code) (Q : Lv → St → Prop) (st : St) : Prop :=
  ∀ a w S ρ, Rel E st a w S ρ → c.wpIn (fence ro) 0 P (postOf E Q) a w

/-- What the closed words mean. -/
def std (P : Program) (A : Ann) (ro : Option Nat) (E : Ent) : Sig where
  iadd x y := x + y
  isub x y := x - y
  imul x y := x * y
  iquo x y := x.tdiv y
  irem x y := x.tmod y
  iwrap k x := k.wrap x
  ilt x y := decide (x < y)
  ile x y := decide (x ≤ y)
  ieq x y := x == y
  isel c x y := if c then x else y
  bnot b := !b
  band a b := a && b
  beq a b := a == b
  bsel c a b := if c then a else b
  ofNat n := (n : Int)
  toNat n := n.toNat
  nadd a b := a + b
  nsub a b := a - b
  nmul a b := a * b
  nlt a b := decide (a < b)
  inr k x := k.wrap x = x
  inb i n := 0 ≤ i ∧ i < n
  pnlt a b := a < b
  pnle a b := a ≤ b
  pile a b := a ≤ b
  nz x := x ≠ 0
  req p q := p ∧ q
  alln p := ∀ n, p n
  top := ro = none
  upd e i row := fun j => if j = i then row else e j
  app n e e2 := fun j => if j < n then e j else e2 (j - n)
  shift e s := fun j => e (s + j)
  rowsOk sz n e := ∀ i, i < n → (e i).length = sz
  put at' m e e2 := fun j => if at' ≤ j ∧ j < at' + m then e2 (j - at') else e j
  rep n zs := fun i => if i < n then zs else []
  nmin m n := min m n
  sidx l i := ((l.getD i.toNat 0).toNat : Int)
  ibits := bitsZ
  ishift := shiftZ
  mget f k := (f k).getD 0
  mhas f k := (f k).isSome
  mset f k v := fun k' => if k' = k then some v else f k'
  mcnt f k n := if (f k).isSome then n else n + 1
  same x y := x = y
  callb own f args K := ∃ r, PureF P own f args r ∧ K r
  calln f args K := NewF P f args K
  call f args h K := ACall P f args h K
  yld l args h K := YCall P l args h K
  loop ic Q st := ∀ c, comp P A c = some ic → AWP P ro E (.loop c) Q st
  range f ps a b Q st := ∀ f' ps' a' b', opdOf f' = some f → ps'.toList = ps → comp P A a' = some a → comp P A b' = some b → AWP P ro E (.rangeFunc f' ps' a' b') Q st

def forgetsH : List Nat → List AObj → List AObj
  | [], h => h
  | l :: pg, h => forgetsH pg (forgetH l false h)

def forgetsV : List Nat → AV → AV
  | [], x => x
  | l :: pg, x => forgetsV pg (x.forget l false)

/-- From (w, S, ρ, h) to (w', S', ρ', h'): the objects in 'pg' have moved. -/
structure Chg (w : World) (S : Nat → Prop) (ρ : Rho) (h : List AObj) (w' : World) (S' : Nat → Prop) (ρ' : Rho) (h' : List AObj) (pg : List Nat) : Prop where
  sim : Sim w' S' ρ' h'
  len : h.length ≤ h'.length
  ext : Ext w S ρ w' S' ρ'
  keep : ∀ m p, m ∉ pg → ρ m = some p → ρ' m = some p
  low : ∀ m, m < h.length → m ∉ pg → ρ' m = ρ m

theorem Chg.hw {w : World} {S : Nat → Prop} {ρ : Rho} {h : List AObj} {w' : World} {S' : Nat → Prop} {ρ' : Rho} {h' : List AObj} {pg : List Nat}
    (c : Chg w S ρ h w' S' ρ' h' pg) : ∀ b, S b → w'.heap[b]? = w.heap[b]? := c.ext.cell

theorem Chg.refl {w : World} {S : Nat → Prop} {ρ : Rho} {h : List AObj} (s : Sim w S ρ h) : Chg w S ρ h w S ρ h [] :=
  ⟨s, Nat.le_refl _, .refl w S ρ, fun _ _ _ h => h, fun _ _ _ => rfl⟩

/-- A new block. -/
theorem Chg.new {w : World} {S : Nat → Prop} {ρ : Rho} {h : List AObj} (s : Sim w S ρ h) (hl : ρ h.length = none) (o : Obj) (ao : AObj) (C : Nat)
    (ho : ∀ w' : World, w'.heap = w.heap.push o → HoldsB w' S ρ w.heap.size C ao) :
    Chg w S ρ h { w with heap := w.heap.push o } S (fun m => if m = h.length then some (some w.heap.size, C) else ρ m) (h ++ [ao]) [] := by
  have hold : ∀ b, b < w.heap.size → (w.heap.push o)[b]? = w.heap[b]? := fun b hb => by rw [Array.getElem?_push, if_neg (by omega)]
  have hρ : ∀ m p, ρ m = some p → (if m = h.length then some (some w.heap.size, C) else ρ m) = some p := by
    intro m p hm
    rw [if_neg (fun e => by subst e; simp [hl] at hm)]; exact hm
  have hblk : ∀ m b C', ρ m = some (some b, C') → b < w.heap.size := by
    intro m b C' hm
    obtain ⟨o', _, h2⟩ := s.obj m (some b) C' hm
    have : ∃ x, w.heap[b]? = some x := by
      cases o' with
      | var cs => obtain ⟨vs, ty, h3, _⟩ := h2; exact ⟨_, h3⟩
      | arr sz n e => obtain ⟨vs, ty, h3, _⟩ := h2; exact ⟨_, h3⟩
      | frz sz n e => obtain ⟨_, vs, ty, fr, h3, _⟩ := h2; exact ⟨_, h3⟩
      | map wide ks n f => obtain ⟨es, clock, h3, _⟩ := h2; exact ⟨_, h3⟩
      | mapv wide ks keys vals => obtain ⟨es, clock, h3, _⟩ := h2; exact ⟨_, h3⟩
      | loop s ts ps code => obtain ⟨r, h3, _⟩ := h2; exact ⟨_, h3⟩
      | gone => exact ⟨_, Array.getElem?_eq_getElem (s.sblk b h2)⟩
    obtain ⟨x, hx⟩ := this
    exact (Array.getElem?_eq_some_iff.1 hx).1
  refine ⟨⟨fun b hb => ?_, fun m ob C' hm => ?_, fun m m' b C1 C2 h1 h2 => ?_, fun m b C' ao' hm hao hf => ?_⟩, by simp, ⟨rfl, rfl, rfl, by simp, fun _ h => h, fun b hb => hold b (s.sblk b hb), fun _ h => .inl h, fun b hb _ => hold b hb, fun m b C' hm => ?_⟩, fun m p _ hm => hρ m p hm, fun m hm _ => if_neg (by omega)⟩
  · have := s.sblk b hb; simp; omega
  · show ∃ o, (h ++ [ao])[m]? = some o ∧ _
    by_cases e : m = h.length
    · rw [if_pos e] at hm
      cases hm
      refine ⟨ao, by simp [e], ?_⟩
      show HoldsB _ _ _ _ _ _
      refine (ho { w with heap := w.heap.push o } rfl).mono (fun _ h => h) (fun _ _ => rfl) hρ rfl
    · rw [if_neg e] at hm
      obtain ⟨o', h1, h2⟩ := s.obj m ob C' hm
      refine ⟨o', by rw [List.getElem?_append_left (List.getElem?_eq_some_iff.1 h1).1]; exact h1, ?_⟩
      cases ob with
      | none => exact h2
      | some b => exact HoldsB.mono (fun _ h => h) (fun b hb => hold b (s.sblk b hb)) hρ (hold b (hblk m b C' hm)) h2
  · by_cases e1 : m = h.length <;> by_cases e2 : m' = h.length
    · rw [e1, e2]
    · rw [if_pos e1] at h1; rw [if_neg e2] at h2; cases h1; have := hblk _ _ _ h2; omega
    · rw [if_neg e1] at h1; rw [if_pos e2] at h2; cases h2; have := hblk _ _ _ h1; omega
    · rw [if_neg e1] at h1; rw [if_neg e2] at h2; exact s.inj m m' b C1 C2 h1 h2
  · by_cases e : m = h.length
    · rw [if_pos e] at hm; cases hm
      intro hs; have := s.sblk _ hs; omega
    · rw [if_neg e] at hm
      obtain ⟨o', h1, _⟩ := s.obj m _ C' hm
      have hao : (h ++ [ao])[m]? = some ao' := hao
      rw [List.getElem?_append_left (List.getElem?_eq_some_iff.1 h1).1] at hao
      exact s.own m b C' ao' hm hao hf
  · by_cases e : m = h.length
    · rw [if_pos e] at hm; cases hm; exact .inl (Nat.le_refl _)
    · rw [if_neg e] at hm; exact .inr ⟨m, C', hm⟩

theorem Sim.blk {w : World} {S : Nat → Prop} {ρ : Rho} {h : List AObj} (s : Sim w S ρ h) {m b C : Nat} (hm : ρ m = some (some b, C)) : b < w.heap.size := by
  obtain ⟨o', _, h2⟩ := s.obj m (some b) C hm
  have : ∃ x, w.heap[b]? = some x := by
    cases o' with
    | var cs => obtain ⟨vs, ty, h3, _⟩ := h2; exact ⟨_, h3⟩
    | arr sz n e => obtain ⟨vs, ty, h3, _⟩ := h2; exact ⟨_, h3⟩
    | frz sz n e => obtain ⟨_, vs, ty, fr, h3, _⟩ := h2; exact ⟨_, h3⟩
    | map wide ks n f => obtain ⟨es, clock, h3, _⟩ := h2; exact ⟨_, h3⟩
    | mapv wide ks keys vals => obtain ⟨es, clock, h3, _⟩ := h2; exact ⟨_, h3⟩
    | loop s ts ps code => obtain ⟨r, h3, _⟩ := h2; exact ⟨_, h3⟩
    | gone => exact ⟨_, Array.getElem?_eq_getElem (s.sblk b h2)⟩
  obtain ⟨x, hx⟩ := this
  exact (Array.getElem?_eq_some_iff.1 hx).1

/-- An object's block is written. -/
theorem Chg.set {w : World} {S : Nat → Prop} {ρ : Rho} {h : List AObj} (s : Sim w S ρ h) {l b C : Nat} {o o' : AObj} (hρl : ρ l = some (some b, C)) (hl : h[l]? = some o)
    (hf : o.frozen = false) {w' : World} (hos : w'.os = w.os) (htp : w'.tape = w.tape) (hout : w'.output = w.output) (hsz : w'.heap.size = w.heap.size)
    (hw : ∀ k, k ≠ b → w'.heap[k]? = w.heap[k]?) (ho : HoldsB w' S ρ b C o') :
    Chg w S ρ h w' S ρ (h.set l o') [] := by
  have hnS : ¬ S b := s.own l b C o hρl hl hf
  have hS : ∀ k, S k → w'.heap[k]? = w.heap[k]? := fun k hk => hw k (fun e => hnS (e ▸ hk))
  have hlt := (List.getElem?_eq_some_iff.1 hl).1
  refine ⟨⟨fun k hk => by rw [hsz]; exact s.sblk k hk, fun m ob C' hm => ?_, s.inj, fun m k C' ao hm hao hfz => ?_⟩, by simp,
    ⟨hos, htp, hout, by rw [hsz]; exact Nat.le_refl _, fun _ h => h, hS, fun _ h => .inl h, fun k _ hn => hw k (fun e => hn l C (e ▸ hρl)), fun m k C' hm => .inr ⟨m, C', hm⟩⟩,
    fun _ _ _ hm => hm, fun _ _ _ => rfl⟩
  · show ∃ o, (h.set l o')[m]? = some o ∧ _
    by_cases e : m = l
    · subst e
      rw [hρl] at hm; cases hm
      exact ⟨o', by simp [hlt], ho⟩
    · obtain ⟨o1, h1, h2⟩ := s.obj m ob C' hm
      refine ⟨o1, by rw [List.getElem?_set_ne (Ne.symm e)]; exact h1, ?_⟩
      cases ob with
      | none => exact h2
      | some k =>
        refine HoldsB.mono (fun _ h => h) hS (fun _ _ h => h) (hw k fun ek => ?_) h2
        subst ek
        exact e (s.inj m l k C' C hm hρl)
  · by_cases e : m = l
    · subst e
      rw [hρl] at hm; cases hm; exact hnS
    · exact s.own m k C' ao hm (by rw [← hao]; show _ = (h.set l o')[m]?; rw [List.getElem?_set_ne (Ne.symm e)]) hfz

/-- An array becomes immutable. -/
theorem Chg.frz {w : World} {S : Nat → Prop} {ρ : Rho} {h : List AObj} (s : Sim w S ρ h) {l : Nat} {ob : Option Nat} {C sz n : Nat} {e : Nat → List DV} (hρl : ρ l = some (ob, C))
    (hl : h[l]? = some (.arr sz n e)) : Chg w S ρ h w (fun b => S b ∨ ob = some b) ρ (h.set l (.frz sz n e)) [] := by
  have hlt := (List.getElem?_eq_some_iff.1 hl).1
  have hS : ∀ b, S b → S b ∨ ob = some b := fun _ h => .inl h
  refine ⟨⟨fun k hk => ?_, fun m ob' C' hm => ?_, s.inj, fun m k C' ao hm hao hfz => ?_⟩, by simp,
    ⟨rfl, rfl, rfl, Nat.le_refl _, hS, fun _ _ => rfl, fun k hk => ?_, fun _ _ _ => rfl, fun m k C' hm => .inr ⟨m, C', hm⟩⟩,
    fun _ _ _ hm => hm, fun _ _ _ => rfl⟩
  · rcases hk with hk | hk
    · exact s.sblk k hk
    · subst hk; exact s.blk hρl
  · show ∃ o, (h.set l (.frz sz n e))[m]? = some o ∧ _
    by_cases em : m = l
    · subst em
      rw [hρl] at hm; cases hm
      refine ⟨.frz sz n e, by simp [hlt], ?_⟩
      obtain ⟨o1, h1, h2⟩ := s.obj m ob C hρl
      rw [hl] at h1; cases h1
      cases ob with
      | none =>
        obtain ⟨hC, sz', e', h3 | h3⟩ := h2 <;> cases h3
        exact ⟨hC, sz, e, .inr rfl⟩
      | some b =>
        obtain ⟨vs, ty, h3, h4, h5, h6⟩ := h2
        exact ⟨.inr rfl, vs, ty, _, h3, h4, h5, fun i hi => ⟨(h6 i hi).1, fun j x v hx hv => ((h6 i hi).2 j x v hx hv).mono hS fun _ _ => rfl⟩⟩
    · obtain ⟨o1, h1, h2⟩ := s.obj m ob' C' hm
      refine ⟨o1, by rw [List.getElem?_set_ne (Ne.symm em)]; exact h1, ?_⟩
      cases ob' with
      | none => exact h2
      | some k => exact HoldsB.mono hS (fun _ _ => rfl) (fun _ _ h => h) rfl h2
  · by_cases em : m = l
    · subst em
      have : (h.set m (.frz sz n e))[m]? = some ao := hao
      simp [hlt] at this
      subst this
      cases hfz
    · have hao' : h[m]? = some ao := by rw [← hao]; show _ = (h.set l (.frz sz n e))[m]?; rw [List.getElem?_set_ne (Ne.symm em)]
      intro hk
      rcases hk with hk | hk
      · exact s.own m k C' ao hm hao' hfz hk
      · subst hk
        exact em (s.inj m l k C' C hm hρl)
  · rcases hk with hk | hk
    · exact .inl hk
    · subst hk; exact .inr (.inr ⟨l, C, hρl⟩)

theorem forgetH_get (l : Nat) (all : Bool) (h : List AObj) (m : Nat) : (forgetH l all h)[m]? = (h[m]?).map (AObj.forget l all) := by
  rw [forgetH_eq, List.getElem?_map]

theorem AObj.forget_frozen (l : Nat) (all : Bool) (o : AObj) : (o.forget l all).frozen = o.frozen := by cases o <;> rfl

theorem HoldsB.forget {w w' : World} {S S' : Nat → Prop} {ρ ρ' : Rho} (hS : ∀ b, S b → S' b) (hw : ∀ b, S b → w'.heap[b]? = w.heap[b]?) (l : Nat) (all : Bool)
    (hρ : ∀ m p, gone l all m = false → ρ m = some p → ρ' m = some p) {b C : Nat} (hb : w'.heap[b]? = w.heap[b]?) {o : AObj} (h : HoldsB w S ρ b C o) :
    HoldsB w' S' ρ' b C (o.forget l all) := by
  cases o with
  | var cs =>
    obtain ⟨vs, ty, h1, h2, h3⟩ := h
    refine ⟨vs, ty, hb ▸ h1, by simpa [AV.forgetL_eq] using h2, fun i x v hx hv => ?_⟩
    rw [AV.forgetL_eq, List.getElem?_map] at hx
    cases hc : cs[i]? with
    | none => simp [hc] at hx
    | some y => simp [hc] at hx; subst hx; exact (h3 i y v hc hv).forget hS hw l all hρ
  | arr sz n e =>
    obtain ⟨vs, ty, h1, h2, h3, h4⟩ := h
    exact ⟨vs, ty, hb ▸ h1, h2, h3, fun i hi => ⟨(h4 i hi).1, fun j x v hx hv => ((h4 i hi).2 j x v hx hv).mono hS hw⟩⟩
  | frz sz n e =>
    obtain ⟨h0, vs, ty, fr, h1, h2, h3, h4⟩ := h
    exact ⟨hS b h0, vs, ty, fr, hb ▸ h1, h2, h3, fun i hi => ⟨(h4 i hi).1, fun j x v hx hv => ((h4 i hi).2 j x v hx hv).mono hS hw⟩⟩
  | map wide ks n f =>
    obtain ⟨es, clock, h1, h2⟩ := h
    exact ⟨es, clock, hb ▸ h1, h2⟩
  | mapv wide ks keys vals =>
    obtain ⟨es, clock, h1, h2, h3, h4⟩ := h
    refine ⟨es, clock, hb ▸ h1, h2, by simpa [AV.forgetL_eq] using h3, fun i x v hx hv => ?_⟩
    rw [AV.forgetL_eq, List.getElem?_map] at hx
    cases hc : vals[i]? with
    | none => simp [hc] at hx
    | some y => simp [hc] at hx; subst hx; exact (h4 i y v hc hv).forget hS hw l all hρ
  | loop s ts ps code =>
    obtain ⟨r, h1, h2, h3, h4, h5, h6, h7⟩ := h
    refine ⟨r, hb ▸ h1, h2, h3, h4, h5, by simpa [AV.forgetL_eq] using h6, fun i x v hx hv => ?_⟩
    rw [AV.forgetL_eq, List.getElem?_map] at hx
    cases hc : ts[i]? with
    | none => simp [hc] at hx
    | some y => simp [hc] at hx; subst hx; exact (h7 i y v hc hv).forget hS hw l all hρ
  | gone => exact hS b h

/-- An array gets a new block. -/
theorem Chg.move {w : World} {S : Nat → Prop} {ρ : Rho} {h : List AObj} (s : Sim w S ρ h) {l : Nat} {ob : Option Nat} {C : Nat} (hρl : ρ l = some (ob, C)) (hl : l < h.length)
    (o : Obj) (sz n : Nat) (e : Nat → List DV) (C' : Nat) (ho : ∀ w' : World, w'.heap = w.heap.push o → HoldsB w' S ρ w.heap.size C' (.arr sz n e)) :
    Chg w S ρ h { w with heap := w.heap.push o } S (fun m => if m = l then some (some w.heap.size, C') else ρ m) (forgetH l false (h.set l (.arr sz n e))) [l] := by
  have hold : ∀ b, b < w.heap.size → (w.heap.push o)[b]? = w.heap[b]? := fun b hb => by rw [Array.getElem?_push, if_neg (by omega)]
  have hρ : ∀ m p, gone l false m = false → ρ m = some p → (if m = l then some (some w.heap.size, C') else ρ m) = some p := by
    intro m p hg hm
    rw [if_neg (fun e => by subst e; simp [gone] at hg)]; exact hm
  have hget : ∀ m, m ≠ l → (forgetH l false (h.set l (.arr sz n e)))[m]? = (h[m]?).map (AObj.forget l false) := by
    intro m hm; rw [forgetH_get, List.getElem?_set_ne (Ne.symm hm)]
  have hgetl : (forgetH l false (h.set l (.arr sz n e)))[l]? = some (.arr sz n e) := by rw [forgetH_get]; simp [hl, AObj.forget]
  refine ⟨⟨fun b hb => ?_, fun m ob' C1 hm => ?_, fun m m' b C1 C2 h1 h2 => ?_, fun m b C1 ao' hm hao hf => ?_⟩, by rw [forgetH_eq]; simp,
    ⟨rfl, rfl, rfl, by simp, fun _ h => h, fun b hb => hold b (s.sblk b hb), fun _ h => .inl h, fun b hb _ => hold b hb, fun m b C1 hm => ?_⟩,
    fun m p hm hp => hρ m p (by show Nat.beq l m = false; cases hb : Nat.beq l m with | false => rfl | true => exact absurd (by simp [Nat.eq_of_beq_eq_true hb]) hm) hp, fun m _ hm => if_neg (by simpa using hm)⟩
  · have := s.sblk b hb; simp; omega
  · show ∃ o, (forgetH l false (h.set l (.arr sz n e)))[m]? = some o ∧ _
    by_cases em : m = l
    · subst em
      rw [if_pos rfl] at hm; cases hm
      refine ⟨_, hgetl, ?_⟩
      have h0 := ho { w with heap := w.heap.push o } rfl
      exact HoldsB.forget (o := .arr sz n e) (fun _ h => h) (fun _ _ => rfl) m false hρ rfl h0
    · rw [if_neg em] at hm
      obtain ⟨o', h1, h2⟩ := s.obj m ob' C1 hm
      refine ⟨o'.forget l false, by rw [hget m em, h1]; rfl, ?_⟩
      cases ob' with
      | none =>
        obtain ⟨hC, sz', e', h3 | h3⟩ := h2 <;> subst h3
        · exact ⟨hC, sz', e', .inl rfl⟩
        · exact ⟨hC, sz', e', .inr rfl⟩
      | some b => exact HoldsB.forget (fun _ h => h) (fun b hb => hold b (s.sblk b hb)) l false hρ (hold b (s.blk hm)) h2
  · by_cases e1 : m = l <;> by_cases e2 : m' = l
    · rw [e1, e2]
    · rw [if_pos e1] at h1; rw [if_neg e2] at h2; cases h1; have := s.blk h2; omega
    · rw [if_neg e1] at h1; rw [if_pos e2] at h2; cases h2; have := s.blk h1; omega
    · rw [if_neg e1] at h1; rw [if_neg e2] at h2; exact s.inj m m' b C1 C2 h1 h2
  · by_cases em : m = l
    · rw [if_pos em] at hm; cases hm
      intro hs; have := s.sblk _ hs; omega
    · rw [if_neg em] at hm
      have : (forgetH l false (h.set l (.arr sz n e)))[m]? = some ao' := hao
      rw [hget m em] at this
      cases hc : h[m]? with
      | none => simp [hc] at this
      | some y =>
        simp [hc] at this
        subst this
        rw [AObj.forget_frozen] at hf
        exact s.own m b C1 y hm hc hf
  · by_cases em : m = l
    · rw [if_pos em] at hm; cases hm; exact .inl (Nat.le_refl _)
    · rw [if_neg em] at hm; exact .inr ⟨m, C1, hm⟩

theorem Sim.forget {w : World} {S : Nat → Prop} {ρ : Rho} {h : List AObj} (s : Sim w S ρ h) (l : Nat) (all : Bool) : Sim w S ρ (forgetH l all h) where
  sblk := s.sblk
  obj m ob C hm := by
    obtain ⟨o, h1, h2⟩ := s.obj m ob C hm
    refine ⟨o.forget l all, by rw [forgetH_get, h1]; rfl, ?_⟩
    cases ob with
    | none =>
      obtain ⟨hC, sz', e', h3 | h3⟩ := h2 <;> subst h3
      · exact ⟨hC, sz', e', .inl rfl⟩
      · exact ⟨hC, sz', e', .inr rfl⟩
    | some b => exact HoldsB.forget (fun _ h => h) (fun _ _ => rfl) l all (fun _ _ _ h => h) rfl h2
  inj := s.inj
  own m b C o hm ho hf := by
    rw [forgetH_get] at ho
    cases hc : h[m]? with
    | none => simp [hc] at ho
    | some y => simp [hc] at ho; subst ho; rw [AObj.forget_frozen] at hf; exact s.own m b C y hm hc hf

theorem Sim.forgets {w : World} {S : Nat → Prop} {ρ : Rho} (pg : List Nat) : ∀ {h : List AObj}, Sim w S ρ h → Sim w S ρ (forgetsH pg h) := by
  induction pg with
  | nil => intro h s; exact s
  | cons l pg ih => intro h s; exact ih (s.forget l false)

theorem Chg.purged {w : World} {S : Nat → Prop} {ρ : Rho} {h : List AObj} {w' : World} {S' : Nat → Prop} {ρ' : Rho} {h' : List AObj} (c : Chg w S ρ h w' S' ρ' h' []) (pg : List Nat) :
    Chg w S ρ h w' S' ρ' h' pg :=
  ⟨c.sim, c.len, c.ext, fun m p _ hm => c.keep m p (by simp) hm, fun m hm _ => c.low m hm (by simp)⟩

theorem Chg.forgot {w : World} {S : Nat → Prop} {ρ : Rho} {h : List AObj} {w' : World} {S' : Nat → Prop} {ρ' : Rho} {h' : List AObj} {pg : List Nat} (c : Chg w S ρ h w' S' ρ' h' pg) (l : Nat) :
    Chg w S ρ h w' S' ρ' (forgetH l false h') pg :=
  ⟨c.sim.forget l false, by rw [forgetH_eq]; simpa using c.len, c.ext, c.keep, c.low⟩

theorem VR.forgets {w w' : World} {S S' : Nat → Prop} (hS : ∀ b, S b → S' b) (hw : ∀ b, S b → w'.heap[b]? = w.heap[b]?) {ρ' : Rho} (pg : List Nat) :
    ∀ {ρ : Rho}, (∀ m p, m ∉ pg → ρ m = some p → ρ' m = some p) → ∀ {x : AV} {v : Value}, VR w S ρ x v → VR w' S' ρ' (forgetsV pg x) v := by
  induction pg with
  | nil => intro ρ hρ x v h; exact h.mono hS hw (fun m p => hρ m p (by simp))
  | cons l pg ih =>
    intro ρ hρ x v h
    have h1 : VR w S (fun m => if m = l then none else ρ m) (x.forget l false) v := by
      refine VR.forget (fun _ h => h) (fun _ _ => rfl) l false (fun m p hg hm => ?_) h
      show (if m = l then none else ρ m) = some p
      rw [if_neg (fun e => by subst e; simp [gone] at hg)]; exact hm
    refine ih (ρ := fun m => if m = l then none else ρ m) (fun m p hm hp => ?_) h1
    by_cases e : m = l
    · simp [e] at hp
    · simp [e] at hp
      exact hρ m p (by simp [e, hm]) hp

theorem forgetsL_eq (pg : List Nat) : ∀ (st : St), (st.purge pg).ts = st.ts.map (forgetsV pg) ∧ (st.purge pg).h = st.h := by
  induction pg with
  | nil => intro st; simp [St.purge, forgetsV]
  | cons l pg ih =>
    intro st
    obtain ⟨h1, h2⟩ := ih ⟨AV.forgetL l false st.ts, st.h, l :: st.mv⟩
    refine ⟨?_, h2⟩
    show (St.purge _ pg).ts = _
    rw [h1]
    simp only [AV.forgetL_eq, List.map_map]
    rfl

theorem purge_mv (pg : List Nat) : ∀ (st : St) (m : Nat), m ∉ (st.purge pg).mv → m ∉ pg ∧ m ∉ st.mv := by
  induction pg with
  | nil => intro st m h; exact ⟨by simp, h⟩
  | cons l pg ih =>
    intro st m h
    have := ih ⟨AV.forgetL l false st.ts, st.h, l :: st.mv⟩ m h
    simp at this ⊢
    exact ⟨⟨this.2.1, this.1⟩, this.2.2⟩

theorem forgetsH_length (pg : List Nat) : ∀ (h : List AObj), (forgetsH pg h).length = h.length := by
  induction pg with
  | nil => intro h; rfl
  | cons l pg ih => intro h; simp [forgetsH, ih, forgetH_eq]

/-- What one operation has done to the state of an activation. -/
theorem Rel.step {E : Ent} {st : St} {a : Act} {w : World} {S : Nat → Prop} {ρ : Rho} (r : Rel E st a w S ρ) {w' : World} {S' : Nat → Prop} {ρ' : Rho} {h' : List AObj} {pg : List Nat}
    (c : Chg w S ρ st.h w' S' ρ' h' pg) (dst : Option Nat) {x : AV} {v : Value} (hv : VR w' S' ρ' x v) :
    Rel E (((st.setH h').purge pg).put dst x) (a.put dst v) w' S' ρ' := by
  have hp := forgetsL_eq pg (st.setH h')
  have hts : VRs w' S' ρ' ((st.setH h').purge pg).ts a.tmps := by
    refine ⟨by rw [hp.1]; simpa [St.setH] using r.ts.1, fun i y u hy hu => ?_⟩
    rw [hp.1, List.getElem?_map] at hy
    cases hc : st.ts[i]? with
    | none => simp [St.setH, hc] at hy
    | some z =>
      simp [St.setH, hc] at hy
      subst hy
      exact VR.forgets c.ext.mono c.ext.cell pg c.keep (r.ts.2 i z u hc hu)
  have h1 : Sim w' S' ρ' ((st.setH h').purge pg).h := by rw [hp.2]; exact c.sim
  have h2 : ∀ l, l < E.base → l ∉ ((st.setH h').purge pg).mv → ρ' l = E.ρ l := by
    intro l hl hm
    obtain ⟨h3, h4⟩ := purge_mv pg _ l hm
    rw [c.low l (Nat.lt_of_lt_of_le hl r.len) h3]
    exact r.keep l hl h4
  have h3 : E.base ≤ ((st.setH h').purge pg).h.length := by
    rw [hp.2]; exact Nat.le_trans r.len c.len
  cases dst with
  | none => exact ⟨hts, r.ds.ext c.ext, h1, r.ext.trans c.ext, h2, h3⟩
  | some d =>
    refine ⟨⟨by simpa [St.put, Act.put, lset_eq] using hts.1, fun i y u hy hu => ?_⟩, r.ds.ext c.ext, h1, r.ext.trans c.ext, h2, h3⟩
    simp only [St.put, lset_eq] at hy
    simp only [Act.put] at hu
    by_cases e : i = d
    · subst e
      rw [List.getElem?_set] at hy
      rw [Array.getElem?_setIfInBounds] at hu
      simp at hy hu
      obtain ⟨_, rfl⟩ := hy
      obtain ⟨_, rfl⟩ := hu
      exact hv
    · rw [List.getElem?_set_ne (Ne.symm e)] at hy
      rw [Array.getElem?_setIfInBounds_ne (Ne.symm e)] at hu
      exact hts.2 i y u hy hu

end Go.Vf
