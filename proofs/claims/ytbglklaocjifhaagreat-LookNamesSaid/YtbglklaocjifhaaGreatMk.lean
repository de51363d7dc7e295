/- The runner's first text, in the form that the kernel evaluates: concrete values (arrays as lists, temporaries and objects in trees), and how they are computed with. The runner's second text, in the form that the kernel evaluates: code, calls, loops. Conditions: none. -/
import Derived.Test.YtbglklaocjifhaaGreatMa
set_option linter.unusedSimpArgs false
set_option linter.unusedVariables false

namespace Go.Vf
open Go
noncomputable section

inductive CD where
  | int (k : IntKind) (n : IX)
  | bool (b : Bool)
  | str (l : List UInt8)
  | nil
  | sl (sz n : Nat) (rows : List (List CD))
  | raw (v : Value)

inductive CA where
  | d (x : CD)
  | any
  | und
  | agg (cs : List CA)
  | tuple (vs : List CA)
  | ptr (l off : Nat)
  | aptr (l sz i off : Nat)
  | dptr (row : List CD) (off : Nat)
  | dfs (sz n : Nat) (rows : List (List CD))
  | msl (l sz : Nat) (start : Option Nat) (len : Nat) (full : Bool)
  | vsl (l off n : Nat)
  | map (l : Nat)
  | fn (f : FuncId) (first cap : List CA)
  | ge (m : Nat)
  | yl (l : Nat)

/-- A tree of values by number: 0 is at the root, the odd ones are left of it. -/
inductive BT (α : Type) where
  | leaf
  | node (v : α) (l r : BT α)

inductive CObj where
  | var (cs : List CA)
  | arr (sz n : Nat) (rows : List (List CD))
  | frz (sz n : Nat) (rows : List (List CD))
  | map (wide : Bool) (ks : List IntKind) (n : Nat) (es : List (List KC × Int))
  | mapv (wide : Bool) (ks : List IntKind) (keys : List (List KC)) (vals : List CA)
  | loop (s : LSt) (ts : BT CA) (ps : List Nat) (A : Ann) (a b : ICode)
  | gone

abbrev TS := BT CA

/-- The objects, and how many. -/
structure CH where
  n : Nat
  t : BT CObj

def xf (_ : Nat) : Bool := false

def fN (n : Nat) (k : Nat → Bool) : Bool :=
  @Nat.rec (fun _ => (Nat → Bool) → Bool) (fun k => k .zero) (fun m _ k => k (.succ m)) n k

def fI (n : Int) (k : Int → Bool) : Bool :=
  match n with
  | .ofNat m => fN m fun m => k (.ofNat m)
  | .negSucc m => fN m fun m => k (.negSucc m)

def fB (b : Bool) (k : Bool → Bool) : Bool :=
  match b with
  | true => k true
  | false => k false

def xlt : Int → Int → Bool
  | .ofNat a, .ofNat b => Nat.blt a b
  | .ofNat _, .negSucc _ => false
  | .negSucc _, .ofNat _ => true
  | .negSucc a, .negSucc b => Nat.blt b a

def xle (a b : Int) : Bool := Bool.not (xlt b a)

def xeq : Int → Int → Bool
  | .ofNat a, .ofNat b => Nat.beq a b
  | .negSucc a, .negSucc b => Nat.beq a b
  | _, _ => false

def kEq (a b : IntKind) : Bool := Nat.beq a.ctorIdx b.ctorIdx

def inrB (k : IntKind) (x : Int) : Bool :=
  match k with
  | .i64 => match x with
    | .ofNat n => Nat.blt n 9223372036854775808
    | .negSucc n => Nat.blt n 9223372036854775808
  | k => xeq (k.wrap x) x

section
variable {α : Type}

def getK (k : α → Bool) (l : List α) (i : Nat) : Bool :=
  @List.rec α (fun _ => (α → Bool) → Nat → Bool) (fun _ _ => xf 1) (fun x _ ih k i => @Nat.rec (fun _ => Bool) (k x) (fun i _ => ih k i) i) l k i

def getT (t : BT α) (i : Nat) (k : α → Bool) : Bool :=
  @BT.rec α (fun _ => Nat → (α → Bool) → Bool) (fun _ _ => xf 1)
    (fun v _ _ il ir i k => @Nat.rec (fun _ => Bool) (k v) (fun j _ => @Nat.rec (fun _ => Bool) (il (Nat.div j 2) k) (fun _ _ => ir (Nat.div j 2) k) (Nat.mod j 2)) i) t i k

def setT (t : BT α) (i : Nat) (y : α) (k : BT α → Bool) : Bool :=
  @BT.rec α (fun _ => Nat → α → (BT α → Bool) → Bool) (fun _ _ _ => xf 2)
    (fun v l r il ir i y k => @Nat.rec (fun _ => Bool) (k (.node y l r)) (fun j _ => @Nat.rec (fun _ => Bool) (il (Nat.div j 2) y fun l' => k (.node v l' r)) (fun _ _ => ir (Nat.div j 2) y fun r' => k (.node v l r')) (Nat.mod j 2)) i) t i y k

def pushT (t : BT α) (i : Nat) (y : α) (k : BT α → Bool) : Bool :=
  @BT.rec α (fun _ => Nat → α → (BT α → Bool) → Bool) (fun i y k => @Nat.rec (fun _ => Bool) (k (.node y .leaf .leaf)) (fun _ _ => xf 2) i)
    (fun v l r il ir i y k => @Nat.rec (fun _ => Bool) (xf 2) (fun j _ => @Nat.rec (fun _ => Bool) (il (Nat.div j 2) y fun l' => k (.node v l' r)) (fun _ _ => ir (Nat.div j 2) y fun r' => k (.node v l r')) (Nat.mod j 2)) i) t i y k

def mkT (x : α) (d n : Nat) : BT α :=
  @Nat.rec (fun _ => α → Nat → BT α) (fun _ _ => .leaf) (fun _ ih x n => @Nat.rec (fun _ => BT α) .leaf (fun j _ => .node x (ih x (Nat.div (Nat.succ j) 2)) (ih x (Nat.div j 2))) n) d x n

def setK (l : List α) (i : Nat) (y : α) (k : List α → Bool) : Bool :=
  @List.rec α (fun _ => Nat → α → (List α → Bool) → Bool) (fun _ _ _ => xf 2) (fun x l ih i y k => @Nat.rec (fun _ => Bool) (k (y :: l)) (fun i _ => ih i y fun l => k (x :: l)) i) l i y k

def cutK (l : List α) (i n : Nat) (k : List α → Bool) : Bool :=
  @List.rec α (fun _ => Nat → Nat → (List α → Bool) → Bool)
    (fun i n k => @Nat.rec (fun _ => Bool) (@Nat.rec (fun _ => Bool) (k []) (fun _ _ => xf 3) n) (fun _ _ => xf 3) i)
    (fun x _ ih i n k => @Nat.rec (fun _ => Bool) (@Nat.rec (fun _ => Bool) (k []) (fun n _ => ih .zero n fun r => k (x :: r)) n) (fun i _ => ih i n k) i) l i n k

def putK (l : List α) (i : Nat) (new : List α) (k : List α → Bool) : Bool :=
  @List.rec α (fun _ => Nat → List α → (List α → Bool) → Bool)
    (fun i new k => @Nat.rec (fun _ => Bool) (@List.rec α (fun _ => Bool) (k []) (fun _ _ _ => xf 4) new) (fun _ _ => xf 4) i)
    (fun x l ih i new k => @Nat.rec (fun _ => Bool) (@List.rec α (fun _ => Bool) (k (x :: l)) (fun y new _ => ih .zero new fun r => k (y :: r)) new) (fun i _ => ih i new fun r => k (x :: r)) i) l i new k

def appK (l m : List α) (k : List α → Bool) : Bool :=
  @List.rec α (fun _ => List α → (List α → Bool) → Bool) (fun m k => k m) (fun x _ ih m k => ih m fun r => k (x :: r)) l m k

/-- The first n, and then others. -/
def takeAppK (l : List α) (n : Nat) (m : List α) (k : List α → Bool) : Bool :=
  @List.rec α (fun _ => Nat → List α → (List α → Bool) → Bool) (fun n m k => @Nat.rec (fun _ => Bool) (k m) (fun _ _ => xf 5) n)
    (fun x _ ih n m k => @Nat.rec (fun _ => Bool) (k m) (fun n _ => ih n m fun r => k (x :: r)) n) l n m k

def dropK (l : List α) (n : Nat) (k : List α → Bool) : Bool :=
  match n with
  | .zero => k l
  | .succ n => match l with
    | [] => k []
    | _ :: l => dropK l n k

/-- m elements from i on are those of 'new'. -/
def segK (l : List α) (i m : Nat) (new : List α) (k : List α → Bool) : Bool :=
  match l with
  | [] => match i with
    | .zero => match m with
      | .zero => k []
      | .succ _ => xf 6
    | .succ _ => xf 6
  | x :: l => match i with
    | .zero => match m with
      | .zero => k (x :: l)
      | .succ m => match new with
        | [] => xf 6
        | y :: new => segK l .zero m new fun r => k (y :: r)
    | .succ i => segK l i m new fun r => k (x :: r)

def repK (x : α) (n : Nat) (k : List α → Bool) : Bool :=
  @Nat.rec (fun _ => α → (List α → Bool) → Bool) (fun _ k => k []) (fun _ ih x k => ih x fun r => k (x :: r)) n x k

def lenK (l : List α) (n : Nat) (k : Nat → Bool) : Bool :=
  @List.rec α (fun _ => Nat → (Nat → Bool) → Bool) (fun n k => k n) (fun _ _ ih n k => ih (.succ n) k) l n k
end

mutual
def cdK (x : DV) (k : CD → Bool) : Bool :=
  match x with
  | .int kd n => k (.int kd n)
  | .bool b => k (.bool b)
  | .str l => k (.str l)
  | .nil => k .nil
  | .raw v => k (.raw v)
  | .sl .. => xf 7
def cdKL (l : List DV) (k : List CD → Bool) : Bool :=
  match l with
  | [] => k []
  | x :: l => cdK x fun x => cdKL l fun l => k (x :: l)
end

def caKL (l : List AV) (k : List CA → Bool) : Bool :=
  match l with
  | [] => k []
  | x :: l => match x with
    | .d x => cdK x fun x => caKL l fun l => k (.d x :: l)
    | _ => xf 8

def caK (x : AV) (k : CA → Bool) : Bool :=
  match x with
  | .d x => cdK x fun x => k (.d x)
  | .agg cs => caKL cs fun cs => k (.agg cs)
  | .fn f [] [] => k (.fn f [] [])
  | _ => xf 9

def xopd (ts : TS) (o : IOpd) (k : CA → Bool) : Bool :=
  @IOpd.rec (fun _ => TS → (CA → Bool) → Bool) (fun i ts k => getT ts i k) (fun v _ k => caK v k) o ts k

def xopds (ts : TS) (l : List IOpd) (k : List CA → Bool) : Bool :=
  @List.rec IOpd (fun _ => TS → (List CA → Bool) → Bool) (fun _ k => k []) (fun x _ ih ts k => xopd ts x fun x => ih ts fun l => k (x :: l)) l ts k

def CA.cells : CA → List CA
  | .agg cs => cs
  | v => [v]

def dL (l : List CD) (k : List CA → Bool) : Bool :=
  @List.rec CD (fun _ => (List CA → Bool) → Bool) (fun k => k []) (fun x _ ih k => ih fun l => k (.d x :: l)) l k

def CH.get (h : CH) (l : Nat) (k : CObj → Bool) : Bool :=
  @CH.rec (fun _ => Nat → (CObj → Bool) → Bool) (fun _ t l k => getT t l k) h l k

def CH.set (h : CH) (l : Nat) (o : CObj) (k : CH → Bool) : Bool :=
  @CH.rec (fun _ => Nat → CObj → (CH → Bool) → Bool) (fun n t l o k => setT t l o fun t => k ⟨n, t⟩) h l o k

def CH.num (h : CH) (k : Nat → Bool) : Bool :=
  @CH.rec (fun _ => (Nat → Bool) → Bool) (fun n _ k => k n) h k

/-- One more; its number is handed on. -/
def CH.add (h : CH) (o : CObj) (k : Nat → CH → Bool) : Bool :=
  @CH.rec (fun _ => CObj → (Nat → CH → Bool) → Bool) (fun n t o k => pushT t n o fun t => fN (Nat.succ n) fun m => k n ⟨m, t⟩) h o k

def CA.one : CA → Bool
  | .und => false
  | .any => false
  | .agg _ => false
  | .tuple _ => false
  | _ => true

def onesK (vs : List CA) (k : Unit → Bool) : Bool :=
  @List.rec CA (fun _ => (Unit → Bool) → Bool) (fun k => k ()) (fun v _ ih k => @Bool.rec (fun _ => Bool) (xf 12) (ih k) v.one) vs k

def addK (s : Option Nat) (n : Nat) (k : Nat → Bool) : Bool :=
  match s with
  | none => k n
  | some s => fN (Nat.add s n) k

def reqB (c : Bool) (k : Bool) : Bool :=
  @Bool.rec (fun _ => Bool → Bool) (fun _ => xf 13) (fun k => k) c k

def dropO (rows : List (List CD)) (s : Option Nat) (k : List (List CD) → Bool) : Bool :=
  match s with
  | none => k rows
  | some s => dropK rows s k

def xview (h : CH) (v : CA) (k : Nat → Nat → List (List CD) → Bool) : Bool :=
  match v with
  | .d (.sl sz n e) => k sz n e
  | .dfs sz n e => k sz n e
  | .msl l sz s n _ => h.get l fun
    | .arr sz' m e => reqB (Nat.beq sz sz') (addK s n fun sn => reqB (Nat.ble sn m) (dropO e s fun e => k sz n e))
    | .frz sz' m e => reqB (Nat.beq sz sz') (addK s n fun sn => reqB (Nat.ble sn m) (dropO e s fun e => k sz n e))
    | _ => xf 14
  | _ => xf 15

def onD (v : CA) (k : CD → Bool) : Bool :=
  match v with
  | .d x => k x
  | .fn f [] [] => k (.raw (.func (.func f) #[] #[]))
  | _ => xf 16

def dvsK (l : List CA) (k : List CD → Bool) : Bool :=
  @List.rec CA (fun _ => (List CD → Bool) → Bool) (fun k => k []) (fun x _ ih k => onD x fun x => ih fun l => k (x :: l)) l k

def rows1 (l : List CD) (k : List (List CD) → Bool) : Bool :=
  match l with
  | [] => k []
  | x :: l => rows1 l fun l => k ([x] :: l)

def xpeek (h : CH) (v : CA) (k : CA → Bool) : Bool :=
  match v with
  | .vsl l off n => h.get l fun
    | .var cs => cutK cs off n fun c => dvsK c fun ds => rows1 ds fun rs => k (.d (.sl 1 n rs))
    | _ => xf 17
  | .msl l sz s n f => xview h (.msl l sz s n f) fun sz n e => k (.d (.sl sz n e))
  | .dfs sz n e => k (.d (.sl sz n e))
  | v => k v

def xpeekC (h : CH) (vs : List CA) (k : List CA → Bool) : Bool :=
  match vs with
  | [] => k []
  | v :: r => xpeek h v fun v => xpeekC h r fun r => k (v :: r)

def xpeekL (h : CH) (vs : List CA) (k : List CA → Bool) : Bool :=
  match vs with
  | [] => k []
  | v :: r => match v with
    | .agg cs => xpeekC h cs fun cs => xpeekL h r fun r => k (.agg cs :: r)
    | v => xpeek h v fun v => xpeekL h r fun r => k (v :: r)

def xfreeze (h : CH) (v : CA) (k : CA → CH → Bool) : Bool :=
  match v with
  | .msl l sz s n f => xview h (.msl l sz s n f) fun sz n e => h.get l fun
    | .arr sz' m e' => h.set l (.frz sz' m e') fun h => k (.d (.sl sz n e)) h
    | _ => k (.d (.sl sz n e)) h
  | .dfs sz n e => k (.d (.sl sz n e)) h
  | v => k v h

def xfreezeC (h : CH) (vs : List CA) (k : List CA → CH → Bool) : Bool :=
  match vs with
  | [] => k [] h
  | v :: r => xfreeze h v fun v h => xfreezeC h r fun r h => k (v :: r) h

def xfreezePtr (h : CH) (l : Nat) (k : CA → CH → Bool) : Bool :=
  h.get l fun
    | .var cs => xfreezeC h cs fun cs h => dvsK cs fun row => h.set l .gone fun h => k (.dptr row .zero) h
    | _ => xf 92

def xfreezeL (h : CH) (vs : List CA) (k : List CA → CH → Bool) : Bool :=
  match vs with
  | [] => k [] h
  | v :: r => match v with
    | .agg cs => xfreezeC h cs fun cs h => xfreezeL h r fun r h => k (.agg cs :: r) h
    | .ptr l .zero => xfreezePtr h l fun v h => xfreezeL h r fun r h => k (v :: r) h
    | v => xfreeze h v fun v h => xfreezeL h r fun r h => k (v :: r) h

def xdcells (h : CH) (v : CA) (k : List CD → CH → Bool) : Bool :=
  xfreezeC h v.cells fun cs h => dvsK cs fun l => k l h

def xbinI (op : BinOp) (kd : IntKind) (x y : IX) (k : CD → Bool) : Bool :=
  match op with
  | .add => match x, y with
    | .l a, .l b => fI (Int.add a b) fun c => reqB (inrB kd c) (k (.int kd (.l c)))
    | x, y => fI (Int.add x.val y.val) fun c => reqB (inrB kd c) (k (.int kd (.v c)))
  | .sub => match x, y with
    | .l a, .l b => fI (Int.sub a b) fun c => reqB (inrB kd c) (k (.int kd (.l c)))
    | x, y => fI (Int.sub x.val y.val) fun c => reqB (inrB kd c) (k (.int kd (.v c)))
  | .mul => fI (Int.mul x.val y.val) fun c => reqB (inrB kd c) (k (.int kd (.v c)))
  | .quo => reqB (Bool.not (xeq y.val (.ofNat .zero))) (fI (Int.tdiv x.val y.val) fun c => reqB (inrB kd c) (k (.int kd (.v c))))
  | .rem => reqB (Bool.not (xeq y.val (.ofNat .zero))) (fI (Int.tmod x.val y.val) fun c => k (.int kd (.v c)))
  | .eql => fB (xeq x.val y.val) fun b => k (.bool b)
  | .neq => fB (xeq x.val y.val) fun b => match b with
    | true => k (.bool false)
    | false => k (.bool true)
  | .lss => fB (xlt x.val y.val) fun b => k (.bool b)
  | .gtr => fB (xlt y.val x.val) fun b => k (.bool b)
  | .leq => fB (xle x.val y.val) fun b => k (.bool b)
  | .geq => fB (xle y.val x.val) fun b => k (.bool b)
  | _ => xf 18

def bEqK (a b : Bool) : Bool :=
  match a with
  | true => b
  | false => Bool.not b

def xaeq (ks : List IntKind) (xs ys : List CA) (k : Bool → Bool) : Bool :=
  match ks with
  | [] => match xs with
    | [] => match ys with
      | [] => k true
      | _ => xf 19
    | _ => xf 19
  | kd :: ks => match xs with
    | .d (.int k1 x) :: xs => match ys with
      | .d (.int k2 y) :: ys => reqB (kEq kd k1) (reqB (kEq kd k2) (xaeq ks xs ys fun b => match xeq x.val y.val with
        | true => k b
        | false => k false))
      | _ => xf 19
    | _ => xf 19

def xaeqC (ks : List CK) (xs ys : List CA) (k : Bool → Bool) : Bool :=
  match ks with
  | [] => match xs with
    | [] => match ys with
      | [] => k true
      | _ => xf 19
    | _ => xf 19
  | kd :: ks => match xs with
    | .d x :: xs => match ys with
      | .d y :: ys => match kd with
        | .i kd => match x with
          | .int k1 x => match y with
            | .int k2 y => reqB (kEq kd k1) (reqB (kEq kd k2) (xaeqC ks xs ys fun b => match xeq x.val y.val with
              | true => k b
              | false => k false))
            | _ => xf 19
          | _ => xf 19
        | .o => match x with
          | .bool x => match y with
            | .bool y => xaeqC ks xs ys fun b => match bEqK x y with
              | true => k b
              | false => k false
            | _ => xf 19
          | _ => xf 19
      | _ => xf 19
    | _ => xf 19

def xkcells (ks : List IntKind) (xs : List CA) (k : List KC → Bool) : Bool :=
  match ks with
  | [] => match xs with
    | [] => k []
    | _ => xf 20
  | kd :: ks => match xs with
    | .d (.int kd' x) :: xs => reqB (kEq kd kd') (reqB (inrB kd x.val) (xkcells ks xs fun l => k (.i x.val :: l)))
    | _ => xf 20

def xkshape (wide : Bool) (ks : List IntKind) (v : CA) (k : List KC → Bool) : Bool :=
  match v with
  | .agg cs => match wide with
    | true => xkcells ks cs k
    | false => xf 21
  | v => match wide with
    | true => xf 21
    | false => xkcells ks [v] k

def ksEq : List IntKind → List IntKind → Bool
  | [], [] => true
  | a :: l, b :: m => match kEq a b with
    | true => ksEq l m
    | false => false
  | _, _ => false

def u8sEq : List UInt8 → List UInt8 → Bool
  | [], [] => true
  | a :: l, b :: m => match Nat.beq a.toNat b.toNat with
    | true => u8sEq l m
    | false => false
  | _, _ => false

def bEq (a b : Bool) : Bool :=
  match a with
  | true => b
  | false => Bool.not b

def kcEq1 : KC → KC → Bool
  | .i a, .i b => xeq a b
  | .o a, .o b => bEq a b
  | .s a, .s b => u8sEq a b
  | _, _ => false

def kcEq : List KC → List KC → Bool
  | [], [] => true
  | a :: l, b :: m => match kcEq1 a b with
    | true => kcEq l m
    | false => false
  | _, _ => false

def xlook (es : List (List KC × Int)) (kc : List KC) (k : Option Int → Bool) : Bool :=
  match es with
  | [] => k none
  | e :: es => match e with
    | (k', v) => match kcEq kc k' with
      | true => k (some v)
      | false => xlook es kc k

def xkfind (kc : List KC) (ks : List (List KC)) (vs : List CA) (k : Option CA → Bool) : Bool :=
  match ks with
  | [] => k none
  | k' :: ks => match vs with
    | [] => k none
    | v :: vs => match kcEq kc k' with
      | true => k (some v)
      | false => xkfind kc ks vs k

def xkset (kc : List KC) (x : CA) (ks : List (List KC)) (vs : List CA) (k : Option (List CA) → Bool) : Bool :=
  match ks with
  | [] => k none
  | k' :: ks => match vs with
    | [] => k none
    | v :: vs => match kcEq kc k' with
      | true => k (some (x :: vs))
      | false => xkset kc x ks vs fun r => match r with
        | some l => k (some (v :: l))
        | none => k none

def xkidx (kc : List KC) (ks : List (List KC)) (n : Nat) (k : Option Nat → Bool) : Bool :=
  match ks with
  | [] => k none
  | k' :: ks => match kcEq kc k' with
    | true => k (some n)
    | false => xkidx kc ks (.succ n) k

def xdvsR (rs : List (List CA)) (k : List (List CD) → Bool) : Bool :=
  @List.rec (List CA) (fun _ => (List (List CD) → Bool) → Bool) (fun k => k []) (fun r _ ih k => dvsK r fun l => ih fun ls => k (l :: ls)) rs k

def xival (v : CA) (k : IX → Bool) : Bool :=
  match v with
  | .d (.int .i64 n) => k n
  | _ => xf 22

def xbval (v : CA) (k : Bool → Bool) : Bool :=
  match v with
  | .d (.bool b) => k b
  | _ => xf 23

/-- As a natural number. -/
def natK (n : IX) (k : Nat → Bool) : Bool :=
  match n.val with
  | .ofNat m => k m
  | .negSucc _ => k .zero

def xfillP (ts : TS) (cs : List CA) (ps : List (Nat × Nat × IOpd)) (k : List CA → Bool) : Bool :=
  match ps with
  | [] => k cs
  | p :: r => match p with
    | (off, sz, x) => xopd ts x fun v => lenK v.cells .zero fun n => reqB (Nat.beq n sz) (onesK v.cells (fun _ => putK cs off v.cells fun cs => xfillP ts cs r k))

def xfillR (ts : TS) (sz : Nat) (rs : List (List CA)) (ps : List (Nat × IOpd)) (k : List (List CA) → Bool) : Bool :=
  match ps with
  | [] => k rs
  | p :: r => match p with
    | (i, x) => xopd ts x fun v => lenK v.cells .zero fun n => reqB (Nat.beq n sz) (onesK v.cells (fun _ => setK rs i v.cells fun rs => xfillR ts sz rs r k))

def xfreezeR (h : CH) (rs : List (List CA)) (k : List (List CD) → CH → Bool) : Bool :=
  match rs with
  | [] => k [] h
  | r :: rs => xfreezeC h r fun cs h => dvsK cs fun l => xfreezeR h rs fun ls h => k (l :: ls) h

def xpickD (row : List CD) (off : Nat) (agg : Option Nat) (k : CA → Bool) : Bool :=
  match agg with
  | none => getK (fun v => k (.d v)) row off
  | some m => cutK row off m fun c => dL c fun c => k (.agg c)

/-- A row of an array. -/
def rowK (rows : List (List CD)) (i : Nat) (k : List CD → Bool) : Bool := getK k rows i

def xreadP (h : CH) (p : CA) (agg : Option Nat) (k : CA → Bool) : Bool :=
  match p with
  | .ptr l off => h.get l fun
    | .var cs => match agg with
      | none => getK k cs off
      | some n => cutK cs off n fun c => k (.agg c)
    | _ => xf 24
  | .aptr l sz i off => h.get l fun
    | .arr sz' n e => reqB (Nat.beq sz sz') (reqB (Nat.blt i n) (rowK e i fun r => xpickD r off agg k))
    | .frz sz' n e => reqB (Nat.beq sz sz') (reqB (Nat.blt i n) (rowK e i fun r => xpickD r off agg k))
    | _ => xf 25
  | .dptr row off => xpickD row off agg k
  | _ => xf 26

def xwriteP (h : CH) (p v : CA) (sz : Nat) (k : CH → Bool) : Bool :=
  match p with
  | .ptr l off => lenK v.cells .zero fun n => reqB (Nat.beq n sz) (onesK v.cells (fun _ => h.get l fun
    | .var cs => putK cs off v.cells fun cs => h.set l (.var cs) k
    | _ => xf 27))
  | .aptr l sz' i off => lenK v.cells .zero fun n => reqB (Nat.beq n sz) (onesK v.cells (fun _ => xdcells h v fun new h => h.get l fun
    | .arr sz'' n e => reqB (Nat.beq sz' sz'') (reqB (Nat.blt i n) (rowK e i fun r => putK r off new fun r => setK e i r fun e => h.set l (.arr sz'' n e) k))
    | _ => xf 28))
  | _ => xf 29

def CA.free : CA → Bool
  | .d _ => true
  | .dfs .. => true
  | .dptr .. => true
  | .fn _ [] [] => true
  | _ => false

def free1K (vs : List CA) (k : Unit → Bool) : Bool :=
  match vs with
  | [] => k ()
  | v :: l => match v.free with
    | true => free1K l k
    | false => xf 30

def freesK (vs : List CA) (k : Unit → Bool) : Bool :=
  match vs with
  | [] => k ()
  | v :: l => match v with
    | .agg cs => free1K cs fun _ => freesK l k
    | v => match v.free with
      | true => freesK l k
      | false => xf 31

def CA.isPtr : CA → Bool
  | .ptr .. => true
  | .aptr .. => true
  | .dptr .. => true
  | _ => false

def xbnd (ts : TS) (x : Option IOpd) (d : IX) (k : IX → Bool) : Bool :=
  match x with
  | none => k d
  | some o => xopd ts o fun v => xival v k

def xstartO (s : Option Nat) (lo : IX) (k : Option Nat → Bool) : Bool :=
  match lo with
  | .l n => match n with
    | .ofNat m => match m with
      | .zero => k s
      | .succ m => match s with
        | none => k (some (.succ m))
        | some t => fN (Nat.add t (.succ m)) fun t => k (some t)
    | .negSucc _ => xf 32
  | .v n => natK (.v n) fun m => match s with
    | none => k (some m)
    | some t => fN (Nat.add t m) fun t => k (some t)

def xstepSlice (ts : TS) (sz : Nat) (x : CA) (lo hi mx : Option IOpd) (k : CA → Bool) : Bool :=
  match x with
  | .msl l sz' s n f => reqB (Nat.beq sz sz') (xbnd ts lo (.l (.ofNat .zero)) fun lo => xbnd ts hi (.v (.ofNat n)) fun hi =>
      reqB (xle (.ofNat .zero) lo.val) (reqB (xle lo.val hi.val) (reqB (xle hi.val (.ofNat n)) (
        natK hi fun hin => natK lo fun lon => fN (Nat.sub hin lon) fun len => match mx with
          | none => match f with
            | true => reqB (xeq hi.val (.ofNat n)) (xstartO s lo fun s => k (.msl l sz s len true))
            | false => xstartO s lo fun s => k (.msl l sz s len false)
          | some m => xopd ts m fun v => xival v fun m => reqB (xeq m.val hi.val) (xstartO s lo fun s => k (.msl l sz s len true))))))
  | .d (.sl sz' n e) => reqB (Nat.beq sz sz') (xbnd ts lo (.l (.ofNat .zero)) fun lo => xbnd ts hi (.v (.ofNat n)) fun hi =>
      reqB (xle (.ofNat .zero) lo.val) (reqB (xle lo.val hi.val) (reqB (xle hi.val (.ofNat n)) (
        natK hi fun hin => natK lo fun lon => fN (Nat.sub hin lon) fun len => dropK e lon fun e => match mx with
          | none => k (.d (.sl sz len e))
          | some m => xopd ts m fun v => xival v fun m => reqB (xeq m.val hi.val) (k (.dfs sz len e))))))
  | .d .nil => xbnd ts lo (.l (.ofNat .zero)) fun lo => xbnd ts hi (.l (.ofNat .zero)) fun hi => reqB (xeq lo.val (.ofNat .zero)) (reqB (xeq hi.val (.ofNat .zero)) (match mx with
      | none => k (.d .nil)
      | some m => xopd ts m fun v => xival v fun m => reqB (xeq m.val (.ofNat .zero)) (k (.d .nil))))
  | _ => xf 33

def xidx (i : IX) (n : Nat) (k : Nat → Bool) : Bool :=
  match i.val with
  | .ofNat m => reqB (Nat.blt m n) (k m)
  | .negSucc _ => xf 34

def xstepIaddr (sz : Nat) (x : CA) (i : IX) (k : CA → Bool) : Bool :=
  match x with
  | .msl l sz' s n _ => reqB (Nat.beq sz sz') (xidx i n fun j => addK s j fun j => k (.aptr l sz j .zero))
  | .d (.sl sz' n e) => reqB (Nat.beq sz sz') (xidx i n fun j => rowK e j fun r => k (.dptr r .zero))
  | .dfs sz' n e => reqB (Nat.beq sz sz') (xidx i n fun j => rowK e j fun r => k (.dptr r .zero))
  | _ => xf 35

def xviewN (sz : Nat) (h : CH) (v : CA) (k : Nat → Nat → List (List CD) → Bool) : Bool :=
  match v with
  | .d .nil => k sz .zero []
  | v => xview h v k

def xfgB (l m : Nat) (v : CA) (k : CA → Bool) : Bool :=
  @Bool.rec (fun _ => Bool) (k v) (k .any) (Nat.beq l m)

def xforget (l : Nat) (v : CA) (k : CA → Bool) : Bool :=
  @CA.rec (fun _ => Nat → (CA → Bool) → Bool) (fun _ => Nat → (List CA → Bool) → Bool)
    (fun x _ k => k (.d x)) (fun _ k => k .any) (fun _ k => k .und) (fun _ ih l k => ih l fun cs => k (.agg cs)) (fun _ ih l k => ih l fun cs => k (.tuple cs))
    (fun m off l k => xfgB l m (.ptr m off) k) (fun m sz i off l k => xfgB l m (.aptr m sz i off) k) (fun row off _ k => k (.dptr row off)) (fun sz n e _ k => k (.dfs sz n e))
    (fun m sz s n f l k => xfgB l m (.msl m sz s n f) k) (fun m off n l k => xfgB l m (.vsl m off n) k) (fun m l k => xfgB l m (.map m) k)
    (fun f _ _ ihu ihc l k => ihu l fun us => ihc l fun cs => k (.fn f us cs)) (fun m _ k => k (.ge m)) (fun m l k => xfgB l m (.yl m) k)
    (fun _ k => k []) (fun _ _ ih ihs l k => ih l fun v => ihs l fun r => k (v :: r)) v l k

def xforgetL (l : Nat) (vs : List CA) (k : List CA → Bool) : Bool :=
  @CA.rec_1 (fun _ => Nat → (CA → Bool) → Bool) (fun _ => Nat → (List CA → Bool) → Bool)
    (fun x _ k => k (.d x)) (fun _ k => k .any) (fun _ k => k .und) (fun _ ih l k => ih l fun cs => k (.agg cs)) (fun _ ih l k => ih l fun cs => k (.tuple cs))
    (fun m off l k => xfgB l m (.ptr m off) k) (fun m sz i off l k => xfgB l m (.aptr m sz i off) k) (fun row off _ k => k (.dptr row off)) (fun sz n e _ k => k (.dfs sz n e))
    (fun m sz s n f l k => xfgB l m (.msl m sz s n f) k) (fun m off n l k => xfgB l m (.vsl m off n) k) (fun m l k => xfgB l m (.map m) k)
    (fun f _ _ ihu ihc l k => ihu l fun us => ihc l fun cs => k (.fn f us cs)) (fun m _ k => k (.ge m)) (fun m l k => xfgB l m (.yl m) k)
    (fun _ k => k []) (fun _ _ ih ihs l k => ih l fun v => ihs l fun r => k (v :: r)) vs l k

def xforgetT (l : Nat) (t : TS) (k : TS → Bool) : Bool :=
  @BT.rec CA (fun _ => Nat → (TS → Bool) → Bool) (fun _ k => k .leaf) (fun v _ _ il ir l k => xforget l v fun v => il l fun tl => ir l fun tr => k (.node v tl tr)) t l k

def xforgetO (l : Nat) (o : CObj) (k : CObj → Bool) : Bool :=
  match o with
  | .var cs => xforgetL l cs fun cs => k (.var cs)
  | .mapv wide ks keys vals => xforgetL l vals fun vals => k (.mapv wide ks keys vals)
  | .loop s ts ps A a b => xforgetT l ts fun ts => k (.loop s ts ps A a b)
  | o => k o

def xforgetOT (l : Nat) (t : BT CObj) (k : BT CObj → Bool) : Bool :=
  @BT.rec CObj (fun _ => Nat → (BT CObj → Bool) → Bool) (fun _ k => k .leaf) (fun v _ _ il ir l k => xforgetO l v fun v => il l fun tl => ir l fun tr => k (.node v tl tr)) t l k

def xforgetH (l : Nat) (h : CH) (k : CH → Bool) : Bool :=
  @CH.rec (fun _ => Nat → (CH → Bool) → Bool) (fun n t l k => xforgetOT l t fun t => k ⟨n, t⟩) h l k

def xpurge (pg : List Nat) (ts : TS) (k : TS → Bool) : Bool :=
  match pg with
  | [] => k ts
  | l :: pg => xforgetT l ts fun ts => xpurge pg ts k

def isInB (l : Nat) : List Nat → Bool
  | [] => false
  | m :: r => match Nat.beq l m with
    | true => true
    | false => isInB l r

/-- What moved, of the objects that were there before. -/
def addMv (base : Nat) (pg mv : List Nat) (k : List Nat → Bool) : Bool :=
  match pg with
  | [] => k mv
  | l :: pg => match Nat.blt l base with
    | true => match isInB l mv with
      | true => addMv base pg mv k
      | false => addMv base pg (l :: mv) k
    | false => addMv base pg mv k

def xnorm (v : CA) (k : CA → Bool) : Bool :=
  @CA.rec (fun _ => (CA → Bool) → Bool) (fun _ => (List CA → Bool) → Bool)
    (fun x k => @CD.rec (fun _ => (CA → Bool) → Bool) (fun _ => Bool) (fun _ => Bool) (fun kd n k => k (.d (.int kd (.v n.val)))) (fun b k => k (.d (.bool b))) (fun l k => k (.d (.str l))) (fun k => k (.d .nil)) (fun sz n e _ k => k (.d (.sl sz n e))) (fun v k => k (.d (.raw v))) true (fun _ _ _ _ => true) true (fun _ _ _ _ => true) x k)
    (fun k => k .any) (fun k => k .und) (fun _ ih k => ih fun cs => k (.agg cs)) (fun _ ih k => ih fun cs => k (.tuple cs))
    (fun m off k => k (.ptr m off)) (fun m sz i off k => k (.aptr m sz i off)) (fun row off k => k (.dptr row off)) (fun sz n e k => k (.dfs sz n e))
    (fun m sz s n f k => k (.msl m sz s n f)) (fun m off n k => k (.vsl m off n)) (fun m k => k (.map m))
    (fun f _ _ ihu ihc k => ihu fun us => ihc fun cs => k (.fn f us cs)) (fun m k => k (.ge m)) (fun m k => k (.yl m))
    (fun k => k []) (fun _ _ ih ihs k => ih fun v => ihs fun r => k (v :: r)) v k

def xnormL (vs : List CA) (k : List CA → Bool) : Bool :=
  @CA.rec_1 (fun _ => (CA → Bool) → Bool) (fun _ => (List CA → Bool) → Bool)
    (fun x k => @CD.rec (fun _ => (CA → Bool) → Bool) (fun _ => Bool) (fun _ => Bool) (fun kd n k => k (.d (.int kd (.v n.val)))) (fun b k => k (.d (.bool b))) (fun l k => k (.d (.str l))) (fun k => k (.d .nil)) (fun sz n e _ k => k (.d (.sl sz n e))) (fun v k => k (.d (.raw v))) true (fun _ _ _ _ => true) true (fun _ _ _ _ => true) x k)
    (fun k => k .any) (fun k => k .und) (fun _ ih k => ih fun cs => k (.agg cs)) (fun _ ih k => ih fun cs => k (.tuple cs))
    (fun m off k => k (.ptr m off)) (fun m sz i off k => k (.aptr m sz i off)) (fun row off k => k (.dptr row off)) (fun sz n e k => k (.dfs sz n e))
    (fun m sz s n f k => k (.msl m sz s n f)) (fun m off n k => k (.vsl m off n)) (fun m k => k (.map m))
    (fun f _ _ ihu ihc k => ihu fun us => ihc fun cs => k (.fn f us cs)) (fun m k => k (.ge m)) (fun m k => k (.yl m))
    (fun k => k []) (fun _ _ ih ihs k => ih fun v => ihs fun r => k (v :: r)) vs k

def xstepAppend (h : CH) (sz : Nat) (x y : CA) (mu : Bool) (k : CA → CH → List Nat → Bool) : Bool :=
  xviewN sz h y fun sz2 m e2 => reqB (Nat.beq sz sz2) (match x with
    | .d .nil => reqB (Nat.ble m 1073741824) (match mu with
      | true => h.add (.arr sz m e2) fun n0 h' => k (.msl n0 sz none m false) h' []
      | false => k (.d (.sl sz m e2)) h [])
    | .dfs sz' n e => reqB (Nat.beq sz sz') (fN (Nat.add n m) fun nm => reqB (Nat.ble nm 1073741824) (reqB (Nat.blt .zero m) (takeAppK e n e2 fun e => match mu with
      | true => h.add (.arr sz nm e) fun n0 h' => k (.msl n0 sz none nm false) h' []
      | false => k (.d (.sl sz nm e)) h [])))
    | .msl l sz' none n false => reqB (Nat.beq sz sz') (h.get l fun
      | .arr sz'' n' e => reqB (Nat.beq sz sz'') (reqB (Nat.beq n' n) (fN (Nat.add n m) fun nm => reqB (Nat.ble nm 1073741824) (takeAppK e n e2 fun e => h.set l (.arr sz nm e) fun h => xforgetH l h fun h => k (.msl l sz none nm false) h [l])))
      | _ => xf 36)
    | .msl l sz' s n true => reqB (Nat.beq sz sz') (xview h (.msl l sz' s n true) fun _ n e => fN (Nat.add n m) fun nm => reqB (Nat.ble nm 1073741824) (reqB (Nat.blt .zero m) (takeAppK e n e2 fun e => match mu with
      | true => h.add (.arr sz nm e) fun n0 h' => k (.msl n0 sz none nm false) h' []
      | false => k (.d (.sl sz nm e)) h [])))
    | _ => xf 37)

def xisZero (v : CA) : Bool :=
  match v with
  | .d .nil => true
  | .d (.sl _ n _) => Nat.beq n .zero
  | .dfs _ n _ => Nat.beq n .zero
  | .msl _ _ _ n _ => Nat.beq n .zero
  | _ => false

def xisD0 (v : CA) : Bool :=
  match v with
  | .dfs _ n _ => Nat.beq n .zero
  | _ => false

def xisNil (v : CA) : Bool :=
  match v with
  | .d .nil => true
  | _ => false

def xstartN (s : Option Nat) : Nat :=
  match s with
  | none => .zero
  | some s => s

def xstepAppIn (h : CH) (sz : Nat) (x y : CA) (k : CA → CH → Bool) : Bool :=
  xviewN sz h y fun sz2 m e2 => reqB (Nat.beq sz sz2) (match x with
    | .msl l sz' s n false => reqB (Nat.beq sz sz') (h.get l fun
      | .arr sz'' n' e => reqB (Nat.beq sz sz'') (addK s n fun sn => reqB (Nat.ble (Nat.add sn m) n') (segK e sn m e2 fun e => h.set l (.arr sz n' e) fun h => fN (Nat.add n m) fun nm => k (.msl l sz s nm false) h))
      | _ => xf 38)
    | _ => xf 39)

def rowsEK (e : List (List CD)) (n : Nat) (k : List CA → Bool) : Bool :=
  match n with
  | .zero => k []
  | .succ n => match e with
    | [] => xf 76
    | r :: e => match r with
      | [x] => rowsEK e n fun l => k (.d x :: l)
      | _ => xf 77

def xmin (a b : Nat) : Nat :=
  match Nat.ble a b with
  | true => a
  | false => b

def xstepCopy (h : CH) (sz : Nat) (x y : CA) (k : CA → CH → Bool) : Bool :=
  xviewN sz h y fun sz2 m e2 => reqB (Nat.beq sz sz2) (match x with
    | .msl l sz' s n _ => reqB (Nat.beq sz sz') (h.get l fun
      | .arr sz'' n' e => reqB (Nat.beq sz sz'') (addK s n fun sn => reqB (Nat.ble sn n') (fN (xmin n m) fun nm => segK e (xstartN s) nm e2 fun e => h.set l (.arr sz n' e) fun h => k (.d (.int .i64 (.v (.ofNat nm)))) h))
      | _ => xf 40)
    | .vsl l off n => reqB (Nat.beq sz 1) (h.get l fun
      | .var cs => fN (xmin n m) fun nm => rowsEK e2 nm fun new => putK cs off new fun cs => h.set l (.var cs) fun h => k (.d (.int .i64 (.v (.ofNat nm)))) h
      | _ => xf 78)
    | _ => xf 41)

def byteK (l : List UInt8) (i : Nat) (k : UInt8 → Bool) : Bool := getK k l i

/-- What is known of calls and loops. -/
structure XS where
  pcall : Bool → FuncId → List CA → (CA → Bool) → Bool
  call : FuncId → List CA → CH → (List Nat → CA → CH → Bool) → Bool
  yld : Nat → List CA → CH → (List Nat → CA → CH → Bool) → Bool
  loop : Ann → Nat → Bool → ICode → (Lv → TS → CH → List Nat → Bool) → TS → CH → List Nat → Bool

def fnOfC (v : CA) : CA :=
  match v with
  | .d (.raw (.func (.func f) us vs)) => match Nat.beq us.size .zero with
    | true => (match Nat.beq vs.size .zero with
      | true => .fn f [] []
      | false => .any)
    | false => .any
  | v => v

def xcall (X : XS) (ts : TS) (h : CH) (f : IOpd) (args : List IOpd) (m : Mode) (k : CA → CH → List Nat → Bool) : Bool :=
  xopd ts f fun v => match fnOfC v with
    | .fn f first cap => xopds ts args fun args => appK args cap fun r => appK first r fun vs => match m with
      | .borrow => xpeekL h vs fun vs => freesK vs (fun _ => xnormL vs fun vs => X.pcall true f vs fun v => k v h [])
      | .share => xfreezeL h vs fun vs h => freesK vs (fun _ => xnormL vs fun vs => X.pcall false f vs fun v => k v h [])
      | .data => freesK vs (fun _ => xnormL vs fun vs => X.pcall false f vs fun v => k v h [])
      | .raw => xnormL vs fun vs => X.call f vs h fun pg v h => k v h pg
      | .fresh => xf 42
    | .yl l => match m with
      | .raw => xopds ts args fun args => xnormL args fun args => X.yld l args h fun pg v h => k v h pg
      | _ => xf 43
    | _ => xf 44

def xstepChk (ts : TS) (sz sz' n : Nat) (lo hi mx : Option IOpd) (k : Unit → Bool) : Bool :=
  reqB (Nat.beq sz sz') (xbnd ts lo (.l (.ofNat .zero)) fun lo => xbnd ts hi (.v (.ofNat n)) fun hi => xbnd ts mx (.v (.ofNat n)) fun mx =>
    reqB (xle (.ofNat .zero) lo.val) (reqB (xle lo.val hi.val) (reqB (xle hi.val mx.val) (reqB (xle mx.val (.ofNat n)) (k ())))))

def xMvO (x : IOpd) (_ : XS) (ts : TS) (h : CH) (k : CA → CH → List Nat → Bool) : Bool :=
  xopd ts x fun v => k v h []

def xNewnilO (sz : Nat) (_ : XS) (_ : TS) (h : CH) (k : CA → CH → List Nat → Bool) : Bool :=
  h.add (.arr sz .zero []) fun n0 h' => k (.msl n0 sz none .zero false) h' []

def xBnewO (sz : Nat) (_ : XS) (_ : TS) (h : CH) (k : CA → CH → List Nat → Bool) : Bool :=
  h.add (.arr sz .zero []) fun n0 h' => k (.msl n0 sz none .zero false) h' []

def xPickO (c : IOpd) (a : IOpd) (b : IOpd) (_ : XS) (ts : TS) (h : CH) (k : CA → CH → List Nat → Bool) : Bool :=
  xopd ts c fun v => xbval v fun c => match c with
    | true => xopd ts a fun v => k v h []
    | false => xopd ts b fun v => k v h []

def xAllocO (zs : List DV) (_ : XS) (_ : TS) (h : CH) (k : CA → CH → List Nat → Bool) : Bool :=
  cdKL zs fun zs => dL zs fun zs => h.add (.var zs) fun n0 h' => k (.ptr n0 .zero) h' []

def xBoxO (x : IOpd) (_ : XS) (ts : TS) (h : CH) (k : CA → CH → List Nat → Bool) : Bool :=
  xopd ts x fun v => onesK v.cells (fun _ => h.add (.var v.cells) fun n0 h' => k (.ptr n0 .zero) h' [])

def xBuildO (zs : List DV) (ps : List (Nat × Nat × IOpd)) (_ : XS) (ts : TS) (h : CH) (k : CA → CH → List Nat → Bool) : Bool :=
  cdKL zs fun zs => dL zs fun zs => xfillP ts zs ps fun cs => k (.agg cs) h []

def xBsliceO (sz : Nat) (len : Nat) (zs : List DV) (ps : List (Nat × IOpd)) (mu : Bool) (_ : XS) (ts : TS) (h : CH) (k : CA → CH → List Nat → Bool) : Bool :=
  cdKL zs fun zs => dL zs fun zs => repK zs len fun rs => xfillR ts sz rs ps fun rs => xfreezeR h rs fun rows h => match mu with
    | true => h.add (.arr sz len rows) fun n0 h' => k (.msl n0 sz none len false) h' []
    | false => k (.d (.sl sz len rows)) h []

def xLoadO (agg : Option Nat) (x : IOpd) (_ : XS) (ts : TS) (h : CH) (k : CA → CH → List Nat → Bool) : Bool :=
  xopd ts x fun p => xreadP h p agg fun v => k v h []

def xStoreO (sz : Nat) (a : IOpd) (x : IOpd) (_ : XS) (ts : TS) (h : CH) (k : CA → CH → List Nat → Bool) : Bool :=
  xopd ts a fun p => xopd ts x fun v => xwriteP h p v sz fun h => k .und h []

def xNilchkO (x : IOpd) (_ : XS) (ts : TS) (h : CH) (k : CA → CH → List Nat → Bool) : Bool :=
  xopd ts x fun v => reqB v.isPtr (k v h [])

def xBinO (op : BinOp) (x : IOpd) (y : IOpd) (_ : XS) (ts : TS) (h : CH) (k : CA → CH → List Nat → Bool) : Bool :=
  xopd ts x fun x => xopd ts y fun y => match x with
    | .d (.int kd a) => match y with
      | .d (.int kd' b) => reqB (kEq kd kd') (xbinI op kd a b fun v => k (.d v) h [])
      | .ge m => match op with
        | .gtr => reqB (kEq kd .i64) (reqB (xle a.val (.ofNat m)) (k (.d (.bool false)) h []))
        | _ => xf 45
      | _ => xf 46
    | _ => xf 47

def xBwO (op : BinOp) (x : IOpd) (y : IOpd) (_ : XS) (ts : TS) (h : CH) (k : CA → CH → List Nat → Bool) : Bool :=
  xopd ts x fun x => xopd ts y fun y => match x with
    | .d (.int kd a) => match y with
      | .d (.int kd' b) => match bwCls op with
        | .zero => xf 88
        | .succ n => match n with
          | .zero => reqB (xle (.ofNat .zero) b.val) (fI (shiftZ op kd a.val b.val) fun c => k (.d (.int kd (.v c))) h [])
          | .succ n => match n with
            | .zero => reqB (kEq kd kd') (fI (bitsZ op kd a.val b.val) fun c => k (.d (.int kd (.v c))) h [])
            | .succ _ => xf 88
      | _ => xf 88
    | _ => xf 88

def xBinbO (op : BinOp) (x : IOpd) (y : IOpd) (_ : XS) (ts : TS) (h : CH) (k : CA → CH → List Nat → Bool) : Bool :=
  xopd ts x fun x => xbval x fun a => xopd ts y fun y => xbval y fun b => match op with
    | .eql => match a with
      | true => k (.d (.bool b)) h []
      | false => match b with
        | true => k (.d (.bool false)) h []
        | false => k (.d (.bool true)) h []
    | .neq => match a with
      | false => k (.d (.bool b)) h []
      | true => match b with
        | true => k (.d (.bool false)) h []
        | false => k (.d (.bool true)) h []
    | _ => xf 48

def xAeqO (neg : Bool) (ks : List IntKind) (x : IOpd) (y : IOpd) (_ : XS) (ts : TS) (h : CH) (k : CA → CH → List Nat → Bool) : Bool :=
  xopd ts x fun x => xopd ts y fun y => match x with
    | .agg xs => match y with
      | .agg ys => xaeq ks xs ys fun b => match neg with
        | true => (match b with
          | true => k (.d (.bool false)) h []
          | false => k (.d (.bool true)) h [])
        | false => k (.d (.bool b)) h []
      | _ => xf 83
    | _ => xf 83

def xAeqwO (neg : Bool) (ks : List CK) (x : IOpd) (y : IOpd) (_ : XS) (ts : TS) (h : CH) (k : CA → CH → List Nat → Bool) : Bool :=
  xopd ts x fun x => xopd ts y fun y => match x with
    | .agg xs => match y with
      | .agg ys => xaeqC ks xs ys fun b => match neg with
        | true => (match b with
          | true => k (.d (.bool false)) h []
          | false => k (.d (.bool true)) h [])
        | false => k (.d (.bool b)) h []
      | _ => xf 83
    | _ => xf 83

def xUnO (op : UnOp) (x : IOpd) (_ : XS) (ts : TS) (h : CH) (k : CA → CH → List Nat → Bool) : Bool :=
  xopd ts x fun x => match op with
    | .not => xbval x fun b => match b with
      | true => k (.d (.bool false)) h []
      | false => k (.d (.bool true)) h []
    | .neg => match x with
      | .d (.int kd n) => fI (Int.sub (.ofNat .zero) n.val) fun c => reqB (inrB kd c) (k (.d (.int kd (.v c))) h [])
      | _ => xf 49
    | _ => xf 49

def xConvO (kd : IntKind) (x : IOpd) (_ : XS) (ts : TS) (h : CH) (k : CA → CH → List Nat → Bool) : Bool :=
  xopd ts x fun x => match x with
    | .d (.int _ n) => fI (kd.wrap n.val) fun c => k (.d (.int kd (.v c))) h []
    | _ => xf 50

def xMkfnO (f : FuncId) (first : List IOpd) (cap : List IOpd) (_ : XS) (ts : TS) (h : CH) (k : CA → CH → List Nat → Bool) : Bool :=
  xopds ts first fun us => xopds ts cap fun cs => k (.fn f us cs) h []

def xMkmapO (wide : Bool) (ks : List IntKind) (_ : XS) (_ : TS) (h : CH) (k : CA → CH → List Nat → Bool) : Bool :=
  h.add (.map wide ks .zero []) fun n0 h' => k (.map n0) h' []

def xMksliceO (sz : Nat) (zs : List DV) (_ : Nat) (n : IOpd) (_ : XS) (ts : TS) (h : CH) (k : CA → CH → List Nat → Bool) : Bool :=
  cdKL zs fun zs => xopd ts n fun v => xival v fun n => reqB (xle (.ofNat .zero) n.val) (reqB (xle n.val (.ofNat 1073741824)) (natK n fun n => repK zs n fun rows =>
      h.add (.arr sz n rows) fun n0 h' => k (.msl n0 sz none n false) h' []))

def xSliceO (sz : Nat) (x : IOpd) (lo : Option IOpd) (hi : Option IOpd) (mx : Option IOpd) (_ : XS) (ts : TS) (h : CH) (k : CA → CH → List Nat → Bool) : Bool :=
  xopd ts x fun x => xstepSlice ts sz x lo hi mx fun v => k v h []

def xSlarrO (n : Nat) (x : IOpd) (lo : Option IOpd) (hi : Option IOpd) (_ : XS) (ts : TS) (h : CH) (k : CA → CH → List Nat → Bool) : Bool :=
  xopd ts x fun x => match x with
    | .ptr l off => xbnd ts lo (.l (.ofNat .zero)) fun lo => xbnd ts hi (.l (.ofNat n)) fun hi =>
        reqB (xle (.ofNat .zero) lo.val) (reqB (xle lo.val hi.val) (reqB (xle hi.val (.ofNat n)) (natK lo fun lo => natK hi fun hi => fN (Nat.add off lo) fun off => match Nat.sub hi lo with
          | .zero => k (.d (.sl 1 .zero [])) h []
          | .succ m => k (.vsl l off (.succ m)) h [])))
    | _ => xf 51

def xFaddrO (off : Nat) (x : IOpd) (_ : XS) (ts : TS) (h : CH) (k : CA → CH → List Nat → Bool) : Bool :=
  xopd ts x fun x => match x with
    | .ptr l o => fN (Nat.add o off) fun o => k (.ptr l o) h []
    | .aptr l sz i o => fN (Nat.add o off) fun o => k (.aptr l sz i o) h []
    | .dptr row o => fN (Nat.add o off) fun o => k (.dptr row o) h []
    | _ => xf 52

def xFieldO (off : Nat) (agg : Option Nat) (x : IOpd) (_ : XS) (ts : TS) (h : CH) (k : CA → CH → List Nat → Bool) : Bool :=
  xopd ts x fun x => match x with
    | .agg cs => match agg with
      | none => getK (fun v => k v h []) cs off
      | some n => cutK cs off n fun c => k (.agg c) h []
    | _ => xf 53

def xIaddrO (sz : Nat) (x : IOpd) (i : IOpd) (_ : XS) (ts : TS) (h : CH) (k : CA → CH → List Nat → Bool) : Bool :=
  xopd ts i fun v => xival v fun i => xopd ts x fun x => xstepIaddr sz x i fun v => k v h []

def xIaddrAO (n : Nat) (sz : Nat) (x : IOpd) (i : IOpd) (_ : XS) (ts : TS) (h : CH) (k : CA → CH → List Nat → Bool) : Bool :=
  xopd ts i fun v => xival v fun i => xopd ts x fun x => match x with
    | .ptr l off => match i with
      | .l i => match i with
        | .ofNat i => reqB (Nat.blt i n) (fN (Nat.add off (Nat.mul i sz)) fun o => k (.ptr l o) h [])
        | .negSucc _ => xf 54
      | .v i => match i with
        | .ofNat i => reqB (Nat.blt i n) (fN (Nat.add off (Nat.mul i sz)) fun o => k (.ptr l o) h [])
        | .negSucc _ => xf 55
    | _ => xf 56

def xLookupO (wide : Bool) (ks : List IntKind) (ok : Bool) (m : IOpd) (kx : IOpd) (_ : XS) (ts : TS) (h : CH) (k : CA → CH → List Nat → Bool) : Bool :=
  xopd ts m fun m => match m with
    | .map l => h.get l fun
      | .map wide' ks' _ es => reqB (match wide with | true => wide' | false => Bool.not wide') (reqB (ksEq ks ks') (xopd ts kx fun kx => xkshape wide ks kx fun kc => xlook es kc fun r => match r with
        | some n => match ok with
          | true => k (.tuple [.d (.int .i64 (.v n)), .d (.bool true)]) h []
          | false => k (.d (.int .i64 (.v n))) h []
        | none => match ok with
          | true => k (.tuple [.d (.int .i64 (.v (.ofNat .zero))), .d (.bool false)]) h []
          | false => k (.d (.int .i64 (.v (.ofNat .zero)))) h []))
      | _ => xf 57
    | _ => xf 58

def xMapupdO (wide : Bool) (ks : List IntKind) (m : IOpd) (kx : IOpd) (x : IOpd) (_ : XS) (ts : TS) (h : CH) (k : CA → CH → List Nat → Bool) : Bool :=
  xopd ts m fun m => match m with
    | .map l => h.get l fun
      | .map wide' ks' n es => reqB (match wide with | true => wide' | false => Bool.not wide') (reqB (ksEq ks ks') (xopd ts kx fun kx => xkshape wide ks kx fun kc => xopd ts x fun x => xival x fun x => xlook es kc fun r => match r with
        | some _ => h.set l (.map wide ks n ((kc, x.val) :: es)) fun h => k .und h []
        | none => fN (Nat.succ n) fun n => h.set l (.map wide ks n ((kc, x.val) :: es)) fun h => k .und h []))
      | _ => xf 59
    | _ => xf 60

def xExtractO (x : IOpd) (i : Nat) (_ : XS) (ts : TS) (h : CH) (k : CA → CH → List Nat → Bool) : Bool :=
  xopd ts x fun x => match x with
    | .tuple vs => getK (fun v => k v h []) vs i
    | _ => xf 61

def xCallO (f : IOpd) (args : List IOpd) (m : Mode) (X : XS) (ts : TS) (h : CH) (k : CA → CH → List Nat → Bool) : Bool :=
  xcall X ts h f args m k

def xLenO (x : IOpd) (_ : XS) (ts : TS) (h : CH) (k : CA → CH → List Nat → Bool) : Bool :=
  xopd ts x fun x => match x with
    | .d .nil => k (.d (.int .i64 (.l (.ofNat .zero)))) h []
    | .d (.sl _ n _) => k (.d (.int .i64 (.v (.ofNat n)))) h []
    | .dfs _ n _ => k (.d (.int .i64 (.v (.ofNat n)))) h []
    | .msl _ _ _ n _ => k (.d (.int .i64 (.v (.ofNat n)))) h []
    | .vsl _ _ n => k (.d (.int .i64 (.v (.ofNat n)))) h []
    | _ => xf 62

def xLenmO (x : IOpd) (_ : XS) (ts : TS) (h : CH) (k : CA → CH → List Nat → Bool) : Bool :=
  xopd ts x fun x => match x with
    | .map l => h.get l fun
      | .map _ _ n _ => k (.d (.int .i64 (.v (.ofNat n)))) h []
      | _ => xf 63
    | _ => xf 64

def xCapO (x : IOpd) (_ : XS) (ts : TS) (h : CH) (k : CA → CH → List Nat → Bool) : Bool :=
  xopd ts x fun x => match x with
    | .msl l sz s n f => h.get l fun
      | .arr sz' m _ => reqB (Nat.beq sz sz') (match f with
        | true => k (.d (.int .i64 (.v (.ofNat n)))) h []
        | false => match s with
          | none => k (.ge m) h []
          | some s => fN (Nat.sub m s) fun m => k (.ge m) h [])
      | _ => xf 65
    | _ => xf 66

def xMinO (x : IOpd) (y : IOpd) (_ : XS) (ts : TS) (h : CH) (k : CA → CH → List Nat → Bool) : Bool :=
  xopd ts x fun x => xopd ts y fun y => match x with
    | .d (.int kd a) => match y with
      | .d (.int kd' b) => reqB (kEq kd kd') (match xlt b.val a.val with
        | true => k (.d (.int kd (.v b.val))) h []
        | false => k (.d (.int kd (.v a.val))) h [])
      | _ => xf 67
    | _ => xf 68

def xMaxO (x : IOpd) (y : IOpd) (_ : XS) (ts : TS) (h : CH) (k : CA → CH → List Nat → Bool) : Bool :=
  xopd ts x fun x => xopd ts y fun y => match x with
    | .d (.int kd a) => match y with
      | .d (.int kd' b) => reqB (kEq kd kd') (match xlt a.val b.val with
        | true => k (.d (.int kd (.v b.val))) h []
        | false => k (.d (.int kd (.v a.val))) h [])
      | _ => xf 67
    | _ => xf 68

def xAppendO (sz : Nat) (_ : Nat) (x : IOpd) (y : IOpd) (mu : Bool) (_ : XS) (ts : TS) (h : CH) (k : CA → CH → List Nat → Bool) : Bool :=
  xopd ts x fun x => xopd ts y fun y => xstepAppend h sz x y mu k

def xCopyO (sz : Nat) (x : IOpd) (y : IOpd) (_ : XS) (ts : TS) (h : CH) (k : CA → CH → List Nat → Bool) : Bool :=
  xopd ts x fun x => xopd ts y fun y => xstepCopy h sz x y fun v h => k v h []

def xBadO  (_ : XS) (_ : TS) (_ : CH) (_ : CA → CH → List Nat → Bool) : Bool :=
  xf 69

def xAppendInO (sz : Nat) (x : IOpd) (y : IOpd) (_ : XS) (ts : TS) (h : CH) (k : CA → CH → List Nat → Bool) : Bool :=
  xopd ts x fun x => xopd ts y fun y => xstepAppIn h sz x y fun v h => k v h []

def xClearO (sz : Nat) (zs : List DV) (x : IOpd) (_ : XS) (ts : TS) (h : CH) (k : CA → CH → List Nat → Bool) : Bool :=
  cdKL zs fun zs => xopd ts x fun x => match x with
    | .msl l sz' s n _ => reqB (Nat.beq sz sz') (h.get l fun
      | .arr sz'' n' e => reqB (Nat.beq sz sz'') (addK s n fun sn => reqB (Nat.ble sn n') (repK zs n fun new => segK e (xstartN s) n new fun e => h.set l (.arr sz n' e) fun h => k .any h []))
      | _ => xf 70)
    | _ => xf 71

def xIsnilO (neg : Bool) (x : IOpd) (_ : XS) (ts : TS) (h : CH) (k : CA → CH → List Nat → Bool) : Bool :=
  xopd ts x fun x => match x with
    | .d .nil => (match neg with
      | true => k (.d (.bool false)) h []
      | false => k (.d (.bool true)) h [])
    | .d (.sl _ n _) => reqB (Nat.blt .zero n) (k (.d (.bool neg)) h [])
    | .dfs _ n _ => reqB (Nat.blt .zero n) (k (.d (.bool neg)) h [])
    | .msl _ _ _ n _ => reqB (Nat.blt .zero n) (k (.d (.bool neg)) h [])
    | _ => xf 72

def xSlicexO (sz : Nat) (x : IOpd) (lo : Option IOpd) (hi : Option IOpd) (_ : XS) (ts : TS) (h : CH) (k : CA → CH → List Nat → Bool) : Bool :=
  xopd ts x fun x => match x with
    | .msl l sz' s n false => reqB (Nat.beq sz sz') (h.get l fun
      | .arr sz'' n' _ => reqB (Nat.beq sz sz'') (xbnd ts lo (.l (.ofNat .zero)) fun lo => xbnd ts hi (.v (.ofNat n)) fun hi =>
          reqB (xle (.ofNat .zero) lo.val) (reqB (xle lo.val hi.val) (natK hi fun hin => addK s hin fun shi => reqB (Nat.ble shi n') (natK lo fun lon => fN (Nat.sub hin lon) fun len => xstartO s lo fun s => k (.msl l sz s len false) h []))))
      | _ => xf 73)
    | _ => xf 74

def xIdxsO (l : List UInt8) (x : IOpd) (_ : XS) (ts : TS) (h : CH) (k : CA → CH → List Nat → Bool) : Bool :=
  xopd ts x fun x => match x with
    | .d (.int _ i) => natK i fun n => reqB (xle (.ofNat .zero) i.val) (byteK l n fun b => fN b.toNat fun b => k (.d (.int .u8 (.v (.ofNat b)))) h [])
    | _ => xf 75

def xSlchkO (sz : Nat) (x : IOpd) (lo : Option IOpd) (hi : Option IOpd) (mx : Option IOpd) (_ : XS) (ts : TS) (h : CH) (k : CA → CH → List Nat → Bool) : Bool :=
  xopd ts x fun x => match x with
    | .msl _ sz' _ n _ => xstepChk ts sz sz' n lo hi mx fun _ => k .any h []
    | .d (.sl sz' n _) => xstepChk ts sz sz' n lo hi mx fun _ => k .any h []
    | _ => xf 79

def xOvlO (x : IOpd) (y : IOpd) (_ : XS) (ts : TS) (h : CH) (k : CA → CH → List Nat → Bool) : Bool :=
  xopd ts x fun x => xopd ts y fun y => match x with
    | .msl l _ _ n1 _ => match y with
      | .msl l' _ _ n2 _ => match Nat.beq l l' with
        | true => xf 80
        | false => reqB (Nat.blt .zero n1) <| reqB (Nat.blt .zero n2) <| h.get l fun
          | .arr sz _ _ => h.get l' fun
            | .arr sz' n' _ => reqB (Nat.beq sz 1) (reqB (Nat.beq sz' 1) (reqB (Nat.blt .zero n') (k (.d (.bool false)) h [])))
            | _ => xf 81
          | _ => xf 81
      | _ => xf 82
    | _ => xf 82

def xAppendNO (sz : Nat) (_ : Nat) (x : IOpd) (y : IOpd) (mu : Bool) (_ : XS) (ts : TS) (h : CH) (k : CA → CH → List Nat → Bool) : Bool :=
  xopd ts x fun x => xopd ts y fun y => match xisNil x with
    | true => (match xisZero y with
      | true => k (.d .nil) h []
      | false => xstepAppend h sz x y mu k)
    | false => match xisD0 x with
      | true => (match xisZero y with
        | true => k x h []
        | false => xstepAppend h sz x y mu k)
      | false => xstepAppend h sz x y mu k

def xBslice0O (sz : Nat) (_ : XS) (_ : TS) (h : CH) (k : CA → CH → List Nat → Bool) : Bool :=
  k (.dfs sz .zero []) h []

def xMkmapvO (wide : Bool) (ks : List IntKind) (_ : XS) (_ : TS) (h : CH) (k : CA → CH → List Nat → Bool) : Bool :=
  h.add (.mapv wide ks [] []) fun n0 h' => k (.map n0) h' []

def xLookupvO (wide : Bool) (ks : List IntKind) (ok : Bool) (z : AV) (m : IOpd) (kx : IOpd) (_ : XS) (ts : TS) (h : CH) (k : CA → CH → List Nat → Bool) : Bool :=
  caK z fun z => xopd ts m fun m => match m with
    | .map l => h.get l fun
      | .mapv wide' ks' keys vals => reqB (match wide with | true => wide' | false => Bool.not wide') (reqB (ksEq ks ks') (xopd ts kx fun kx => xkshape wide ks kx fun kc => xkfind kc keys vals fun r => match r with
        | some v => match ok with
          | true => k (.tuple [v, .d (.bool true)]) h []
          | false => k v h []
        | none => match ok with
          | true => k (.tuple [z, .d (.bool false)]) h []
          | false => k z h []))
      | _ => xf 83
    | _ => xf 84

def xMapupdvO (wide : Bool) (ks : List IntKind) (m : IOpd) (kx : IOpd) (x : IOpd) (_ : XS) (ts : TS) (h : CH) (k : CA → CH → List Nat → Bool) : Bool :=
  xopd ts m fun m => match m with
    | .map l => h.get l fun
      | .mapv wide' ks' keys vals => reqB (match wide with | true => wide' | false => Bool.not wide') (reqB (ksEq ks ks') (xopd ts kx fun kx => xkshape wide ks kx fun kc => xopd ts x fun x => xkset kc x keys vals fun r => match r with
        | some vals => h.set l (.mapv wide ks keys vals) fun h => k .und h []
        | none => appK keys [kc] fun keys => appK vals [x] fun vals => h.set l (.mapv wide ks keys vals) fun h => k .und h []))
      | _ => xf 85
    | _ => xf 86

def xBslicePO (sz : Nat) (len : Nat) (zs : List DV) (ps : List (Nat × IOpd)) (_ : XS) (ts : TS) (h : CH) (k : CA → CH → List Nat → Bool) : Bool :=
  cdKL zs fun zs => dL zs fun zs => repK zs len fun rs => xfillR ts sz rs ps fun rs => xdvsR rs fun rows => k (.d (.sl sz len rows)) h []

def xExtractFO (x : IOpd) (i : Nat) (_ : XS) (ts : TS) (h : CH) (k : CA → CH → List Nat → Bool) : Bool :=
  xopd ts x fun x => match x with
    | .tuple vs => getK (fun v => match v with
      | .agg cs => xfreezeC h cs fun cs h => k (.agg cs) h []
      | .ptr l .zero => xfreezePtr h l fun v h => k v h []
      | v => xfreeze h v fun v h => k v h []) vs i
    | _ => xf 61

def xMapentO (wide : Bool) (ks : List IntKind) (z : AV) (m : IOpd) (kx : IOpd) (_ : XS) (ts : TS) (h : CH) (k : CA → CH → List Nat → Bool) : Bool :=
  caK z fun z => xopd ts m fun m => match m with
    | .map l => h.get l fun
      | .mapv wide' ks' keys vals => reqB (match wide with | true => wide' | false => Bool.not wide') (reqB (ksEq ks ks') (xopd ts kx fun kx => xkshape wide ks kx fun kc => xkidx kc keys .zero fun r => match r with
        | some i => getK (fun v => k (.tuple [v, .d (.int .i64 (.v (.ofNat i)))]) h []) vals i
        | none => lenK keys .zero fun n => appK keys [kc] fun keys => appK vals [z] fun vals => h.set l (.mapv wide ks keys vals) fun h => k (.tuple [z, .d (.int .i64 (.v (.ofNat n)))]) h []))
      | _ => xf 87
    | _ => xf 89

def xEntstO (m : IOpd) (s : IOpd) (x : IOpd) (_ : XS) (ts : TS) (h : CH) (k : CA → CH → List Nat → Bool) : Bool :=
  xopd ts m fun m => match m with
    | .map l => h.get l fun
      | .mapv wide ks keys vals => xopd ts s fun s => xival s fun n => lenK vals .zero fun c => xidx n c fun j => xopd ts x fun x => setK vals j x fun vals => h.set l (.mapv wide ks keys vals) fun h => k .und h []
      | _ => xf 90
    | _ => xf 91

def xAppendPO (sz : Nat) (_ : Nat) (x : IOpd) (y : IOpd) (_ : XS) (ts : TS) (h : CH) (k : CA → CH → List Nat → Bool) : Bool :=
  xopd ts x fun x => xopd ts y fun y => match x with
    | .d .nil => match y with
      | .d .nil => k (.d .nil) h []
      | .d (.sl sz' m e) => reqB (Nat.beq sz sz') (reqB (Nat.ble m 1073741824) (k (.d (.sl sz m e)) h []))
      | _ => xf 93
    | _ => xf 94

def xstep (X : XS) (o : IOp) (ts : TS) (h : CH) (k : CA → CH → List Nat → Bool) : Bool :=
  @IOp.rec (fun _ => XS → TS → CH → (CA → CH → List Nat → Bool) → Bool) xMvO xNewnilO xBnewO xPickO xAllocO xBoxO xBuildO xBsliceO xLoadO xStoreO xNilchkO xBinO xBinbO xAeqO xUnO xConvO xMkfnO xMkmapO xMksliceO xSliceO xSlarrO xFaddrO xFieldO xIaddrO xIaddrAO xLookupO xMapupdO xExtractO xCallO xLenO xLenmO xCapO xMinO xAppendO xCopyO xBadO xAppendInO xClearO xIsnilO xSlicexO xIdxsO xSlchkO xOvlO xAppendNO xMkmapvO xLookupvO xMapupdvO xAeqwO xMaxO xBwO xBslicePO xExtractFO xMapentO xEntstO xAppendPO xBslice0O o X ts h k
end
end Go.Vf


namespace Go.Vf
open Go
noncomputable section

structure XFn where
  A : Ann
  n : Nat
  irs : List IRes
  ic : ICode

inductive XT where
  | leaf
  | node (key : Nat) (fn : XFn) (l r : XT)

def XT.find (t : XT) (f : Nat) (k : XFn → Bool) : Bool :=
  match t with
  | .leaf => xf 100
  | .node key fn l r => match Nat.beq f key with
    | true => k fn
    | false => match Nat.blt f key with
      | true => l.find f k
      | false => r.find f k

def xputD (dst : Option Nat) (v : CA) (ts : TS) (k : TS → Bool) : Bool :=
  @Option.rec Nat (fun _ => CA → TS → (TS → Bool) → Bool) (fun _ ts k => k ts) (fun d v ts k => setT ts d v k) dst v ts k

/-- What comes after an operation. -/
def xafter (base : Nat) (dst : Option Nat) (ts : TS) (mv : List Nat) (k : TS → CH → List Nat → Bool) (v : CA) (h : CH) (pg : List Nat) : Bool :=
  match pg with
  | [] => xputD dst v ts fun ts => k ts h mv
  | p :: pg => xpurge (p :: pg) ts fun ts => addMv base (p :: pg) mv fun mv => xputD dst v ts fun ts => k ts h mv

section
variable (X : XS) (base : Nat)

def xop (o : IOp) (dst : Option Nat) (ts : TS) (h : CH) (mv : List Nat) (k : TS → CH → List Nat → Bool) : Bool :=
  xstep X o ts h (xafter base dst ts mv k)

/-- Off or on. -/
def xgV (want : Bool) (off on : Unit → Bool) (v : CA) : Bool :=
  match v with
  | .d (.bool b) => match b with
    | true => (match want with
      | true => on ()
      | false => off ())
    | false => (match want with
      | true => off ()
      | false => on ())
  | .und => off ()
  | _ => xf 101

/-- With its guard looked at. -/
def xguard (g : Option (Nat × Bool)) (ts : TS) (off on : Unit → Bool) : Bool :=
  @Option.rec (Nat × Bool) (fun _ => TS → (Unit → Bool) → (Unit → Bool) → Bool) (fun _ _ on => on ()) (fun g ts off on => @Prod.rec Nat Bool (fun _ => Bool) (fun j want => getT ts j (xgV want off on)) g) g ts off on

def xoper (o : IOper) (ts : TS) (h : CH) (mv : List Nat) (k : TS → CH → List Nat → Bool) : Bool :=
  @IOper.rec (fun _ => XS → Nat → TS → CH → List Nat → (TS → CH → List Nat → Bool) → Bool)
    (fun dst g op X base ts h mv k => xguard g ts (fun _ => xputD dst .und ts fun ts => k ts h mv) (fun _ => xop X base op dst ts h mv k)) o X base ts h mv k

def xops (l : List IOper) (ts : TS) (h : CH) (mv : List Nat) (k : TS → CH → List Nat → Bool) : Bool :=
  @List.rec IOper (fun _ => XS → Nat → TS → CH → List Nat → (TS → CH → List Nat → Bool) → Bool) (fun _ _ ts h mv k => k ts h mv)
    (fun o _ ih X base ts h mv k => xoper X base o ts h mv (ih X base · · · k)) l X base ts h mv k

def xstepA (l : Nat) (o : IOp) (ts : TS) (k : CA → CObj → Bool) : Bool :=
  match o with
  | .alloc zs => cdKL zs fun zs => dL zs fun zs => k (.ptr l .zero) (.var zs)
  | .box x => xopd ts x fun v => onesK v.cells (fun _ => k (.ptr l .zero) (.var v.cells))
  | .mkmap wide ks => k (.map l) (.map wide ks .zero [])
  | .mkmapv wide ks => k (.map l) (.mapv wide ks [] [])
  | .bnew sz => k (.msl l sz none .zero false) (.arr sz .zero [])
  | .mkslice sz zs _ n => cdKL zs fun zs => xopd ts n fun v => xival v fun n => reqB (xle (.ofNat .zero) n.val) (reqB (xle n.val (.ofNat 1073741824)) (natK n fun n => repK zs n fun rows =>
      k (.msl l sz none n false) (.arr sz n rows)))
  | _ => xf 102

def klEq (u v : Kl) : Bool := Nat.beq u.ctorIdx v.ctorIdx

def xavOk (b0 : Nat) (d : DOper) (ts : TS) (k : Unit → Bool) : Bool :=
  match d.av with
  | [] => k ()
  | _ => match d.o.op.at with
    | some x => xopd ts x fun v => match v with
      | .ptr l _ => reqB (avoids b0 l d.av) (k ())
      | .aptr l _ _ _ => reqB (klEq d.o.op.kl .r) (reqB (avoids b0 l d.av) (k ()))
      | .map l => reqB (klEq d.o.op.kl .r) (reqB (avoids b0 l d.av) (k ()))
      | .dptr _ _ => reqB (klEq d.o.op.kl .r) (k ())
      | _ => xf 103
    | none => xf 104

def ixEq : IX → IX → Bool
  | .v a, .v b => xeq a b
  | .l a, .l b => xeq a b
  | _, _ => false

mutual
def cdEq (x y : CD) : Bool :=
  match x with
  | .int kd n => match y with
    | .int kd' m => match kEq kd kd' with
      | true => ixEq n m
      | false => false
    | _ => false
  | .bool b => match y with
    | .bool c => match b with
      | true => c
      | false => Bool.not c
    | _ => false
  | .str l => match y with
    | .str m => u8sEq l m
    | _ => false
  | .nil => match y with
    | .nil => true
    | _ => false
  | .sl sz n rows => match y with
    | .sl sz' n' rows' => match Nat.beq sz sz' with
      | true => (match Nat.beq n n' with
        | true => cdEqss rows rows'
        | false => false)
      | false => false
    | _ => false
  | .raw _ => false
def cdEqs (xs ys : List CD) : Bool :=
  match xs with
  | [] => match ys with
    | [] => true
    | _ => false
  | x :: xs => match ys with
    | [] => false
    | y :: ys => match cdEq x y with
      | true => cdEqs xs ys
      | false => false
def cdEqss (xs ys : List (List CD)) : Bool :=
  match xs with
  | [] => match ys with
    | [] => true
    | _ => false
  | x :: xs => match ys with
    | [] => false
    | y :: ys => match cdEqs x y with
      | true => cdEqss xs ys
      | false => false
end

def onEq : Option Nat → Option Nat → Bool
  | none, none => true
  | some a, some b => Nat.beq a b
  | _, _ => false

mutual
def caEq (x y : CA) : Bool :=
  match x with
  | .d x => match y with
    | .d y => cdEq x y
    | _ => false
  | .agg xs => match y with
    | .agg ys => caEqs xs ys
    | _ => false
  | .ptr l o => match y with
    | .ptr l' o' => match Nat.beq l l' with
      | true => Nat.beq o o'
      | false => false
    | _ => false
  | .msl l sz s n f => match y with
    | .msl l' sz' s' n' f' => match Nat.beq l l' with
      | true => (match Nat.beq sz sz' with
        | true => (match onEq s s' with
          | true => (match Nat.beq n n' with
            | true => bEq f f'
            | false => false)
          | false => false)
        | false => false)
      | false => false
    | _ => false
  | .map l => match y with
    | .map l' => Nat.beq l l'
    | _ => false
  | .fn f us cs => match y with
    | .fn f' us' cs' => match Nat.beq f f' with
      | true => (match caEqs us us' with
        | true => caEqs cs cs'
        | false => false)
      | false => false
    | _ => false
  | .yl l => match y with
    | .yl l' => Nat.beq l l'
    | _ => false
  | _ => false
def caEqs (xs ys : List CA) : Bool :=
  match xs with
  | [] => match ys with
    | [] => true
    | _ => false
  | x :: xs => match ys with
    | [] => false
    | y :: ys => match caEq x y with
      | true => caEqs xs ys
      | false => false
end

def xrecheck (b0 : Nat) (ts : TS) (h : CH) (k : Unit → Bool) (F : List DOper) : Bool :=
  match F with
  | [] => k ()
  | r :: rs => match klEq r.o.op.kl .r with
    | true => xguard r.o.guard ts (fun _ => xrecheck b0 ts h k rs) (fun _ => xavOk b0 r ts (fun _ => xstep X r.o.op ts h fun v _ _ => match r.o.dst with
      | some d => getT ts d fun u => reqB (caEq v u) (xrecheck b0 ts h k rs)
      | none => xrecheck b0 ts h k rs))
    | false => xrecheck b0 ts h k rs

mutual
def xcleanV (pg : List Nat) (v : CA) : Bool :=
  match v with
  | .agg cs => xcleanL pg cs
  | .tuple cs => xcleanL pg cs
  | .fn _ us cs => match xcleanL pg us with
    | true => xcleanL pg cs
    | false => false
  | .ptr m _ => cleanN m pg
  | .aptr m _ _ _ => cleanN m pg
  | .msl m _ _ _ _ => cleanN m pg
  | .vsl m _ _ => cleanN m pg
  | .map m => cleanN m pg
  | .yl m => cleanN m pg
  | _ => true
def xcleanL (pg : List Nat) (vs : List CA) : Bool :=
  match vs with
  | [] => true
  | v :: l => match xcleanV pg v with
    | true => xcleanL pg l
    | false => false
end

def xcleanT (pg : List Nat) (ts : TS) (l : List Nat) (k : Unit → Bool) : Bool :=
  match l with
  | [] => k ()
  | t :: l => getT ts t fun v => reqB (xcleanV pg v) (xcleanT pg ts l k)

def xcalmF (pg : List Nat) (ts : TS) (F : List DOper) (k : Unit → Bool) : Bool :=
  match F with
  | [] => k ()
  | r :: rs => xcleanT pg ts r.o.uses fun _ => xcleanT pg ts (dstL r.o) fun _ => xcalmF pg ts rs k

def xD (b0 : Nat) (F : List DOper) (d : DOper) (ts : TS) (h : CH) (mv : List Nat) (k : TS → CH → List Nat → Bool) : Bool :=
  match d.o.op.kl with
  | .a => fN (Nat.add b0 d.slot) fun s => xstepA s d.o.op ts fun v o => h.set s o fun h => xputD d.o.dst v ts fun ts => k ts h mv
  | .m => xavOk b0 d ts (fun _ => xstep X d.o.op ts h fun v h pg => match pg with
    | [] => xputD d.o.dst v ts fun ts => xrecheck X b0 ts h (fun _ => k ts h mv) (apart d F)
    | p :: pg => match d.alone with
      | true => xpurge (p :: pg) ts fun ts => addMv base (p :: pg) mv fun mv => xputD d.o.dst v ts fun ts => k ts h mv
      | false => reqB (allLt b0 (p :: pg)) (xcalmF (p :: pg) ts (apart d F) fun _ => xpurge (p :: pg) ts fun ts => addMv base (p :: pg) mv fun mv => xputD d.o.dst v ts fun ts => xrecheck X b0 ts h (fun _ => k ts h mv) (apart d F)))
  | .r => xavOk b0 d ts (fun _ => xstep X d.o.op ts h fun v _ _ => xputD d.o.dst v ts fun ts => k ts h mv)
  | .i => xstep X d.o.op ts h fun v _ _ => xputD d.o.dst v ts fun ts => k ts h mv
  | .p => xstep X d.o.op ts h fun v _ _ => xputD d.o.dst v ts fun ts => k ts h mv

def xR (b0 : Nat) (F : List DOper) (ds : List DOper) (ts : TS) (h : CH) (mv : List Nat) (k : TS → CH → List Nat → Bool) : Bool :=
  match ds with
  | [] => k ts h mv
  | d :: ds => xguard d.o.guard ts (fun _ => xputD d.o.dst .und ts fun ts => xR b0 (loads d F) ds ts h mv k) (fun _ => xD X base b0 F d ts h mv fun ts h mv => xR b0 (loads d F) ds ts h mv k)

def xroom (n : Nat) (h : CH) (k : CH → Bool) : Bool :=
  match n with
  | .zero => k h
  | .succ n => h.add (.var []) fun _ h => xroom n h k

def xretV (ts : TS) (h : CH) (irs : List IRes) (k : List CA → Bool) : Bool :=
  match irs with
  | [] => k []
  | r :: rs => match r with
    | .t i => getT ts i fun v => xretV ts h rs fun vs => k (v :: vs)
    | .c i ag => getT ts i fun p => xreadP h p ag fun v => xretV ts h rs fun vs => k (v :: vs)

def xmkRes (vs : List CA) : CA :=
  match vs with
  | [] => .tuple []
  | v :: r => match r with
    | [] => v
    | _ => .tuple (v :: r)

def xloopEnd (l : Nat) (ts : TS) (h : CH) (pg mv : List Nat) (k : Lv → TS → CH → List Nat → Bool) : Bool :=
  match isInB l pg with
  | true => xf 131
  | false => h.get l fun
    | .loop s ts0 ps A a b => match s with
      | .ready => h.set l (.loop (.over .normal) ts0 ps A a b) fun h => xpurge pg ts fun ts => addMv base pg mv fun mv => k .normal ts h mv
      | .done lv => match lv with
        | .ret => h.set l (.loop (.over .ret) ts0 ps A a b) fun h => xpurge pg ts fun ts => addMv base pg mv fun mv => k .ret ts h mv
        | .exit i => h.set l (.loop (.over (.exit i)) ts0 ps A a b) fun h => xpurge pg ts fun ts => addMv base pg mv fun mv => k (.exit i) ts h mv
        | .normal => xf 105
      | _ => xf 106
    | _ => xf 107

end

def xthenK (next : TS → CH → List Nat → Bool) (k : Lv → TS → CH → List Nat → Bool) (lv : Lv) (ts : TS) (h : CH) (mv : List Nat) : Bool :=
  match lv with
  | .normal => next ts h mv
  | .exit i => k (.exit i) ts h mv
  | .ret => k .ret ts h mv

def xblockK (id : Nat) (k : Lv → TS → CH → List Nat → Bool) (lv : Lv) (ts : TS) (h : CH) (mv : List Nat) : Bool :=
  match lv with
  | .normal => k .normal ts h mv
  | .exit i => (match Nat.beq i id with
    | true => k .normal ts h mv
    | false => k (.exit i) ts h mv)
  | .ret => k .ret ts h mv

def xrange (X : XS) (base : Nat) (f : IOpd) (ps : List Nat) (a b : ICode) (A : Ann) (top : Bool) (k : Lv → TS → CH → List Nat → Bool) (ts : TS) (h : CH) (mv : List Nat) : Bool :=
  reqB top (xopd ts f fun v => match v with
    | .fn g first cap => h.add (.loop .ready ts ps A a b) fun n0 h1 => appK [.yl n0] cap fun r => appK first r fun vs => xnormL vs fun vs =>
        X.call g vs h1 fun pg _ h2 => xloopEnd base n0 ts h2 pg mv k
    | _ => xf 108)

abbrev XC := XS → Nat → Ann → Bool → (Lv → TS → CH → List Nat → Bool) → TS → CH → List Nat → Bool

def xcode (X : XS) (base : Nat) (A : Ann) (top : Bool) (c : ICode) (k : Lv → TS → CH → List Nat → Bool) (ts : TS) (h : CH) (mv : List Nat) : Bool :=
  @ICode.rec (fun _ => XC)
    (fun _ _ _ _ k ts h mv => k .normal ts h mv)
    (fun l X base _ _ k ts h mv => xops X base l ts h mv (k .normal))
    (fun n l X base _ _ k ts h mv => h.num fun n0 => xroom n h fun h' => xR X base n0 [] l ts h' mv (k .normal))
    (fun _ _ ia ib X base A top k ts h mv => ia X base A top (xthenK (ib X base A top k) k) ts h mv)
    (fun c _ _ ia ib X base A top k ts h mv => xopd ts c fun v => xbval v fun x => @Bool.rec (fun _ => Bool) (ib X base A top k ts h mv) (ia X base A top k ts h mv) x)
    (fun id _ ic X base A top k ts h mv => ic X base A top (xblockK id k) ts h mv)
    (fun c _ X base A top k ts h mv => X.loop A base top c k ts h mv)
    (fun f ps a b _ _ X base A top k ts h mv => xrange X base f ps a b A top k ts h mv)
    (fun id _ _ _ _ k ts h mv => k (.exit id) ts h mv)
    (fun _ ic X base A top k ts h mv => reqB top (ic X base A top k ts h mv))
    (fun _ _ _ _ _ k ts h mv => k .normal ts h mv)
    (fun _ _ _ _ k ts h mv => k .ret ts h mv)
    c X base A top k ts h mv

/-- The arguments laid into the temporaries. -/
def fillT (args : List CA) (i : Nat) (ts : TS) (k : TS → Bool) : Bool :=
  match args with
  | [] => k ts
  | v :: l => setT ts i v fun ts => fillT l (Nat.succ i) ts k

def xinit (n : Nat) (args : List CA) (k : TS → Bool) : Bool := fillT args .zero (mkT .und n n) k

def xset (ps : List Nat) (args : List CA) (ts : TS) (k : TS → Bool) : Bool :=
  match ps with
  | [] => match args with
    | [] => k ts
    | _ :: _ => xf 109
  | p :: ps => match args with
    | [] => xf 110
    | v :: args => setT ts p v fun ts => xset ps args ts k

def flatK (vs : List CA) (k : Unit → Bool) : Bool :=
  match vs with
  | [] => k ()
  | v :: r => match v with
    | .d (.int ..) => flatK r k
    | .d (.bool _) => flatK r k
    | .d (.str _) => flatK r k
    | _ => xf 130

def xownK (own : Bool) (k : CA → Bool) (vs : List CA) : Bool :=
  match own with
  | true => flatK vs (fun _ => k (xmkRes vs))
  | false => k (xmkRes vs)

def xpureEnd (irs : List IRes) (own : Bool) (k : CA → Bool) (lv : Lv) (ts : TS) (h : CH) (_ : List Nat) : Bool :=
  match lv with
  | .exit _ => xf 124
  | _ => xretV ts h irs fun vs => xfreezeL h vs fun vs _ => freesK vs (fun _ => xownK own k vs)

def xpcall (T : XT) (X : XS) (own : Bool) (f : FuncId) (args : List CA) (k : CA → Bool) : Bool :=
  T.find f fun fn => xinit fn.n args fun ts => xcode X .zero fn.A true fn.ic (xpureEnd fn.irs own k) ts ⟨.zero, .leaf⟩ []

def xcallEnd (irs : List IRes) (k : List Nat → CA → CH → Bool) (lv : Lv) (ts : TS) (h : CH) (mv : List Nat) : Bool :=
  match lv with
  | .exit _ => xf 125
  | _ => xretV ts h irs fun vs => k mv (xmkRes vs) h

def xrcall (T : XT) (X : XS) (f : FuncId) (args : List CA) (h : CH) (k : List Nat → CA → CH → Bool) : Bool :=
  T.find f fun fn => xinit fn.n args fun ts => h.num fun n0 => xcode X n0 fn.A true fn.ic (xcallEnd fn.irs k) ts h []

def xroundEnd (l : Nat) (k : List Nat → CA → CH → Bool) (lv : Lv) (_ : TS) (h : CH) (mv : List Nat) : Bool :=
  match isInB l mv with
  | true => xf 133
  | false => h.get l fun
    | .loop .busy ts0 ps0 A0 a0 b0 => match lv with
      | .normal => h.set l (.loop .ready ts0 ps0 A0 a0 b0) fun h => k mv (.d (.bool true)) h
      | .ret => h.set l (.loop (.done .ret) ts0 ps0 A0 a0 b0) fun h => k mv (.d (.bool false)) h
      | .exit i => h.set l (.loop (.done (.exit i)) ts0 ps0 A0 a0 b0) fun h => k mv (.d (.bool false)) h
    | _ => xf 126

def xassignEnd (X : XS) (base : Nat) (l : Nat) (A : Ann) (b : ICode) (k : List Nat → CA → CH → Bool) (lv : Lv) (ts : TS) (h : CH) (mv : List Nat) : Bool :=
  match lv with
  | .normal => (match isInB l mv with
    | true => xf 132
    | false => h.get l fun
      | .loop .ready ts0 ps0 A0 a0 b0 => h.set l (.loop .busy ts0 ps0 A0 a0 b0) fun h => xcode X base A false b (xroundEnd l k) ts h mv
      | _ => xf 127)
  | _ => xf 128

def xyld (X : XS) (l : Nat) (args : List CA) (h : CH) (k : List Nat → CA → CH → Bool) : Bool :=
  h.get l fun
    | .loop .ready ts ps A a b => xset ps args ts fun ts => h.num fun n0 => xcode X n0 A false a (xassignEnd X n0 l A b k) ts h []
    | _ => xf 129

def xloopK (X : XS) (A : Ann) (base : Nat) (top : Bool) (c : ICode) (k : Lv → TS → CH → List Nat → Bool) (lv : Lv) (ts : TS) (h : CH) (mv : List Nat) : Bool :=
  match lv with
  | .normal => X.loop A base top c k ts h mv
  | .exit i => k (.exit i) ts h mv
  | .ret => k .ret ts h mv

def xloop (X : XS) (A : Ann) (base : Nat) (top : Bool) (c : ICode) (k : Lv → TS → CH → List Nat → Bool) (ts : TS) (h : CH) (mv : List Nat) : Bool :=
  xcode X base A top c (xloopK X A base top c k) ts h mv

/-- With one more unit of fuel. -/
def XSs (T : XT) (X : XS) : XS := ⟨xpcall T X, xrcall T X, xyld X, xloop X⟩

def XS0 : XS := ⟨fun _ _ _ _ => xf 120, fun _ _ _ _ => xf 121, fun _ _ _ _ => xf 122, fun _ _ _ _ _ _ _ _ => xf 123⟩

/-- With so much fuel. -/
def XSn (T : XT) (n : Nat) : XS := @Nat.rec (fun _ => XS) XS0 (fun _ X => XSs T X) n

end
end Go.Vf
