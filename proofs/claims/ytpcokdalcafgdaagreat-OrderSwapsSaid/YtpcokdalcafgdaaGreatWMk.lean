/- The runner's first text, in the form that the kernel evaluates: concrete values (arrays as lists, temporaries and objects in trees), and how they are computed with. The runner's second text, in the form that the kernel evaluates: code, calls, loops. Conditions: none. -/
import Derived.Test.YtpcokdalcafgdaaGreatWMa
namespace Go.Vf
open Go
noncomputable section
inductive CD where
 |int (k:IntKind) (n:IX)
 |bool (b:Bool)
 |str (l:List UInt8)
 |nil
 |sl (sz n:Nat) (rows:List (List CD))
 |raw (v:Value)
inductive CA where
 |d (x:CD)
 |any
 |und
 |agg (cs:List CA)
 |tuple (vs:List CA)
 |ptr (l off:Nat)
 |aptr (l sz i off:Nat)
 |dptr (row:List CD) (off:Nat)
 |dfs (sz n:Nat) (rows:List (List CD))
 |msl (l sz:Nat) (start:Option Nat) (len:Nat) (full:Bool)
 |vsl (l off n:Nat)
 |map (l:Nat)
 |fn (f:FuncId) (first cap:List CA)
 |ge (m:Nat)
 |yl (l:Nat)
inductive BT (α:Type) where
 |leaf
 |node (v:α) (l r:BT α)
inductive b6d where
 |var (cs:List CA)
 |arr (sz n:Nat) (rows:List (List CD))
 |frz (sz n:Nat) (rows:List (List CD))
 |map (wide:Bool) (ks:List IntKind) (n:Nat) (es:List (List KC×Int))
 |loop (s:LSt) (ts:BT CA) (ps:List Nat) (A:Ann) (a b:a2d)
abbrev TS:=BT CA
structure CH where
 n:Nat
 t:BT b6d
def xf (_:Nat):Bool:=false
def fN (n:Nat)(k:Nat->Bool):Bool:=
 @Nat.rec (fun _=>(Nat->Bool)->Bool) (fun k=>k .zero) (fun m _ k=>k (.succ m)) n k
def fI (n:Int)(k:Int->Bool):Bool:=
 match n with
 | .ofNat m=>fN m fun m=>k (.ofNat m)
 | .negSucc m=>fN m fun m=>k (.negSucc m)
def fB (b:Bool)(k:Bool->Bool):Bool:=
 match b with
 |true=>k true
 |false=>k false
def xlt:Int->Int->Bool
 | .ofNat a,.ofNat b=>Nat.blt a b
 | .ofNat _,.negSucc _=>false
 | .negSucc _,.ofNat _=>true
 | .negSucc a,.negSucc b=>Nat.blt b a
def xle (a b:Int):Bool:=Bool.not (xlt b a)
def xeq:Int->Int->Bool
 | .ofNat a,.ofNat b=>Nat.beq a b
 | .negSucc a,.negSucc b=>Nat.beq a b
 |_,_=>false
def kEq (a b:IntKind):Bool:=Nat.beq a.ctorIdx b.ctorIdx
def e2u (k:IntKind)(x:Int):Bool:=
 match k with
 | .i64=>match x with
   | .ofNat n=>Nat.blt n 9223372036854775808
   | .negSucc n=>Nat.blt n 9223372036854775808
 |k=>xeq (k.wrap x) x
section
variable {α:Type}
def e4y (k:α->Bool)(l:List α)(i:Nat):Bool:=
 @List.rec α (fun _=>(α->Bool)->Nat->Bool) (fun _ _=>xf 1) (fun x _ ih k i=> @Nat.rec (fun _=>Bool) (k x) (fun i _=>ih k i) i) l k i
def d7y (t:BT α)(i:Nat)(k:α->Bool):Bool:=
 @BT.rec α (fun _=>Nat->(α->Bool)->Bool) (fun _ _=>xf 1)
   (fun v _ _ il ir i k=> @Nat.rec (fun _=>Bool) (k v) (fun j _=> @Nat.rec (fun _=>Bool) (il (Nat.div j 2) k) (fun _ _=>ir (Nat.div j 2) k) (Nat.mod j 2)) i) t i k
def e4o (t:BT α)(i:Nat)(y:α)(k:BT α->Bool):Bool:=
 @BT.rec α (fun _=>Nat->α->(BT α->Bool)->Bool) (fun _ _ _=>xf 2)
   (fun v l r il ir i y k=> @Nat.rec (fun _=>Bool) (k (.node y l r)) (fun j _=> @Nat.rec (fun _=>Bool) (il (Nat.div j 2) y fun l'=>k (.node v l' r)) (fun _ _=>ir (Nat.div j 2) y fun r'=>k (.node v l r')) (Nat.mod j 2)) i) t i y k
def d9t (t:BT α)(i:Nat)(y:α)(k:BT α->Bool):Bool:=
 @BT.rec α (fun _=>Nat->α->(BT α->Bool)->Bool) (fun i y k=> @Nat.rec (fun _=>Bool) (k (.node y .leaf .leaf)) (fun _ _=>xf 2) i)
   (fun v l r il ir i y k=> @Nat.rec (fun _=>Bool) (xf 2) (fun j _=> @Nat.rec (fun _=>Bool) (il (Nat.div j 2) y fun l'=>k (.node v l' r)) (fun _ _=>ir (Nat.div j 2) y fun r'=>k (.node v l r')) (Nat.mod j 2)) i) t i y k
def mkT (x:α)(d n:Nat):BT α:=
 @Nat.rec (fun _=>α->Nat->BT α) (fun _ _=> .leaf) (fun _ ih x n=> @Nat.rec (fun _=>BT α) .leaf (fun j _=> .node x (ih x (Nat.div (Nat.succ j) 2)) (ih x (Nat.div j 2))) n) d x n
def f6w (l:List α)(i:Nat)(y:α)(k:List α->Bool):Bool:=
 @List.rec α (fun _=>Nat->α->(List α->Bool)->Bool) (fun _ _ _=>xf 2) (fun x l ih i y k=> @Nat.rec (fun _=>Bool) (k (y::l)) (fun i _=>ih i y fun l=>k (x::l)) i) l i y k
def f3t (l:List α)(i n:Nat)(k:List α->Bool):Bool:=
 @List.rec α (fun _=>Nat->Nat->(List α->Bool)->Bool)
   (fun i n k=> @Nat.rec (fun _=>Bool) (@Nat.rec (fun _=>Bool) (k []) (fun _ _=>xf 3) n) (fun _ _=>xf 3) i)
   (fun x _ ih i n k=> @Nat.rec (fun _=>Bool) (@Nat.rec (fun _=>Bool) (k []) (fun n _=>ih .zero n fun r=>k (x::r)) n) (fun i _=>ih i n k) i) l i n k
def e9y (l:List α)(i:Nat)(new:List α)(k:List α->Bool):Bool:=
 @List.rec α (fun _=>Nat->List α->(List α->Bool)->Bool)
   (fun i new k=> @Nat.rec (fun _=>Bool) (@List.rec α (fun _=>Bool) (k []) (fun _ _ _=>xf 4) new) (fun _ _=>xf 4) i)
   (fun x l ih i new k=> @Nat.rec (fun _=>Bool) (@List.rec α (fun _=>Bool) (k (x::l)) (fun y new _=>ih .zero new fun r=>k (y::r)) new) (fun i _=>ih i new fun r=>k (x::r)) i) l i new k
def f1h (l m:List α)(k:List α->Bool):Bool:=
 @List.rec α (fun _=>List α->(List α->Bool)->Bool) (fun m k=>k m) (fun x _ ih m k=>ih m fun r=>k (x::r)) l m k
def b3w (l:List α)(n:Nat)(m:List α)(k:List α->Bool):Bool:=
 @List.rec α (fun _=>Nat->List α->(List α->Bool)->Bool) (fun n m k=> @Nat.rec (fun _=>Bool) (k m) (fun _ _=>xf 5) n)
   (fun x _ ih n m k=> @Nat.rec (fun _=>Bool) (k m) (fun n _=>ih n m fun r=>k (x::r)) n) l n m k
def c6f (l:List α)(n:Nat)(k:List α->Bool):Bool:=
 match n with
 | .zero=>k l
 | .succ n=>match l with
   |[]=>k []
   |_::l=>c6f l n k
def d1x (l:List α)(i m:Nat)(new:List α)(k:List α->Bool):Bool:=
 match l with
 |[]=>match i with
  | .zero=>match m with
    | .zero=>k []
    | .succ _=>xf 6
  | .succ _=>xf 6
 |x::l=>match i with
  | .zero=>match m with
    | .zero=>k (x::l)
    | .succ m=>match new with
      |[]=>xf 6
      |y::new=>d1x l .zero m new fun r=>k (y::r)
  | .succ i=>d1x l i m new fun r=>k (x::r)
def f3v (x:α)(n:Nat)(k:List α->Bool):Bool:=
 @Nat.rec (fun _=>α->(List α->Bool)->Bool) (fun _ k=>k []) (fun _ ih x k=>ih x fun r=>k (x::r)) n x k
def f2n (l:List α)(n:Nat)(k:Nat->Bool):Bool:=
 @List.rec α (fun _=>Nat->(Nat->Bool)->Bool) (fun n k=>k n) (fun _ _ ih n k=>ih (.succ n) k) l n k
end
mutual
def cdK (x:DV)(k:CD->Bool):Bool:=
 match x with
 | .int kd n=>k (.int kd n)
 | .bool b=>k (.bool b)
 | .str l=>k (.str l)
 | .nil=>k .nil
 | .raw v=>k (.raw v)
 | .sl .. =>xf 7
def d5y (l:List DV)(k:List CD->Bool):Bool:=
 match l with
 |[]=>k []
 |x::l=>cdK x fun x=>d5y l fun l=>k (x::l)
end
def f2d (l:List AV)(k:List CA->Bool):Bool:=
 match l with
 |[]=>k []
 |x::l=>match x with
  | .d x=>cdK x fun x=>f2d l fun l=>k (.d x::l)
  |_=>xf 8
def caK (x:AV)(k:CA->Bool):Bool:=
 match x with
 | .d x=>cdK x fun x=>k (.d x)
 | .agg cs=>f2d cs fun cs=>k (.agg cs)
 | .fn f [] []=>k (.fn f [] [])
 |_=>xf 9
def a2z (ts:TS)(o:a0o)(k:CA->Bool):Bool:=
 @a0o.rec (fun _=>TS->(CA->Bool)->Bool) (fun i ts k=>d7y ts i k) (fun v _ k=>caK v k) o ts k
def d0k (ts:TS)(l:List a0o)(k:List CA->Bool):Bool:=
 @List.rec a0o (fun _=>TS->(List CA->Bool)->Bool) (fun _ k=>k []) (fun x _ ih ts k=>a2z ts x fun x=>ih ts fun l=>k (x::l)) l ts k
def CA.cells:CA->List CA
 | .agg cs=>cs
 |v=>[v]
def dL (l:List CD)(k:List CA->Bool):Bool:=
 @List.rec CD (fun _=>(List CA->Bool)->Bool) (fun k=>k []) (fun x _ ih k=>ih fun l=>k (.d x::l)) l k
def CH.get (h:CH)(l:Nat)(k:b6d->Bool):Bool:=
 @CH.rec (fun _=>Nat->(b6d->Bool)->Bool) (fun _ t l k=>d7y t l k) h l k
def CH.set (h:CH)(l:Nat)(o:b6d)(k:CH->Bool):Bool:=
 @CH.rec (fun _=>Nat->b6d->(CH->Bool)->Bool) (fun n t l o k=>e4o t l o fun t=>k ⟨n,t⟩) h l o k
def CH.num (h:CH)(k:Nat->Bool):Bool:=
 @CH.rec (fun _=>(Nat->Bool)->Bool) (fun n _ k=>k n) h k
def CH.add (h:CH)(o:b6d)(k:Nat->CH->Bool):Bool:=
 @CH.rec (fun _=>b6d->(Nat->CH->Bool)->Bool) (fun n t o k=>d9t t n o fun t=>fN (Nat.succ n) fun m=>k n ⟨m,t⟩) h o k
def CA.one:CA->Bool
 | .und=>false
 | .any=>false
 | .agg _=>false
 | .tuple _=>false
 |_=>true
def c1w (vs:List CA)(k:Unit->Bool):Bool:=
 @List.rec CA (fun _=>(Unit->Bool)->Bool) (fun k=>k ()) (fun v _ ih k=> @Bool.rec (fun _=>Bool) (xf 12) (ih k) v.one) vs k
def e1x (s:Option Nat)(n:Nat)(k:Nat->Bool):Bool:=
 match s with
 |none=>k n
 |some s=>fN (Nat.add s n) k
def a1n (c:Bool)(k:Bool):Bool:=
 @Bool.rec (fun _=>Bool->Bool) (fun _=>xf 13) (fun k=>k) c k
def e6z (rows:List (List CD))(s:Option Nat)(k:List (List CD)->Bool):Bool:=
 match s with
 |none=>k rows
 |some s=>c6f rows s k
def d1n (h:CH)(v:CA)(k:Nat->Nat->List (List CD)->Bool):Bool:=
 match v with
 | .d (.sl sz n e)=>k sz n e
 | .dfs sz n e=>k sz n e
 | .msl l sz s n _=>h.get l fun
   | .arr sz' m e=>a1n (Nat.beq sz sz') (e1x s n fun sn=>a1n (Nat.ble sn m) (e6z e s fun e=>k sz n e))
   | .frz sz' m e=>a1n (Nat.beq sz sz') (e1x s n fun sn=>a1n (Nat.ble sn m) (e6z e s fun e=>k sz n e))
   |_=>xf 14
 |_=>xf 15
def onD (v:CA)(k:CD->Bool):Bool:=
 match v with
 | .d x=>k x
 |_=>xf 16
def f2j (l:List CA)(k:List CD->Bool):Bool:=
 @List.rec CA (fun _=>(List CD->Bool)->Bool) (fun k=>k []) (fun x _ ih k=>onD x fun x=>ih fun l=>k (x::l)) l k
def e0j (l:List CD)(k:List (List CD)->Bool):Bool:=
 match l with
 |[]=>k []
 |x::l=>e0j l fun l=>k ([x]::l)
def e2n (h:CH)(v:CA)(k:CA->Bool):Bool:=
 match v with
 | .vsl l off n=>h.get l fun
   | .var cs=>f3t cs off n fun c=>f2j c fun ds=>e0j ds fun rs=>k (.d (.sl 1 n rs))
   |_=>xf 17
 | .msl l sz s n f=>d1n h (.msl l sz s n f) fun sz n e=>k (.d (.sl sz n e))
 | .dfs sz n e=>k (.d (.sl sz n e))
 |v=>k v
def c2n (h:CH)(vs:List CA)(k:List CA->Bool):Bool:=
 match vs with
 |[]=>k []
 |v::r=>e2n h v fun v=>c2n h r fun r=>k (v::r)
def b7w (h:CH)(vs:List CA)(k:List CA->Bool):Bool:=
 match vs with
 |[]=>k []
 |v::r=>match v with
  | .agg cs=>c2n h cs fun cs=>b7w h r fun r=>k (.agg cs::r)
  |v=>e2n h v fun v=>b7w h r fun r=>k (v::r)
def b8v (h:CH)(v:CA)(k:CA->CH->Bool):Bool:=
 match v with
 | .msl l sz s n f=>d1n h (.msl l sz s n f) fun sz n e=>h.get l fun
   | .arr sz' m e'=>h.set l (.frz sz' m e') fun h=>k (.d (.sl sz n e)) h
   |_=>k (.d (.sl sz n e)) h
 | .dfs sz n e=>k (.d (.sl sz n e)) h
 |v=>k v h
def a7k (h:CH)(vs:List CA)(k:List CA->CH->Bool):Bool:=
 match vs with
 |[]=>k [] h
 |v::r=>b8v h v fun v h=>a7k h r fun r h=>k (v::r) h
def a6a (h:CH)(vs:List CA)(k:List CA->CH->Bool):Bool:=
 match vs with
 |[]=>k [] h
 |v::r=>match v with
  | .agg cs=>a7k h cs fun cs h=>a6a h r fun r h=>k (.agg cs::r) h
  |v=>b8v h v fun v h=>a6a h r fun r h=>k (v::r) h
def c5m (h:CH)(v:CA)(k:List CD->CH->Bool):Bool:=
 a7k h v.cells fun cs h=>f2j cs fun l=>k l h
def b2f (op:BinOp)(kd:IntKind)(x y:IX)(k:CD->Bool):Bool:=
 match op with
 | .add=>match x,y with
   | .l a,.l b=>fI (Int.add a b) fun c=>a1n (e2u kd c) (k (.int kd (.l c)))
   |x,y=>fI (Int.add x.val y.val) fun c=>a1n (e2u kd c) (k (.int kd (.v c)))
 | .sub=>match x,y with
   | .l a,.l b=>fI (Int.sub a b) fun c=>a1n (e2u kd c) (k (.int kd (.l c)))
   |x,y=>fI (Int.sub x.val y.val) fun c=>a1n (e2u kd c) (k (.int kd (.v c)))
 | .mul=>fI (Int.mul x.val y.val) fun c=>a1n (e2u kd c) (k (.int kd (.v c)))
 | .quo=>a1n (Bool.not (xeq y.val (.ofNat .zero))) (fI (Int.tdiv x.val y.val) fun c=>a1n (e2u kd c) (k (.int kd (.v c))))
 | .rem=>a1n (Bool.not (xeq y.val (.ofNat .zero))) (fI (Int.tmod x.val y.val) fun c=>k (.int kd (.v c)))
 | .eql=>fB (xeq x.val y.val) fun b=>k (.bool b)
 | .neq=>fB (xeq x.val y.val) fun b=>match b with
   |true=>k (.bool false)
   |false=>k (.bool true)
 | .lss=>fB (xlt x.val y.val) fun b=>k (.bool b)
 | .gtr=>fB (xlt y.val x.val) fun b=>k (.bool b)
 | .leq=>fB (xle x.val y.val) fun b=>k (.bool b)
 | .geq=>fB (xle y.val x.val) fun b=>k (.bool b)
 |_=>xf 18
def f2z (ks:List IntKind)(xs ys:List CA)(k:Bool->Bool):Bool:=
 match ks with
 |[]=>match xs with
  |[]=>match ys with
   |[]=>k true
   |_=>xf 19
  |_=>xf 19
 |kd::ks=>match xs with
  | .d (.int k1 x)::xs=>match ys with
    | .d (.int k2 y)::ys=>a1n (kEq kd k1) (a1n (kEq kd k2) (f2z ks xs ys fun b=>match xeq x.val y.val with
      |true=>k b
      |false=>k false))
    |_=>xf 19
  |_=>xf 19
def b2g (ks:List IntKind)(xs:List CA)(k:List KC->Bool):Bool:=
 match ks with
 |[]=>match xs with
  |[]=>k []
  |_=>xf 20
 |kd::ks=>match xs with
  | .d (.int kd' x)::xs=>a1n (kEq kd kd') (a1n (e2u kd x.val) (b2g ks xs fun l=>k (.i x.val::l)))
  |_=>xf 20
def c1a (wide:Bool)(ks:List IntKind)(v:CA)(k:List KC->Bool):Bool:=
 match v with
 | .agg cs=>match wide with
   |true=>b2g ks cs k
   |false=>xf 21
 |v=>match wide with
  |true=>xf 21
  |false=>b2g ks [v] k
def f2t:List IntKind->List IntKind->Bool
 |[],[]=>true
 |a::l,b::m=>match kEq a b with
  |true=>f2t l m
  |false=>false
 |_,_=>false
def c2r:List UInt8->List UInt8->Bool
 |[],[]=>true
 |a::l,b::m=>match Nat.beq a.toNat b.toNat with
  |true=>c2r l m
  |false=>false
 |_,_=>false
def bEq (a b:Bool):Bool:=
 match a with
 |true=>b
 |false=>Bool.not b
def e8u:KC->KC->Bool
 | .i a,.i b=>xeq a b
 | .o a,.o b=>bEq a b
 | .s a,.s b=>c2r a b
 |_,_=>false
def e9b:List KC->List KC->Bool
 |[],[]=>true
 |a::l,b::m=>match e8u a b with
  |true=>e9b l m
  |false=>false
 |_,_=>false
def d4l (es:List (List KC×Int))(kc:List KC)(k:Option Int->Bool):Bool:=
 match es with
 |[]=>k none
 |e::es=>match e with
  |(k',v)=>match e9b kc k' with
   |true=>k (some v)
   |false=>d4l es kc k
def b4y (v:CA)(k:IX->Bool):Bool:=
 match v with
 | .d (.int .i64 n)=>k n
 |_=>xf 22
def c4y (v:CA)(k:Bool->Bool):Bool:=
 match v with
 | .d (.bool b)=>k b
 |_=>xf 23
def c8f (n:IX)(k:Nat->Bool):Bool:=
 match n.val with
 | .ofNat m=>k m
 | .negSucc _=>k .zero
def c8k (ts:TS)(cs:List CA)(ps:List (Nat×Nat×a0o))(k:List CA->Bool):Bool:=
 match ps with
 |[]=>k cs
 |p::r=>match p with
  |(off,sz,x)=>a2z ts x fun v=>f2n v.cells .zero fun n=>a1n (Nat.beq n sz) (c1w v.cells (fun _=>e9y cs off v.cells fun cs=>c8k ts cs r k))
def c9o (ts:TS)(sz:Nat)(rs:List (List CA))(ps:List (Nat×a0o))(k:List (List CA)->Bool):Bool:=
 match ps with
 |[]=>k rs
 |p::r=>match p with
  |(i,x)=>a2z ts x fun v=>f2n v.cells .zero fun n=>a1n (Nat.beq n sz) (c1w v.cells (fun _=>f6w rs i v.cells fun rs=>c9o ts sz rs r k))
def b0y (h:CH)(rs:List (List CA))(k:List (List CD)->CH->Bool):Bool:=
 match rs with
 |[]=>k [] h
 |r::rs=>a7k h r fun cs h=>f2j cs fun l=>b0y h rs fun ls h=>k (l::ls) h
def c7b (row:List CD)(off:Nat)(agg:Option Nat)(k:CA->Bool):Bool:=
 match agg with
 |none=>e4y (fun v=>k (.d v)) row off
 |some m=>f3t row off m fun c=>dL c fun c=>k (.agg c)
def e8w (rows:List (List CD))(i:Nat)(k:List CD->Bool):Bool:=e4y k rows i
def c8z (h:CH)(p:CA)(agg:Option Nat)(k:CA->Bool):Bool:=
 match p with
 | .ptr l off=>h.get l fun
   | .var cs=>match agg with
     |none=>e4y k cs off
     |some n=>f3t cs off n fun c=>k (.agg c)
   |_=>xf 24
 | .aptr l sz i off=>h.get l fun
   | .arr sz' n e=>a1n (Nat.beq sz sz') (a1n (Nat.blt i n) (e8w e i fun r=>c7b r off agg k))
   | .frz sz' n e=>a1n (Nat.beq sz sz') (a1n (Nat.blt i n) (e8w e i fun r=>c7b r off agg k))
   |_=>xf 25
 | .dptr row off=>c7b row off agg k
 |_=>xf 26
def c6x (h:CH)(p v:CA)(sz:Nat)(k:CH->Bool):Bool:=
 match p with
 | .ptr l off=>f2n v.cells .zero fun n=>a1n (Nat.beq n sz) (c1w v.cells (fun _=>h.get l fun
   | .var cs=>e9y cs off v.cells fun cs=>h.set l (.var cs) k
   |_=>xf 27))
 | .aptr l sz' i off=>f2n v.cells .zero fun n=>a1n (Nat.beq n sz) (c1w v.cells (fun _=>c5m h v fun new h=>h.get l fun
   | .arr sz'' n e=>a1n (Nat.beq sz' sz'') (a1n (Nat.blt i n) (e8w e i fun r=>e9y r off new fun r=>f6w e i r fun e=>h.set l (.arr sz'' n e) k))
   |_=>xf 28))
 |_=>xf 29
def CA.free:CA->Bool
 | .d _=>true
 | .dfs .. =>true
 | .dptr .. =>true
 | .fn _ [] []=>true
 |_=>false
def d0e (vs:List CA)(k:Unit->Bool):Bool:=
 match vs with
 |[]=>k ()
 |v::l=>match v.free with
  |true=>d0e l k
  |false=>xf 30
def b1a (vs:List CA)(k:Unit->Bool):Bool:=
 match vs with
 |[]=>k ()
 |v::l=>match v with
  | .agg cs=>d0e cs fun _=>b1a l k
  |v=>match v.free with
   |true=>b1a l k
   |false=>xf 31
def CA.isPtr:CA->Bool
 | .ptr .. =>true
 | .aptr .. =>true
 | .dptr .. =>true
 |_=>false
def c8m (ts:TS)(x:Option a0o)(d:IX)(k:IX->Bool):Bool:=
 match x with
 |none=>k d
 |some o=>a2z ts o fun v=>b4y v k
def b0b (s:Option Nat)(lo:IX)(k:Option Nat->Bool):Bool:=
 match lo with
 | .l n=>match n with
   | .ofNat m=>match m with
     | .zero=>k s
     | .succ m=>match s with
       |none=>k (some (.succ m))
       |some t=>fN (Nat.add t (.succ m)) fun t=>k (some t)
   | .negSucc _=>xf 32
 | .v n=>c8f (.v n) fun m=>match s with
   |none=>k (some m)
   |some t=>fN (Nat.add t m) fun t=>k (some t)
def b1v (ts:TS)(sz:Nat)(x:CA)(lo hi mx:Option a0o)(k:CA->Bool):Bool:=
 match x with
 | .msl l sz' s n f=>a1n (Nat.beq sz sz') (c8m ts lo (.l (.ofNat .zero)) fun lo=>c8m ts hi (.v (.ofNat n)) fun hi=>
    a1n (xle (.ofNat .zero) lo.val) (a1n (xle lo.val hi.val) (a1n (xle hi.val (.ofNat n)) (
     c8f hi fun hin=>c8f lo fun lon=>fN (Nat.sub hin lon) fun len=>match mx with
      |none=>match f with
       |true=>a1n (xeq hi.val (.ofNat n)) (b0b s lo fun s=>k (.msl l sz s len true))
       |false=>b0b s lo fun s=>k (.msl l sz s len false)
      |some m=>a2z ts m fun v=>b4y v fun m=>a1n (xeq m.val hi.val) (b0b s lo fun s=>k (.msl l sz s len true))))))
 | .d (.sl sz' n e)=>a1n (Nat.beq sz sz') (c8m ts lo (.l (.ofNat .zero)) fun lo=>c8m ts hi (.v (.ofNat n)) fun hi=>
    a1n (xle (.ofNat .zero) lo.val) (a1n (xle lo.val hi.val) (a1n (xle hi.val (.ofNat n)) (
     c8f hi fun hin=>c8f lo fun lon=>fN (Nat.sub hin lon) fun len=>c6f e lon fun e=>match mx with
      |none=>k (.d (.sl sz len e))
      |some m=>a2z ts m fun v=>b4y v fun m=>a1n (xeq m.val hi.val) (k (.dfs sz len e))))))
 | .d .nil=>c8m ts lo (.l (.ofNat .zero)) fun lo=>c8m ts hi (.l (.ofNat .zero)) fun hi=>a1n (xeq lo.val (.ofNat .zero)) (a1n (xeq hi.val (.ofNat .zero)) (match mx with
    |none=>k (.d .nil)
    |some m=>a2z ts m fun v=>b4y v fun m=>a1n (xeq m.val (.ofNat .zero)) (k (.d .nil))))
 |_=>xf 33
def f2s (i:IX)(n:Nat)(k:Nat->Bool):Bool:=
 match i.val with
 | .ofNat m=>a1n (Nat.blt m n) (k m)
 | .negSucc _=>xf 34
def b1z (sz:Nat)(x:CA)(i:IX)(k:CA->Bool):Bool:=
 match x with
 | .msl l sz' s n _=>a1n (Nat.beq sz sz') (f2s i n fun j=>e1x s j fun j=>k (.aptr l sz j .zero))
 | .d (.sl sz' n e)=>a1n (Nat.beq sz sz') (f2s i n fun j=>e8w e j fun r=>k (.dptr r .zero))
 | .dfs sz' n e=>a1n (Nat.beq sz sz') (f2s i n fun j=>e8w e j fun r=>k (.dptr r .zero))
 |_=>xf 35
def c3p (sz:Nat)(h:CH)(v:CA)(k:Nat->Nat->List (List CD)->Bool):Bool:=
 match v with
 | .d .nil=>k sz .zero []
 |v=>d1n h v k
def c7u (l m:Nat)(v:CA)(k:CA->Bool):Bool:=
 @Bool.rec (fun _=>Bool) (k v) (k .any) (Nat.beq l m)
def d7v (l:Nat)(v:CA)(k:CA->Bool):Bool:=
 @CA.rec (fun _=>Nat->(CA->Bool)->Bool) (fun _=>Nat->(List CA->Bool)->Bool)
   (fun x _ k=>k (.d x)) (fun _ k=>k .any) (fun _ k=>k .und) (fun _ ih l k=>ih l fun cs=>k (.agg cs)) (fun _ ih l k=>ih l fun cs=>k (.tuple cs))
   (fun m off l k=>c7u l m (.ptr m off) k) (fun m sz i off l k=>c7u l m (.aptr m sz i off) k) (fun row off _ k=>k (.dptr row off)) (fun sz n e _ k=>k (.dfs sz n e))
   (fun m sz s n f l k=>c7u l m (.msl m sz s n f) k) (fun m off n l k=>c7u l m (.vsl m off n) k) (fun m l k=>c7u l m (.map m) k)
   (fun f _ _ ihu ihc l k=>ihu l fun us=>ihc l fun cs=>k (.fn f us cs)) (fun m _ k=>k (.ge m)) (fun m l k=>c7u l m (.yl m) k)
   (fun _ k=>k []) (fun _ _ ih ihs l k=>ih l fun v=>ihs l fun r=>k (v::r)) v l k
def b3p (l:Nat)(vs:List CA)(k:List CA->Bool):Bool:=
 @CA.rec_1 (fun _=>Nat->(CA->Bool)->Bool) (fun _=>Nat->(List CA->Bool)->Bool)
   (fun x _ k=>k (.d x)) (fun _ k=>k .any) (fun _ k=>k .und) (fun _ ih l k=>ih l fun cs=>k (.agg cs)) (fun _ ih l k=>ih l fun cs=>k (.tuple cs))
   (fun m off l k=>c7u l m (.ptr m off) k) (fun m sz i off l k=>c7u l m (.aptr m sz i off) k) (fun row off _ k=>k (.dptr row off)) (fun sz n e _ k=>k (.dfs sz n e))
   (fun m sz s n f l k=>c7u l m (.msl m sz s n f) k) (fun m off n l k=>c7u l m (.vsl m off n) k) (fun m l k=>c7u l m (.map m) k)
   (fun f _ _ ihu ihc l k=>ihu l fun us=>ihc l fun cs=>k (.fn f us cs)) (fun m _ k=>k (.ge m)) (fun m l k=>c7u l m (.yl m) k)
   (fun _ k=>k []) (fun _ _ ih ihs l k=>ih l fun v=>ihs l fun r=>k (v::r)) vs l k
def a6y (l:Nat)(t:TS)(k:TS->Bool):Bool:=
 @BT.rec CA (fun _=>Nat->(TS->Bool)->Bool) (fun _ k=>k .leaf) (fun v _ _ il ir l k=>d7v l v fun v=>il l fun tl=>ir l fun tr=>k (.node v tl tr)) t l k
def c9s (l:Nat)(o:b6d)(k:b6d->Bool):Bool:=
 match o with
 | .var cs=>b3p l cs fun cs=>k (.var cs)
 | .loop s ts ps A a b=>a6y l ts fun ts=>k (.loop s ts ps A a b)
 |o=>k o
def a2p (l:Nat)(t:BT b6d)(k:BT b6d->Bool):Bool:=
 @BT.rec b6d (fun _=>Nat->(BT b6d->Bool)->Bool) (fun _ k=>k .leaf) (fun v _ _ il ir l k=>c9s l v fun v=>il l fun tl=>ir l fun tr=>k (.node v tl tr)) t l k
def c8p (l:Nat)(h:CH)(k:CH->Bool):Bool:=
 @CH.rec (fun _=>Nat->(CH->Bool)->Bool) (fun n t l k=>a2p l t fun t=>k ⟨n,t⟩) h l k
def a9l (pg:List Nat)(ts:TS)(k:TS->Bool):Bool:=
 match pg with
 |[]=>k ts
 |l::pg=>a6y l ts fun ts=>a9l pg ts k
def c3e (l:Nat):List Nat->Bool
 |[]=>false
 |m::r=>match Nat.beq l m with
  |true=>true
  |false=>c3e l r
def b3o (base:Nat)(pg mv:List Nat)(k:List Nat->Bool):Bool:=
 match pg with
 |[]=>k mv
 |l::pg=>match Nat.blt l base with
  |true=>match c3e l mv with
   |true=>b3o base pg mv k
   |false=>b3o base pg (l::mv) k
  |false=>b3o base pg mv k
def f7t (v:CA)(k:CA->Bool):Bool:=
 @CA.rec (fun _=>(CA->Bool)->Bool) (fun _=>(List CA->Bool)->Bool)
   (fun x k=> @CD.rec (fun _=>(CA->Bool)->Bool) (fun _=>Bool) (fun _=>Bool) (fun kd n k=>k (.d (.int kd (.v n.val)))) (fun b k=>k (.d (.bool b))) (fun l k=>k (.d (.str l))) (fun k=>k (.d .nil)) (fun sz n e _ k=>k (.d (.sl sz n e))) (fun v k=>k (.d (.raw v))) true (fun _ _ _ _=>true) true (fun _ _ _ _=>true) x k)
   (fun k=>k .any) (fun k=>k .und) (fun _ ih k=>ih fun cs=>k (.agg cs)) (fun _ ih k=>ih fun cs=>k (.tuple cs))
   (fun m off k=>k (.ptr m off)) (fun m sz i off k=>k (.aptr m sz i off)) (fun row off k=>k (.dptr row off)) (fun sz n e k=>k (.dfs sz n e))
   (fun m sz s n f k=>k (.msl m sz s n f)) (fun m off n k=>k (.vsl m off n)) (fun m k=>k (.map m))
   (fun f _ _ ihu ihc k=>ihu fun us=>ihc fun cs=>k (.fn f us cs)) (fun m k=>k (.ge m)) (fun m k=>k (.yl m))
   (fun k=>k []) (fun _ _ ih ihs k=>ih fun v=>ihs fun r=>k (v::r)) v k
def b0x (vs:List CA)(k:List CA->Bool):Bool:=
 @CA.rec_1 (fun _=>(CA->Bool)->Bool) (fun _=>(List CA->Bool)->Bool)
   (fun x k=> @CD.rec (fun _=>(CA->Bool)->Bool) (fun _=>Bool) (fun _=>Bool) (fun kd n k=>k (.d (.int kd (.v n.val)))) (fun b k=>k (.d (.bool b))) (fun l k=>k (.d (.str l))) (fun k=>k (.d .nil)) (fun sz n e _ k=>k (.d (.sl sz n e))) (fun v k=>k (.d (.raw v))) true (fun _ _ _ _=>true) true (fun _ _ _ _=>true) x k)
   (fun k=>k .any) (fun k=>k .und) (fun _ ih k=>ih fun cs=>k (.agg cs)) (fun _ ih k=>ih fun cs=>k (.tuple cs))
   (fun m off k=>k (.ptr m off)) (fun m sz i off k=>k (.aptr m sz i off)) (fun row off k=>k (.dptr row off)) (fun sz n e k=>k (.dfs sz n e))
   (fun m sz s n f k=>k (.msl m sz s n f)) (fun m off n k=>k (.vsl m off n)) (fun m k=>k (.map m))
   (fun f _ _ ihu ihc k=>ihu fun us=>ihc fun cs=>k (.fn f us cs)) (fun m k=>k (.ge m)) (fun m k=>k (.yl m))
   (fun k=>k []) (fun _ _ ih ihs k=>ih fun v=>ihs fun r=>k (v::r)) vs k
def a4e (h:CH)(sz:Nat)(x y:CA)(mu:Bool)(k:CA->CH->List Nat->Bool):Bool:=
 c3p sz h y fun sz2 m e2=>a1n (Nat.beq sz sz2) (match x with
  | .d .nil=>a1n (Nat.ble m 1073741824) (match mu with
    |true=>h.add (.arr sz m e2) fun n0 h'=>k (.msl n0 sz none m false) h' []
    |false=>k (.d (.sl sz m e2)) h [])
  | .dfs sz' n e=>a1n (Nat.beq sz sz') (fN (Nat.add n m) fun nm=>a1n (Nat.ble nm 1073741824) (a1n (Nat.blt .zero m) (b3w e n e2 fun e=>match mu with
    |true=>h.add (.arr sz nm e) fun n0 h'=>k (.msl n0 sz none nm false) h' []
    |false=>k (.d (.sl sz nm e)) h [])))
  | .msl l sz' none n false=>a1n (Nat.beq sz sz') (h.get l fun
    | .arr sz'' n' e=>a1n (Nat.beq sz sz'') (a1n (Nat.beq n' n) (fN (Nat.add n m) fun nm=>a1n (Nat.ble nm 1073741824) (b3w e n e2 fun e=>h.set l (.arr sz nm e) fun h=>c8p l h fun h=>k (.msl l sz none nm false) h [l])))
    |_=>xf 36)
  | .msl l sz' s n true=>a1n (Nat.beq sz sz') (d1n h (.msl l sz' s n true) fun _ n e=>fN (Nat.add n m) fun nm=>a1n (Nat.ble nm 1073741824) (a1n (Nat.blt .zero m) (b3w e n e2 fun e=>match mu with
    |true=>h.add (.arr sz nm e) fun n0 h'=>k (.msl n0 sz none nm false) h' []
    |false=>k (.d (.sl sz nm e)) h [])))
  |_=>xf 37)
def b5l (v:CA):Bool:=
 match v with
 | .d .nil=>true
 | .d (.sl _ n _)=>Nat.beq n .zero
 | .dfs _ n _=>Nat.beq n .zero
 | .msl _ _ _ n _=>Nat.beq n .zero
 |_=>false
def d8d (v:CA):Bool:=
 match v with
 | .d .nil=>true
 |_=>false
def c6b (s:Option Nat):Nat:=
 match s with
 |none=> .zero
 |some s=>s
def b2o (h:CH)(sz:Nat)(x y:CA)(k:CA->CH->Bool):Bool:=
 c3p sz h y fun sz2 m e2=>a1n (Nat.beq sz sz2) (match x with
  | .msl l sz' s n false=>a1n (Nat.beq sz sz') (h.get l fun
    | .arr sz'' n' e=>a1n (Nat.beq sz sz'') (e1x s n fun sn=>a1n (Nat.ble (Nat.add sn m) n') (d1x e sn m e2 fun e=>h.set l (.arr sz n' e) fun h=>fN (Nat.add n m) fun nm=>k (.msl l sz s nm false) h))
    |_=>xf 38)
  |_=>xf 39)
def c9a (e:List (List CD))(n:Nat)(k:List CA->Bool):Bool:=
 match n with
 | .zero=>k []
 | .succ n=>match e with
   |[]=>xf 76
   |r::e=>match r with
    |[x]=>c9a e n fun l=>k (.d x::l)
    |_=>xf 77
def f5c (a b:Nat):Nat:=
 match Nat.ble a b with
 |true=>a
 |false=>b
def b4u (h:CH)(sz:Nat)(x y:CA)(k:CA->CH->Bool):Bool:=
 c3p sz h y fun sz2 m e2=>a1n (Nat.beq sz sz2) (match x with
  | .msl l sz' s n _=>a1n (Nat.beq sz sz') (h.get l fun
    | .arr sz'' n' e=>a1n (Nat.beq sz sz'') (e1x s n fun sn=>a1n (Nat.ble sn n') (fN (f5c n m) fun nm=>d1x e (c6b s) nm e2 fun e=>h.set l (.arr sz n' e) fun h=>k (.d (.int .i64 (.v (.ofNat nm)))) h))
    |_=>xf 40)
  | .vsl l off n=>a1n (Nat.beq sz 1) (h.get l fun
    | .var cs=>fN (f5c n m) fun nm=>c9a e2 nm fun new=>e9y cs off new fun cs=>h.set l (.var cs) fun h=>k (.d (.int .i64 (.v (.ofNat nm)))) h
    |_=>xf 78)
  |_=>xf 41)
def f8c (l:List UInt8)(i:Nat)(k:UInt8->Bool):Bool:=e4y k l i
structure XS where
 pcall:Bool->FuncId->List CA->(CA->Bool)->Bool
 call:FuncId->List CA->CH->(List Nat->CA->CH->Bool)->Bool
 yld:Nat->List CA->CH->(List Nat->CA->CH->Bool)->Bool
 loop:Ann->Nat->Bool->a2d->(Lv->TS->CH->List Nat->Bool)->TS->CH->List Nat->Bool
def f6q (X:XS)(ts:TS)(h:CH)(f:a0o)(args:List a0o)(m:Mode)(k:CA->CH->List Nat->Bool):Bool:=
 a2z ts f fun v=>match v with
  | .fn f first cap=>d0k ts args fun args=>f1h args cap fun r=>f1h first r fun vs=>match m with
    | .borrow=>b7w h vs fun vs=>b1a vs (fun _=>b0x vs fun vs=>X.pcall true f vs fun v=>k v h [])
    | .share=>a6a h vs fun vs h=>b1a vs (fun _=>b0x vs fun vs=>X.pcall false f vs fun v=>k v h [])
    | .data=>b1a vs (fun _=>b0x vs fun vs=>X.pcall false f vs fun v=>k v h [])
    | .raw=>b0x vs fun vs=>X.call f vs h fun pg v h=>k v h pg
    | .fresh=>xf 42
  | .yl l=>match m with
    | .raw=>d0k ts args fun args=>b0x args fun args=>X.yld l args h fun pg v h=>k v h pg
    |_=>xf 43
  |_=>xf 44
def c0i (ts:TS)(sz sz' n:Nat)(lo hi mx:Option a0o)(k:Unit->Bool):Bool:=
 a1n (Nat.beq sz sz') (c8m ts lo (.l (.ofNat .zero)) fun lo=>c8m ts hi (.v (.ofNat n)) fun hi=>c8m ts mx (.v (.ofNat n)) fun mx=>
  a1n (xle (.ofNat .zero) lo.val) (a1n (xle lo.val hi.val) (a1n (xle hi.val mx.val) (a1n (xle mx.val (.ofNat n)) (k ())))))
def f9t (x:a0o)(_:XS)(ts:TS)(h:CH)(k:CA->CH->List Nat->Bool):Bool:=
 a2z ts x fun v=>k v h []
def c8n (sz:Nat)(_:XS)(_:TS)(h:CH)(k:CA->CH->List Nat->Bool):Bool:=
 h.add (.arr sz .zero []) fun n0 h'=>k (.msl n0 sz none .zero false) h' []
def e4j (sz:Nat)(_:XS)(_:TS)(h:CH)(k:CA->CH->List Nat->Bool):Bool:=
 h.add (.arr sz .zero []) fun n0 h'=>k (.msl n0 sz none .zero false) h' []
def e3y (c:a0o)(a:a0o)(b:a0o)(_:XS)(ts:TS)(h:CH)(k:CA->CH->List Nat->Bool):Bool:=
 a2z ts c fun v=>c4y v fun c=>match c with
  |true=>a2z ts a fun v=>k v h []
  |false=>a2z ts b fun v=>k v h []
def d8k (zs:List DV)(_:XS)(_:TS)(h:CH)(k:CA->CH->List Nat->Bool):Bool:=
 d5y zs fun zs=>dL zs fun zs=>h.add (.var zs) fun n0 h'=>k (.ptr n0 .zero) h' []
def f4z (x:a0o)(_:XS)(ts:TS)(h:CH)(k:CA->CH->List Nat->Bool):Bool:=
 a2z ts x fun v=>c1w v.cells (fun _=>h.add (.var v.cells) fun n0 h'=>k (.ptr n0 .zero) h' [])
def d8a (zs:List DV)(ps:List (Nat×Nat×a0o))(_:XS)(ts:TS)(h:CH)(k:CA->CH->List Nat->Bool):Bool:=
 d5y zs fun zs=>dL zs fun zs=>c8k ts zs ps fun cs=>k (.agg cs) h []
def c8s (sz:Nat)(len:Nat)(zs:List DV)(ps:List (Nat×a0o))(mu:Bool)(_:XS)(ts:TS)(h:CH)(k:CA->CH->List Nat->Bool):Bool:=
 d5y zs fun zs=>dL zs fun zs=>f3v zs len fun rs=>c9o ts sz rs ps fun rs=>b0y h rs fun rows h=>match mu with
  |true=>h.add (.arr sz len rows) fun n0 h'=>k (.msl n0 sz none len false) h' []
  |false=>k (.d (.sl sz len rows)) h []
def e4n (agg:Option Nat)(x:a0o)(_:XS)(ts:TS)(h:CH)(k:CA->CH->List Nat->Bool):Bool:=
 a2z ts x fun p=>c8z h p agg fun v=>k v h []
def d4v (sz:Nat)(a:a0o)(x:a0o)(_:XS)(ts:TS)(h:CH)(k:CA->CH->List Nat->Bool):Bool:=
 a2z ts a fun p=>a2z ts x fun v=>c6x h p v sz fun h=>k .und h []
def c8d (x:a0o)(_:XS)(ts:TS)(h:CH)(k:CA->CH->List Nat->Bool):Bool:=
 a2z ts x fun v=>a1n v.isPtr (k v h [])
def f0c (op:BinOp)(x:a0o)(y:a0o)(_:XS)(ts:TS)(h:CH)(k:CA->CH->List Nat->Bool):Bool:=
 a2z ts x fun x=>a2z ts y fun y=>match x with
  | .d (.int kd a)=>match y with
    | .d (.int kd' b)=>a1n (kEq kd kd') (b2f op kd a b fun v=>k (.d v) h [])
    | .ge m=>match op with
      | .gtr=>a1n (kEq kd .i64) (a1n (xle a.val (.ofNat m)) (k (.d (.bool false)) h []))
      |_=>xf 45
    |_=>xf 46
  |_=>xf 47
def e2y (op:BinOp)(x:a0o)(y:a0o)(_:XS)(ts:TS)(h:CH)(k:CA->CH->List Nat->Bool):Bool:=
 a2z ts x fun x=>c4y x fun a=>a2z ts y fun y=>c4y y fun b=>match op with
  | .eql=>match a with
    |true=>k (.d (.bool b)) h []
    |false=>match b with
     |true=>k (.d (.bool false)) h []
     |false=>k (.d (.bool true)) h []
  | .neq=>match a with
    |false=>k (.d (.bool b)) h []
    |true=>match b with
     |true=>k (.d (.bool false)) h []
     |false=>k (.d (.bool true)) h []
  |_=>xf 48
def f3i (neg:Bool)(ks:List IntKind)(x:a0o)(y:a0o)(_:XS)(ts:TS)(h:CH)(k:CA->CH->List Nat->Bool):Bool:=
 a2z ts x fun x=>a2z ts y fun y=>match x with
  | .agg xs=>match y with
    | .agg ys=>f2z ks xs ys fun b=>match neg with
      |true=>(match b with
       |true=>k (.d (.bool false)) h []
       |false=>k (.d (.bool true)) h [])
      |false=>k (.d (.bool b)) h []
    |_=>xf 83
  |_=>xf 83
def g3u (op:UnOp)(x:a0o)(_:XS)(ts:TS)(h:CH)(k:CA->CH->List Nat->Bool):Bool:=
 a2z ts x fun x=>match op with
  | .not=>c4y x fun b=>match b with
    |true=>k (.d (.bool false)) h []
    |false=>k (.d (.bool true)) h []
  | .neg=>match x with
    | .d (.int kd n)=>fI (Int.sub (.ofNat .zero) n.val) fun c=>a1n (e2u kd c) (k (.d (.int kd (.v c))) h [])
    |_=>xf 49
  |_=>xf 49
def e4m (kd:IntKind)(x:a0o)(_:XS)(ts:TS)(h:CH)(k:CA->CH->List Nat->Bool):Bool:=
 a2z ts x fun x=>match x with
  | .d (.int _ n)=>fI (kd.wrap n.val) fun c=>k (.d (.int kd (.v c))) h []
  |_=>xf 50
def e3d (f:FuncId)(first:List a0o)(cap:List a0o)(_:XS)(ts:TS)(h:CH)(k:CA->CH->List Nat->Bool):Bool:=
 d0k ts first fun us=>d0k ts cap fun cs=>k (.fn f us cs) h []
def d5z (wide:Bool)(ks:List IntKind)(_:XS)(_:TS)(h:CH)(k:CA->CH->List Nat->Bool):Bool:=
 h.add (.map wide ks .zero []) fun n0 h'=>k (.map n0) h' []
def c1s (sz:Nat)(zs:List DV)(_:Nat)(n:a0o)(_:XS)(ts:TS)(h:CH)(k:CA->CH->List Nat->Bool):Bool:=
 d5y zs fun zs=>a2z ts n fun v=>b4y v fun n=>a1n (xle (.ofNat .zero) n.val) (a1n (xle n.val (.ofNat 1073741824)) (c8f n fun n=>f3v zs n fun rows=>
  h.add (.arr sz n rows) fun n0 h'=>k (.msl n0 sz none n false) h' []))
def d8e (sz:Nat)(x:a0o)(lo:Option a0o)(hi:Option a0o)(mx:Option a0o)(_:XS)(ts:TS)(h:CH)(k:CA->CH->List Nat->Bool):Bool:=
 a2z ts x fun x=>b1v ts sz x lo hi mx fun v=>k v h []
def d4b (n:Nat)(x:a0o)(lo:Option a0o)(hi:Option a0o)(_:XS)(ts:TS)(h:CH)(k:CA->CH->List Nat->Bool):Bool:=
 a2z ts x fun x=>match x with
  | .ptr l off=>c8m ts lo (.l (.ofNat .zero)) fun lo=>c8m ts hi (.l (.ofNat n)) fun hi=>
     a1n (xle (.ofNat .zero) lo.val) (a1n (xle lo.val hi.val) (a1n (xle hi.val (.ofNat n)) (c8f lo fun lo=>c8f hi fun hi=>fN (Nat.add off lo) fun off=>match Nat.sub hi lo with
      | .zero=>k (.d (.sl 1 .zero [])) h []
      | .succ m=>k (.vsl l off (.succ m)) h [])))
  |_=>xf 51
def d8i (off:Nat)(x:a0o)(_:XS)(ts:TS)(h:CH)(k:CA->CH->List Nat->Bool):Bool:=
 a2z ts x fun x=>match x with
  | .ptr l o=>fN (Nat.add o off) fun o=>k (.ptr l o) h []
  | .aptr l sz i o=>fN (Nat.add o off) fun o=>k (.aptr l sz i o) h []
  | .dptr row o=>fN (Nat.add o off) fun o=>k (.dptr row o) h []
  |_=>xf 52
def d7u (off:Nat)(agg:Option Nat)(x:a0o)(_:XS)(ts:TS)(h:CH)(k:CA->CH->List Nat->Bool):Bool:=
 a2z ts x fun x=>match x with
  | .agg cs=>match agg with
    |none=>e4y (fun v=>k v h []) cs off
    |some n=>f3t cs off n fun c=>k (.agg c) h []
  |_=>xf 53
def d7s (sz:Nat)(x:a0o)(i:a0o)(_:XS)(ts:TS)(h:CH)(k:CA->CH->List Nat->Bool):Bool:=
 a2z ts i fun v=>b4y v fun i=>a2z ts x fun x=>b1z sz x i fun v=>k v h []
def c8l (n:Nat)(sz:Nat)(x:a0o)(i:a0o)(_:XS)(ts:TS)(h:CH)(k:CA->CH->List Nat->Bool):Bool:=
 a2z ts i fun v=>b4y v fun i=>a2z ts x fun x=>match x with
  | .ptr l off=>match i with
    | .l i=>match i with
      | .ofNat i=>a1n (Nat.blt i n) (fN (Nat.add off (Nat.mul i sz)) fun o=>k (.ptr l o) h [])
      | .negSucc _=>xf 54
    | .v _=>xf 55
  |_=>xf 56
def c8o (wide:Bool)(ks:List IntKind)(ok:Bool)(m:a0o)(kx:a0o)(_:XS)(ts:TS)(h:CH)(k:CA->CH->List Nat->Bool):Bool:=
 a2z ts m fun m=>match m with
  | .map l=>h.get l fun
    | .map wide' ks' _ es=>a1n (match wide with|true=>wide'|false=>Bool.not wide') (a1n (f2t ks ks') (a2z ts kx fun kx=>c1a wide ks kx fun kc=>d4l es kc fun r=>match r with
      |some n=>match ok with
       |true=>k (.tuple [.d (.int .i64 (.v n)),.d (.bool true)]) h []
       |false=>k (.d (.int .i64 (.v n))) h []
      |none=>match ok with
       |true=>k (.tuple [.d (.int .i64 (.v (.ofNat .zero))),.d (.bool false)]) h []
       |false=>k (.d (.int .i64 (.v (.ofNat .zero)))) h []))
    |_=>xf 57
  |_=>xf 58
def c8c (wide:Bool)(ks:List IntKind)(m:a0o)(kx:a0o)(x:a0o)(_:XS)(ts:TS)(h:CH)(k:CA->CH->List Nat->Bool):Bool:=
 a2z ts m fun m=>match m with
  | .map l=>h.get l fun
    | .map wide' ks' n es=>a1n (match wide with|true=>wide'|false=>Bool.not wide') (a1n (f2t ks ks') (a2z ts kx fun kx=>c1a wide ks kx fun kc=>a2z ts x fun x=>b4y x fun x=>d4l es kc fun r=>match r with
      |some _=>h.set l (.map wide ks n ((kc,x.val)::es)) fun h=>k .und h []
      |none=>fN (Nat.succ n) fun n=>h.set l (.map wide ks n ((kc,x.val)::es)) fun h=>k .und h []))
    |_=>xf 59
  |_=>xf 60
def c2q (x:a0o)(i:Nat)(_:XS)(ts:TS)(h:CH)(k:CA->CH->List Nat->Bool):Bool:=
 a2z ts x fun x=>match x with
  | .tuple vs=>e4y (fun v=>k v h []) vs i
  |_=>xf 61
def e3p (f:a0o)(args:List a0o)(m:Mode)(X:XS)(ts:TS)(h:CH)(k:CA->CH->List Nat->Bool):Bool:=
 f6q X ts h f args m k
def e9v (x:a0o)(_:XS)(ts:TS)(h:CH)(k:CA->CH->List Nat->Bool):Bool:=
 a2z ts x fun x=>match x with
  | .d .nil=>k (.d (.int .i64 (.l (.ofNat .zero)))) h []
  | .d (.sl _ n _)=>k (.d (.int .i64 (.v (.ofNat n)))) h []
  | .dfs _ n _=>k (.d (.int .i64 (.v (.ofNat n)))) h []
  | .msl _ _ _ n _=>k (.d (.int .i64 (.v (.ofNat n)))) h []
  | .vsl _ _ n=>k (.d (.int .i64 (.v (.ofNat n)))) h []
  |_=>xf 62
def e4b (x:a0o)(_:XS)(ts:TS)(h:CH)(k:CA->CH->List Nat->Bool):Bool:=
 a2z ts x fun x=>match x with
  | .map l=>h.get l fun
    | .map _ _ n _=>k (.d (.int .i64 (.v (.ofNat n)))) h []
    |_=>xf 63
  |_=>xf 64
def f4n (x:a0o)(_:XS)(ts:TS)(h:CH)(k:CA->CH->List Nat->Bool):Bool:=
 a2z ts x fun x=>match x with
  | .msl l sz s n f=>h.get l fun
    | .arr sz' m _=>a1n (Nat.beq sz sz') (match f with
      |true=>k (.d (.int .i64 (.v (.ofNat n)))) h []
      |false=>match s with
       |none=>k (.ge m) h []
       |some s=>fN (Nat.sub m s) fun m=>k (.ge m) h [])
    |_=>xf 65
  |_=>xf 66
def e9i (x:a0o)(y:a0o)(_:XS)(ts:TS)(h:CH)(k:CA->CH->List Nat->Bool):Bool:=
 a2z ts x fun x=>a2z ts y fun y=>match x with
  | .d (.int kd a)=>match y with
    | .d (.int kd' b)=>a1n (kEq kd kd') (match xlt b.val a.val with
      |true=>k (.d (.int kd (.v b.val))) h []
      |false=>k (.d (.int kd (.v a.val))) h [])
    |_=>xf 67
  |_=>xf 68
def c7j (sz:Nat)(_:Nat)(x:a0o)(y:a0o)(mu:Bool)(_:XS)(ts:TS)(h:CH)(k:CA->CH->List Nat->Bool):Bool:=
 a2z ts x fun x=>a2z ts y fun y=>a4e h sz x y mu k
def e3q (sz:Nat)(x:a0o)(y:a0o)(_:XS)(ts:TS)(h:CH)(k:CA->CH->List Nat->Bool):Bool:=
 a2z ts x fun x=>a2z ts y fun y=>b4u h sz x y fun v h=>k v h []
def f6m (_:XS)(_:TS)(_:CH)(_:CA->CH->List Nat->Bool):Bool:=
 xf 69
def b7j (sz:Nat)(x:a0o)(y:a0o)(_:XS)(ts:TS)(h:CH)(k:CA->CH->List Nat->Bool):Bool:=
 a2z ts x fun x=>a2z ts y fun y=>b2o h sz x y fun v h=>k v h []
def d8m (sz:Nat)(zs:List DV)(x:a0o)(_:XS)(ts:TS)(h:CH)(k:CA->CH->List Nat->Bool):Bool:=
 d5y zs fun zs=>a2z ts x fun x=>match x with
  | .msl l sz' s n _=>a1n (Nat.beq sz sz') (h.get l fun
    | .arr sz'' n' e=>a1n (Nat.beq sz sz'') (e1x s n fun sn=>a1n (Nat.ble sn n') (f3v zs n fun new=>d1x e (c6b s) n new fun e=>h.set l (.arr sz n' e) fun h=>k .any h []))
    |_=>xf 70)
  |_=>xf 71
def d8o (neg:Bool)(x:a0o)(_:XS)(ts:TS)(h:CH)(k:CA->CH->List Nat->Bool):Bool:=
 a2z ts x fun x=>match x with
  | .d .nil=>(match neg with
    |true=>k (.d (.bool false)) h []
    |false=>k (.d (.bool true)) h [])
  | .d (.sl _ n _)=>a1n (Nat.blt .zero n) (k (.d (.bool neg)) h [])
  | .dfs _ n _=>a1n (Nat.blt .zero n) (k (.d (.bool neg)) h [])
  | .msl _ _ _ n _=>a1n (Nat.blt .zero n) (k (.d (.bool neg)) h [])
  |_=>xf 72
def c9r (sz:Nat)(x:a0o)(lo:Option a0o)(hi:Option a0o)(_:XS)(ts:TS)(h:CH)(k:CA->CH->List Nat->Bool):Bool:=
 a2z ts x fun x=>match x with
  | .msl l sz' s n false=>a1n (Nat.beq sz sz') (h.get l fun
    | .arr sz'' n' _=>a1n (Nat.beq sz sz'') (c8m ts lo (.l (.ofNat .zero)) fun lo=>c8m ts hi (.v (.ofNat n)) fun hi=>
       a1n (xle (.ofNat .zero) lo.val) (a1n (xle lo.val hi.val) (c8f hi fun hin=>e1x s hin fun shi=>a1n (Nat.ble shi n') (c8f lo fun lon=>fN (Nat.sub hin lon) fun len=>b0b s lo fun s=>k (.msl l sz s len false) h []))))
    |_=>xf 73)
  |_=>xf 74
def e3i (l:List UInt8)(x:a0o)(_:XS)(ts:TS)(h:CH)(k:CA->CH->List Nat->Bool):Bool:=
 a2z ts x fun x=>match x with
  | .d (.int _ i)=>c8f i fun n=>a1n (xle (.ofNat .zero) i.val) (f8c l n fun b=>fN b.toNat fun b=>k (.d (.int .u8 (.v (.ofNat b)))) h [])
  |_=>xf 75
def d2n (sz:Nat)(x:a0o)(lo:Option a0o)(hi:Option a0o)(mx:Option a0o)(_:XS)(ts:TS)(h:CH)(k:CA->CH->List Nat->Bool):Bool:=
 a2z ts x fun x=>match x with
  | .msl _ sz' _ n _=>c0i ts sz sz' n lo hi mx fun _=>k .any h []
  | .d (.sl sz' n _)=>c0i ts sz sz' n lo hi mx fun _=>k .any h []
  |_=>xf 79
def f1g (x:a0o)(y:a0o)(_:XS)(ts:TS)(h:CH)(k:CA->CH->List Nat->Bool):Bool:=
 a2z ts x fun x=>a2z ts y fun y=>match x with
  | .msl l _ _ n1 _=>match y with
    | .msl l' _ _ n2 _=>match Nat.beq l l' with
      |true=>xf 80
      |false=>a1n (Nat.blt .zero n1)<|a1n (Nat.blt .zero n2)<|h.get l fun
       | .arr sz _ _=>h.get l' fun
         | .arr sz' n' _=>a1n (Nat.beq sz 1) (a1n (Nat.beq sz' 1) (a1n (Nat.blt .zero n') (k (.d (.bool false)) h [])))
         |_=>xf 81
       |_=>xf 81
    |_=>xf 82
  |_=>xf 82
def c1u (sz:Nat)(_:Nat)(x:a0o)(y:a0o)(mu:Bool)(_:XS)(ts:TS)(h:CH)(k:CA->CH->List Nat->Bool):Bool:=
 a2z ts x fun x=>a2z ts y fun y=>match d8d x with
  |true=>(match b5l y with
   |true=>k (.d .nil) h []
   |false=>a4e h sz x y mu k)
  |false=>a4e h sz x y mu k
def c5v (X:XS)(o:IOp)(ts:TS)(h:CH)(k:CA->CH->List Nat->Bool):Bool:=
 @IOp.rec (fun _=>XS->TS->CH->(CA->CH->List Nat->Bool)->Bool) f9t c8n e4j e3y d8k f4z d8a c8s e4n d4v c8d f0c e2y f3i g3u e4m e3d d5z c1s d8e d4b d8i d7u d7s c8l c8o c8c c2q e3p e9v e4b f4n e9i c7j e3q f6m b7j d8m d8o c9r e3i d2n f1g c1u o X ts h k
end
noncomputable section
structure XFn where
 A:Ann
 n:Nat
 irs:List c7e
 ic:a2d
inductive XT where
 |leaf
 |node (key:Nat) (fn:XFn) (l r:XT)
def XT.find (t:XT)(f:Nat)(k:XFn->Bool):Bool:=
 match t with
 | .leaf=>xf 100
 | .node key fn l r=>match Nat.beq f key with
   |true=>k fn
   |false=>match Nat.blt f key with
    |true=>l.find f k
    |false=>r.find f k
def a9c (dst:Option Nat)(v:CA)(ts:TS)(k:TS->Bool):Bool:=
 @Option.rec Nat (fun _=>CA->TS->(TS->Bool)->Bool) (fun _ ts k=>k ts) (fun d v ts k=>e4o ts d v k) dst v ts k
def d4d (base:Nat)(dst:Option Nat)(ts:TS)(mv:List Nat)(k:TS->CH->List Nat->Bool)(v:CA)(h:CH)(pg:List Nat):Bool:=
 match pg with
 |[]=>a9c dst v ts fun ts=>k ts h mv
 |p::pg=>a9l (p::pg) ts fun ts=>b3o base (p::pg) mv fun mv=>a9c dst v ts fun ts=>k ts h mv
section
variable (X:XS) (base:Nat)
def xop (o:IOp)(dst:Option Nat)(ts:TS)(h:CH)(mv:List Nat)(k:TS->CH->List Nat->Bool):Bool:=
 c5v X o ts h (d4d base dst ts mv k)
def xgV (want:Bool)(off on:Unit->Bool)(v:CA):Bool:=
 match v with
 | .d (.bool b)=>match b with
   |true=>(match want with
    |true=>on ()
    |false=>off ())
   |false=>(match want with
    |true=>off ()
    |false=>on ())
 | .und=>off ()
 |_=>xf 101
def c7p (g:Option (Nat×Bool))(ts:TS)(off on:Unit->Bool):Bool:=
 @Option.rec (Nat×Bool) (fun _=>TS->(Unit->Bool)->(Unit->Bool)->Bool) (fun _ _ on=>on ()) (fun g ts off on=> @Prod.rec Nat Bool (fun _=>Bool) (fun j want=>d7y ts j (xgV want off on)) g) g ts off on
def f0e (o:a2b)(ts:TS)(h:CH)(mv:List Nat)(k:TS->CH->List Nat->Bool):Bool:=
 @a2b.rec (fun _=>XS->Nat->TS->CH->List Nat->(TS->CH->List Nat->Bool)->Bool)
   (fun dst g op X base ts h mv k=>c7p g ts (fun _=>a9c dst .und ts fun ts=>k ts h mv) (fun _=>xop X base op dst ts h mv k)) o X base ts h mv k
def f5q (l:List a2b)(ts:TS)(h:CH)(mv:List Nat)(k:TS->CH->List Nat->Bool):Bool:=
 @List.rec a2b (fun _=>XS->Nat->TS->CH->List Nat->(TS->CH->List Nat->Bool)->Bool) (fun _ _ ts h mv k=>k ts h mv)
   (fun o _ ih X base ts h mv k=>f0e X base o ts h mv (ih X base · · · k)) l X base ts h mv k
def d3j (l:Nat)(o:IOp)(ts:TS)(k:CA->b6d->Bool):Bool:=
 match o with
 | .alloc zs=>d5y zs fun zs=>dL zs fun zs=>k (.ptr l .zero) (.var zs)
 | .box x=>a2z ts x fun v=>c1w v.cells (fun _=>k (.ptr l .zero) (.var v.cells))
 | .mkmap wide ks=>k (.map l) (.map wide ks .zero [])
 | .bnew sz=>k (.msl l sz none .zero false) (.arr sz .zero [])
 | .mkslice sz zs _ n=>d5y zs fun zs=>a2z ts n fun v=>b4y v fun n=>a1n (xle (.ofNat .zero) n.val) (a1n (xle n.val (.ofNat 1073741824)) (c8f n fun n=>f3v zs n fun rows=>
    k (.msl l sz none n false) (.arr sz n rows)))
 |_=>xf 102
def e5o (u v:Kl):Bool:=Nat.beq u.ctorIdx v.ctorIdx
def d7z (b0:Nat)(d:a0u)(ts:TS)(k:Unit->Bool):Bool:=
 match d.av with
 |[]=>k ()
 |_=>match d.o.op.at with
  |some x=>a2z ts x fun v=>match v with
   | .ptr l _=>a1n (a7m b0 l d.av) (k ())
   | .aptr l _ _ _=>a1n (e5o d.o.op.kl .r) (a1n (a7m b0 l d.av) (k ()))
   | .map l=>a1n (e5o d.o.op.kl .r) (a1n (a7m b0 l d.av) (k ()))
   | .dptr _ _=>a1n (e5o d.o.op.kl .r) (k ())
   |_=>xf 103
  |none=>xf 104
def g1n:IX->IX->Bool
 | .v a,.v b=>xeq a b
 | .l a,.l b=>xeq a b
 |_,_=>false
mutual
def d0h (x y:CD):Bool:=
 match x with
 | .int kd n=>match y with
   | .int kd' m=>match kEq kd kd' with
     |true=>g1n n m
     |false=>false
   |_=>false
 | .bool b=>match y with
   | .bool c=>match b with
     |true=>c
     |false=>Bool.not c
   |_=>false
 | .str l=>match y with
   | .str m=>c2r l m
   |_=>false
 | .nil=>match y with
   | .nil=>true
   |_=>false
 | .sl sz n rows=>match y with
   | .sl sz' n' rows'=>match Nat.beq sz sz' with
     |true=>(match Nat.beq n n' with
      |true=>b8i rows rows'
      |false=>false)
     |false=>false
   |_=>false
 | .raw _=>false
def d0i (xs ys:List CD):Bool:=
 match xs with
 |[]=>match ys with
  |[]=>true
  |_=>false
 |x::xs=>match ys with
  |[]=>false
  |y::ys=>match d0h x y with
   |true=>d0i xs ys
   |false=>false
def b8i (xs ys:List (List CD)):Bool:=
 match xs with
 |[]=>match ys with
  |[]=>true
  |_=>false
 |x::xs=>match ys with
  |[]=>false
  |y::ys=>match d0i x y with
   |true=>b8i xs ys
   |false=>false
end
def g2o:Option Nat->Option Nat->Bool
 |none,none=>true
 |some a,some b=>Nat.beq a b
 |_,_=>false
mutual
def b3l (x y:CA):Bool:=
 match x with
 | .d x=>match y with
   | .d y=>d0h x y
   |_=>false
 | .agg xs=>match y with
   | .agg ys=>c1x xs ys
   |_=>false
 | .ptr l o=>match y with
   | .ptr l' o'=>match Nat.beq l l' with
     |true=>Nat.beq o o'
     |false=>false
   |_=>false
 | .msl l sz s n f=>match y with
   | .msl l' sz' s' n' f'=>match Nat.beq l l' with
     |true=>(match Nat.beq sz sz' with
      |true=>(match g2o s s' with
       |true=>(match Nat.beq n n' with
        |true=>bEq f f'
        |false=>false)
       |false=>false)
      |false=>false)
     |false=>false
   |_=>false
 | .map l=>match y with
   | .map l'=>Nat.beq l l'
   |_=>false
 | .fn f us cs=>match y with
   | .fn f' us' cs'=>match Nat.beq f f' with
     |true=>(match c1x us us' with
      |true=>c1x cs cs'
      |false=>false)
     |false=>false
   |_=>false
 | .yl l=>match y with
   | .yl l'=>Nat.beq l l'
   |_=>false
 |_=>false
def c1x (xs ys:List CA):Bool:=
 match xs with
 |[]=>match ys with
  |[]=>true
  |_=>false
 |x::xs=>match ys with
  |[]=>false
  |y::ys=>match b3l x y with
   |true=>c1x xs ys
   |false=>false
end
def a5f (b0:Nat)(ts:TS)(h:CH)(k:Unit->Bool)(F:List a0u):Bool:=
 match F with
 |[]=>k ()
 |r::rs=>match e5o r.o.op.kl .r with
  |true=>c7p r.o.guard ts (fun _=>a5f b0 ts h k rs) (fun _=>d7z b0 r ts (fun _=>c5v X r.o.op ts h fun v _ _=>match r.o.dst with
   |some d=>d7y ts d fun u=>a1n (b3l v u) (a5f b0 ts h k rs)
   |none=>a5f b0 ts h k rs))
  |false=>a5f b0 ts h k rs
mutual
def b1s (pg:List Nat)(v:CA):Bool:=
 match v with
 | .agg cs=>b0f pg cs
 | .tuple cs=>b0f pg cs
 | .fn _ us cs=>match b0f pg us with
   |true=>b0f pg cs
   |false=>false
 | .ptr m _=>a5p m pg
 | .aptr m _ _ _=>a5p m pg
 | .msl m _ _ _ _=>a5p m pg
 | .vsl m _ _=>a5p m pg
 | .map m=>a5p m pg
 | .yl m=>a5p m pg
 |_=>true
def b0f (pg:List Nat)(vs:List CA):Bool:=
 match vs with
 |[]=>true
 |v::l=>match b1s pg v with
  |true=>b0f pg l
  |false=>false
end
def b4h (pg:List Nat)(ts:TS)(l:List Nat)(k:Unit->Bool):Bool:=
 match l with
 |[]=>k ()
 |t::l=>d7y ts t fun v=>a1n (b1s pg v) (b4h pg ts l k)
def c8t (pg:List Nat)(ts:TS)(F:List a0u)(k:Unit->Bool):Bool:=
 match F with
 |[]=>k ()
 |r::rs=>b4h pg ts r.o.uses fun _=>b4h pg ts (f1c r.o) fun _=>c8t pg ts rs k
def xD (b0:Nat)(F:List a0u)(d:a0u)(ts:TS)(h:CH)(mv:List Nat)(k:TS->CH->List Nat->Bool):Bool:=
 match d.o.op.kl with
 | .a=>fN (Nat.add b0 d.slot) fun s=>d3j s d.o.op ts fun v o=>h.set s o fun h=>a9c d.o.dst v ts fun ts=>k ts h mv
 | .m=>d7z b0 d ts (fun _=>c5v X d.o.op ts h fun v h pg=>match pg with
   |[]=>a9c d.o.dst v ts fun ts=>a5f X b0 ts h (fun _=>k ts h mv) (a5u d F)
   |p::pg=>match d.alone with
    |true=>a9l (p::pg) ts fun ts=>b3o base (p::pg) mv fun mv=>a9c d.o.dst v ts fun ts=>k ts h mv
    |false=>a1n (d3n b0 (p::pg)) (c8t (p::pg) ts (a5u d F) fun _=>a9l (p::pg) ts fun ts=>b3o base (p::pg) mv fun mv=>a9c d.o.dst v ts fun ts=>a5f X b0 ts h (fun _=>k ts h mv) (a5u d F)))
 | .r=>d7z b0 d ts (fun _=>c5v X d.o.op ts h fun v _ _=>a9c d.o.dst v ts fun ts=>k ts h mv)
 | .i=>c5v X d.o.op ts h fun v _ _=>a9c d.o.dst v ts fun ts=>k ts h mv
 | .p=>c5v X d.o.op ts h fun v _ _=>a9c d.o.dst v ts fun ts=>k ts h mv
def xR (b0:Nat)(F:List a0u)(ds:List a0u)(ts:TS)(h:CH)(mv:List Nat)(k:TS->CH->List Nat->Bool):Bool:=
 match ds with
 |[]=>k ts h mv
 |d::ds=>c7p d.o.guard ts (fun _=>a9c d.o.dst .und ts fun ts=>xR b0 (b1c d F) ds ts h mv k) (fun _=>xD X base b0 F d ts h mv fun ts h mv=>xR b0 (b1c d F) ds ts h mv k)
def d0g (n:Nat)(h:CH)(k:CH->Bool):Bool:=
 match n with
 | .zero=>k h
 | .succ n=>h.add (.var []) fun _ h=>d0g n h k
def b7a (ts:TS)(h:CH)(irs:List c7e)(k:List CA->Bool):Bool:=
 match irs with
 |[]=>k []
 |r::rs=>match r with
  | .t i=>d7y ts i fun v=>b7a ts h rs fun vs=>k (v::vs)
  | .c i ag=>d7y ts i fun p=>c8z h p ag fun v=>b7a ts h rs fun vs=>k (v::vs)
def c3n (vs:List CA):CA:=
 match vs with
 |[]=> .tuple []
 |v::r=>match r with
  |[]=>v
  |_=> .tuple (v::r)
def c0q (l:Nat)(ts:TS)(h:CH)(pg mv:List Nat)(k:Lv->TS->CH->List Nat->Bool):Bool:=
 match c3e l pg with
 |true=>xf 131
 |false=>h.get l fun
  | .loop s ts0 ps A a b=>match s with
    | .ready=>h.set l (.loop (.over .normal) ts0 ps A a b) fun h=>a9l pg ts fun ts=>b3o base pg mv fun mv=>k .normal ts h mv
    | .done lv=>match lv with
      | .ret=>h.set l (.loop (.over .ret) ts0 ps A a b) fun h=>a9l pg ts fun ts=>b3o base pg mv fun mv=>k .ret ts h mv
      | .exit i=>h.set l (.loop (.over (.exit i)) ts0 ps A a b) fun h=>a9l pg ts fun ts=>b3o base pg mv fun mv=>k (.exit i) ts h mv
      | .normal=>xf 105
    |_=>xf 106
  |_=>xf 107
end
def e4c (next:TS->CH->List Nat->Bool)(k:Lv->TS->CH->List Nat->Bool)(lv:Lv)(ts:TS)(h:CH)(mv:List Nat):Bool:=
 match lv with
 | .normal=>next ts h mv
 | .exit i=>k (.exit i) ts h mv
 | .ret=>k .ret ts h mv
def c5b (id:Nat)(k:Lv->TS->CH->List Nat->Bool)(lv:Lv)(ts:TS)(h:CH)(mv:List Nat):Bool:=
 match lv with
 | .normal=>k .normal ts h mv
 | .exit i=>(match Nat.beq i id with
   |true=>k .normal ts h mv
   |false=>k (.exit i) ts h mv)
 | .ret=>k .ret ts h mv
def f3l (X:XS)(base:Nat)(f:a0o)(ps:List Nat)(a b:a2d)(A:Ann)(top:Bool)(k:Lv->TS->CH->List Nat->Bool)(ts:TS)(h:CH)(mv:List Nat):Bool:=
 a1n top (a2z ts f fun v=>match v with
  | .fn g first cap=>h.add (.loop .ready ts ps A a b) fun n0 h1=>f1h [.yl n0] cap fun r=>f1h first r fun vs=>b0x vs fun vs=>
     X.call g vs h1 fun pg _ h2=>c0q base n0 ts h2 pg mv k
  |_=>xf 108)
abbrev XC:=XS->Nat->Ann->Bool->(Lv->TS->CH->List Nat->Bool)->TS->CH->List Nat->Bool
def c0z (X:XS)(base:Nat)(A:Ann)(top:Bool)(c:a2d)(k:Lv->TS->CH->List Nat->Bool)(ts:TS)(h:CH)(mv:List Nat):Bool:=
 @a2d.rec (fun _=>XC)
   (fun _ _ _ _ k ts h mv=>k .normal ts h mv)
   (fun l X base _ _ k ts h mv=>f5q X base l ts h mv (k .normal))
   (fun n l X base _ _ k ts h mv=>h.num fun n0=>d0g n h fun h'=>xR X base n0 [] l ts h' mv (k .normal))
   (fun _ _ ia ib X base A top k ts h mv=>ia X base A top (e4c (ib X base A top k) k) ts h mv)
   (fun c _ _ ia ib X base A top k ts h mv=>a2z ts c fun v=>c4y v fun x=> @Bool.rec (fun _=>Bool) (ib X base A top k ts h mv) (ia X base A top k ts h mv) x)
   (fun id _ ic X base A top k ts h mv=>ic X base A top (c5b id k) ts h mv)
   (fun c _ X base A top k ts h mv=>X.loop A base top c k ts h mv)
   (fun f ps a b _ _ X base A top k ts h mv=>f3l X base f ps a b A top k ts h mv)
   (fun id _ _ _ _ k ts h mv=>k (.exit id) ts h mv)
   (fun _ ic X base A top k ts h mv=>a1n top (ic X base A top k ts h mv))
   (fun _ _ _ _ _ k ts h mv=>k .normal ts h mv)
   (fun _ _ _ _ k ts h mv=>k .ret ts h mv)
   c X base A top k ts h mv
def d2o (args:List CA)(i:Nat)(ts:TS)(k:TS->Bool):Bool:=
 match args with
 |[]=>k ts
 |v::l=>e4o ts i v fun ts=>d2o l (Nat.succ i) ts k
def e8d (n:Nat)(args:List CA)(k:TS->Bool):Bool:=d2o args .zero (mkT .und n n) k
def f5b (ps:List Nat)(args:List CA)(ts:TS)(k:TS->Bool):Bool:=
 match ps with
 |[]=>match args with
  |[]=>k ts
  |_::_=>xf 109
 |p::ps=>match args with
  |[]=>xf 110
  |v::args=>e4o ts p v fun ts=>f5b ps args ts k
def d0v (vs:List CA)(k:Unit->Bool):Bool:=
 match vs with
 |[]=>k ()
 |v::r=>match v with
  | .d (.int ..)=>d0v r k
  | .d (.bool _)=>d0v r k
  | .d (.str _)=>d0v r k
  |_=>xf 130
def f3d (own:Bool)(k:CA->Bool)(vs:List CA):Bool:=
 match own with
 |true=>d0v vs (fun _=>k (c3n vs))
 |false=>k (c3n vs)
def e1s (irs:List c7e)(own:Bool)(k:CA->Bool)(lv:Lv)(ts:TS)(h:CH)(_:List Nat):Bool:=
 match lv with
 | .exit _=>xf 124
 |_=>b7a ts h irs fun vs=>a6a h vs fun vs _=>b1a vs (fun _=>f3d own k vs)
def e3n (T:XT)(X:XS)(own:Bool)(f:FuncId)(args:List CA)(k:CA->Bool):Bool:=
 T.find f fun fn=>e8d fn.n args fun ts=>c0z X .zero fn.A true fn.ic (e1s fn.irs own k) ts ⟨.zero,.leaf⟩ []
def c7v (irs:List c7e)(k:List Nat->CA->CH->Bool)(lv:Lv)(ts:TS)(h:CH)(mv:List Nat):Bool:=
 match lv with
 | .exit _=>xf 125
 |_=>b7a ts h irs fun vs=>k mv (c3n vs) h
def e3o (T:XT)(X:XS)(f:FuncId)(args:List CA)(h:CH)(k:List Nat->CA->CH->Bool):Bool:=
 T.find f fun fn=>e8d fn.n args fun ts=>h.num fun n0=>c0z X n0 fn.A true fn.ic (c7v fn.irs k) ts h []
def b6o (l:Nat)(k:List Nat->CA->CH->Bool)(lv:Lv)(_:TS)(h:CH)(mv:List Nat):Bool:=
 match c3e l mv with
 |true=>xf 133
 |false=>h.get l fun
  | .loop .busy ts0 ps0 A0 a0 b0=>match lv with
    | .normal=>h.set l (.loop .ready ts0 ps0 A0 a0 b0) fun h=>k mv (.d (.bool true)) h
    | .ret=>h.set l (.loop (.done .ret) ts0 ps0 A0 a0 b0) fun h=>k mv (.d (.bool false)) h
    | .exit i=>h.set l (.loop (.done (.exit i)) ts0 ps0 A0 a0 b0) fun h=>k mv (.d (.bool false)) h
  |_=>xf 126
def b1x (X:XS)(base:Nat)(l:Nat)(A:Ann)(b:a2d)(k:List Nat->CA->CH->Bool)(lv:Lv)(ts:TS)(h:CH)(mv:List Nat):Bool:=
 match lv with
 | .normal=>(match c3e l mv with
   |true=>xf 132
   |false=>h.get l fun
    | .loop .ready ts0 ps0 A0 a0 b0=>h.set l (.loop .busy ts0 ps0 A0 a0 b0) fun h=>c0z X base A false b (b6o l k) ts h mv
    |_=>xf 127)
 |_=>xf 128
def g2m (X:XS)(l:Nat)(args:List CA)(h:CH)(k:List Nat->CA->CH->Bool):Bool:=
 h.get l fun
  | .loop .ready ts ps A a b=>f5b ps args ts fun ts=>h.num fun n0=>c0z X n0 A false a (b1x X n0 l A b k) ts h []
  |_=>xf 129
def e3f (X:XS)(A:Ann)(base:Nat)(top:Bool)(c:a2d)(k:Lv->TS->CH->List Nat->Bool)(lv:Lv)(ts:TS)(h:CH)(mv:List Nat):Bool:=
 match lv with
 | .normal=>X.loop A base top c k ts h mv
 | .exit i=>k (.exit i) ts h mv
 | .ret=>k .ret ts h mv
def f6v (X:XS)(A:Ann)(base:Nat)(top:Bool)(c:a2d)(k:Lv->TS->CH->List Nat->Bool)(ts:TS)(h:CH)(mv:List Nat):Bool:=
 c0z X base A top c (e3f X A base top c k) ts h mv
def XSs (T:XT)(X:XS):XS:=⟨e3n T X,e3o T X,g2m X,f6v X⟩
def XS0:XS:=⟨fun _ _ _ _=>xf 120,fun _ _ _ _=>xf 121,fun _ _ _ _=>xf 122,fun _ _ _ _ _ _ _ _=>xf 123⟩
def XSn (T:XT)(n:Nat):XS:= @Nat.rec (fun _=>XS) XS0 (fun _ X=>XSs T X) n
end
end Go.Vf
