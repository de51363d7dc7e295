/- The runner's first text, in the form that the kernel evaluates: concrete values (arrays as lists, temporaries and objects in trees), and how they are computed with. The runner's second text, in the form that the kernel evaluates: code, calls, loops. Conditions: none. -/
import Derived.Test.YtbglklaocjifhaaGreatEMa
open Nat renaming beq->AA,rec->AC,blt->AD,add->AH,ble->AJ,div->AK,sub->AM,succ->AO,mod->AS,mul->AT
open Bool renaming false->AB,true->AE,not->AI,rec->AN
open Go renaming IntKind->AF,FuncId->AP,BinOp->AU
open List renaming rec->AG
open Option renaming none->AL,some->AQ,rec->AR
set_option linter.unusedSimpArgs false
set_option linter.unusedVariables false
namespace Go.Vf
open Go
noncomputable section
inductive CD where
 |int (k:AF) (n:IX)
 |bool (b:Bool)
 |str (l:List UInt8)
 |nil
 |sl (sz n:Nat) (rows:List (List CD))
 |raw (v:Value)
inductive CA where
 |d (x:CD)
 |any
 |und
 |agg (cs:List CA)
 |tuple (vs:List CA)
 |ptr (l off:Nat)
 |aptr (l sz i off:Nat)
 |dptr (row:List CD) (off:Nat)
 |dfs (sz n:Nat) (rows:List (List CD))
 |msl (l sz:Nat) (start:Option Nat) (len:Nat) (full:Bool)
 |vsl (l off n:Nat)
 |map (l:Nat)
 |fn (f:AP) (first cap:List CA)
 |ge (m:Nat)
 |yl (l:Nat)
inductive BT (α:Type) where
 |leaf
 |node (v:α) (l r:BT α)
inductive b0h where
 |var (cs:List CA)
 |arr (sz n:Nat) (rows:List (List CD))
 |frz (sz n:Nat) (rows:List (List CD))
 |map (wide:Bool) (ks:List AF) (n:Nat) (es:List (List KC×Int))
 |mapv (wide:Bool) (ks:List AF) (keys:List (List KC)) (vals:List CA)
 |loop (s:LSt) (ts:BT CA) (ps:List Nat) (A:Ann) (a b:a0c)
 |gone
abbrev TS:=BT CA
structure CH where
 n:Nat
 t:BT b0h
def xf (_:Nat):Bool:=AB
def fN (n:Nat)(k:Nat->Bool):Bool:=
 @AC (fun _=>(Nat->Bool)->Bool) (fun k=>k .zero) (fun m _ k=>k (.succ m)) n k
def fI (n:Int)(k:Int->Bool):Bool:=
 match n with
 | .ofNat m=>fN m fun m=>k (.ofNat m)
 | .negSucc m=>fN m fun m=>k (.negSucc m)
def fB (b:Bool)(k:Bool->Bool):Bool:=
 match b with
 |true=>k AE
 |false=>k AB
def xlt:Int->Int->Bool
 | .ofNat a,.ofNat b=>AD a b
 | .ofNat _,.negSucc _=>AB
 | .negSucc _,.ofNat _=>AE
 | .negSucc a,.negSucc b=>AD b a
def xle (a b:Int):Bool:=AI (xlt b a)
def xeq:Int->Int->Bool
 | .ofNat a,.ofNat b=>AA a b
 | .negSucc a,.negSucc b=>AA a b
 |_,_=>AB
def kEq (a b:AF):Bool:=AA a.ctorIdx b.ctorIdx
def d3z (k:AF)(x:Int):Bool:=
 match k with
 | .i64=>match x with
   | .ofNat n=>AD n 9223372036854775808
   | .negSucc n=>AD n 9223372036854775808
 |k=>xeq (k.wrap x) x
section
variable {α:Type}
def d2f (k:α->Bool)(l:List α)(i:Nat):Bool:=
 @AG α (fun _=>(α->Bool)->Nat->Bool) (fun _ _=>xf 1) (fun x _ ih k i=> @AC (fun _=>Bool) (k x) (fun i _=>ih k i) i) l k i
def c8b (t:BT α)(i:Nat)(k:α->Bool):Bool:=
 @BT.rec α (fun _=>Nat->(α->Bool)->Bool) (fun _ _=>xf 1)
   (fun v _ _ il ir i k=> @AC (fun _=>Bool) (k v) (fun j _=> @AC (fun _=>Bool) (il (AK j 2) k) (fun _ _=>ir (AK j 2) k) (AS j 2)) i) t i k
def d4t (t:BT α)(i:Nat)(y:α)(k:BT α->Bool):Bool:=
 @BT.rec α (fun _=>Nat->α->(BT α->Bool)->Bool) (fun _ _ _=>xf 2)
   (fun v l r il ir i y k=> @AC (fun _=>Bool) (k (.node y l r)) (fun j _=> @AC (fun _=>Bool) (il (AK j 2) y fun l'=>k (.node v l' r)) (fun _ _=>ir (AK j 2) y fun r'=>k (.node v l r')) (AS j 2)) i) t i y k
def d1i (t:BT α)(i:Nat)(y:α)(k:BT α->Bool):Bool:=
 @BT.rec α (fun _=>Nat->α->(BT α->Bool)->Bool) (fun i y k=> @AC (fun _=>Bool) (k (.node y .leaf .leaf)) (fun _ _=>xf 2) i)
   (fun v l r il ir i y k=> @AC (fun _=>Bool) (xf 2) (fun j _=> @AC (fun _=>Bool) (il (AK j 2) y fun l'=>k (.node v l' r)) (fun _ _=>ir (AK j 2) y fun r'=>k (.node v l r')) (AS j 2)) i) t i y k
def mkT (x:α)(d n:Nat):BT α:=
 @AC (fun _=>α->Nat->BT α) (fun _ _=> .leaf) (fun _ ih x n=> @AC (fun _=>BT α) .leaf (fun j _=> .node x (ih x (AK (AO j) 2)) (ih x (AK j 2))) n) d x n
def e6b (l:List α)(i:Nat)(y:α)(k:List α->Bool):Bool:=
 @AG α (fun _=>Nat->α->(List α->Bool)->Bool) (fun _ _ _=>xf 2) (fun x l ih i y k=> @AC (fun _=>Bool) (k (y::l)) (fun i _=>ih i y fun l=>k (x::l)) i) l i y k
def e1y (l:List α)(i n:Nat)(k:List α->Bool):Bool:=
 @AG α (fun _=>Nat->Nat->(List α->Bool)->Bool)
   (fun i n k=> @AC (fun _=>Bool) (@AC (fun _=>Bool) (k []) (fun _ _=>xf 3) n) (fun _ _=>xf 3) i)
   (fun x _ ih i n k=> @AC (fun _=>Bool) (@AC (fun _=>Bool) (k []) (fun n _=>ih .zero n fun r=>k (x::r)) n) (fun i _=>ih i n k) i) l i n k
def e0w (l:List α)(i:Nat)(new:List α)(k:List α->Bool):Bool:=
 @AG α (fun _=>Nat->List α->(List α->Bool)->Bool)
   (fun i new k=> @AC (fun _=>Bool) (@AG α (fun _=>Bool) (k []) (fun _ _ _=>xf 4) new) (fun _ _=>xf 4) i)
   (fun x l ih i new k=> @AC (fun _=>Bool) (@AG α (fun _=>Bool) (k (x::l)) (fun y new _=>ih .zero new fun r=>k (y::r)) new) (fun i _=>ih i new fun r=>k (x::r)) i) l i new k
def d1s (l m:List α)(k:List α->Bool):Bool:=
 @AG α (fun _=>List α->(List α->Bool)->Bool) (fun m k=>k m) (fun x _ ih m k=>ih m fun r=>k (x::r)) l m k
def b0e (l:List α)(n:Nat)(m:List α)(k:List α->Bool):Bool:=
 @AG α (fun _=>Nat->List α->(List α->Bool)->Bool) (fun n m k=> @AC (fun _=>Bool) (k m) (fun _ _=>xf 5) n)
   (fun x _ ih n m k=> @AC (fun _=>Bool) (k m) (fun n _=>ih n m fun r=>k (x::r)) n) l n m k
def c0s (l:List α)(n:Nat)(k:List α->Bool):Bool:=
 match n with
 | .zero=>k l
 | .succ n=>match l with
   |[]=>k []
   |_::l=>c0s l n k
def c5x (l:List α)(i m:Nat)(new:List α)(k:List α->Bool):Bool:=
 match l with
 |[]=>match i with
  | .zero=>match m with
    | .zero=>k []
    | .succ _=>xf 6
  | .succ _=>xf 6
 |x::l=>match i with
  | .zero=>match m with
    | .zero=>k (x::l)
    | .succ m=>match new with
      |[]=>xf 6
      |y::new=>c5x l .zero m new fun r=>k (y::r)
  | .succ i=>c5x l i m new fun r=>k (x::r)
def d9p (x:α)(n:Nat)(k:List α->Bool):Bool:=
 @AC (fun _=>α->(List α->Bool)->Bool) (fun _ k=>k []) (fun _ ih x k=>ih x fun r=>k (x::r)) n x k
def d7i (l:List α)(n:Nat)(k:Nat->Bool):Bool:=
 @AG α (fun _=>Nat->(Nat->Bool)->Bool) (fun n k=>k n) (fun _ _ ih n k=>ih (.succ n) k) l n k
end
mutual
def cdK (x:DV)(k:CD->Bool):Bool:=
 match x with
 | .int kd n=>k (.int kd n)
 | .bool b=>k (.bool b)
 | .str l=>k (.str l)
 | .nil=>k .nil
 | .raw v=>k (.raw v)
 | .sl .. =>xf 7
def c5z (l:List DV)(k:List CD->Bool):Bool:=
 match l with
 |[]=>k []
 |x::l=>cdK x fun x=>c5z l fun l=>k (x::l)
end
def e1i (l:List AV)(k:List CA->Bool):Bool:=
 match l with
 |[]=>k []
 |x::l=>match x with
  | .d x=>cdK x fun x=>e1i l fun l=>k (.d x::l)
  |_=>xf 8
def caK (x:AV)(k:CA->Bool):Bool:=
 match x with
 | .d x=>cdK x fun x=>k (.d x)
 | .agg cs=>e1i cs fun cs=>k (.agg cs)
 | .fn f [] []=>k (.fn f [] [])
 |_=>xf 9
def a1j (ts:TS)(o:a0h)(k:CA->Bool):Bool:=
 @a0h.rec (fun _=>TS->(CA->Bool)->Bool) (fun i ts k=>c8b ts i k) (fun v _ k=>caK v k) o ts k
def c4f (ts:TS)(l:List a0h)(k:List CA->Bool):Bool:=
 @AG a0h (fun _=>TS->(List CA->Bool)->Bool) (fun _ k=>k []) (fun x _ ih ts k=>a1j ts x fun x=>ih ts fun l=>k (x::l)) l ts k
def CA.cells:CA->List CA
 | .agg cs=>cs
 |v=>[v]
def dL (l:List CD)(k:List CA->Bool):Bool:=
 @AG CD (fun _=>(List CA->Bool)->Bool) (fun k=>k []) (fun x _ ih k=>ih fun l=>k (.d x::l)) l k
def CH.get (h:CH)(l:Nat)(k:b0h->Bool):Bool:=
 @CH.rec (fun _=>Nat->(b0h->Bool)->Bool) (fun _ t l k=>c8b t l k) h l k
def CH.set (h:CH)(l:Nat)(o:b0h)(k:CH->Bool):Bool:=
 @CH.rec (fun _=>Nat->b0h->(CH->Bool)->Bool) (fun n t l o k=>d4t t l o fun t=>k ⟨n,t⟩) h l o k
def CH.num (h:CH)(k:Nat->Bool):Bool:=
 @CH.rec (fun _=>(Nat->Bool)->Bool) (fun n _ k=>k n) h k
def CH.add (h:CH)(o:b0h)(k:Nat->CH->Bool):Bool:=
 @CH.rec (fun _=>b0h->(Nat->CH->Bool)->Bool) (fun n t o k=>d1i t n o fun t=>fN (AO n) fun m=>k n ⟨m,t⟩) h o k
def CA.one:CA->Bool
 | .und=>AB
 | .any=>AB
 | .agg _=>AB
 | .tuple _=>AB
 |_=>AE
def b6d (vs:List CA)(k:Unit->Bool):Bool:=
 @AG CA (fun _=>(Unit->Bool)->Bool) (fun k=>k ()) (fun v _ ih k=> @AN (fun _=>Bool) (xf 12) (ih k) v.one) vs k
def d3i (s:Option Nat)(n:Nat)(k:Nat->Bool):Bool:=
 match s with
 |none=>k n
 |some s=>fN (AH s n) k
def a0w (c:Bool)(k:Bool):Bool:=
 @AN (fun _=>Bool->Bool) (fun _=>xf 13) (fun k=>k) c k
def d7x (rows:List (List CD))(s:Option Nat)(k:List (List CD)->Bool):Bool:=
 match s with
 |none=>k rows
 |some s=>c0s rows s k
def c4l (h:CH)(v:CA)(k:Nat->Nat->List (List CD)->Bool):Bool:=
 match v with
 | .d (.sl sz n e)=>k sz n e
 | .dfs sz n e=>k sz n e
 | .msl l sz s n _=>h.get l fun
   | .arr sz' m e=>a0w (AA sz sz') (d3i s n fun sn=>a0w (AJ sn m) (d7x e s fun e=>k sz n e))
   | .frz sz' m e=>a0w (AA sz sz') (d3i s n fun sn=>a0w (AJ sn m) (d7x e s fun e=>k sz n e))
   |_=>xf 14
 |_=>xf 15
def onD (v:CA)(k:CD->Bool):Bool:=
 match v with
 | .d x=>k x
 | .fn f [] []=>k (.raw (.func (.func f) #[] #[]))
 |_=>xf 16
def d6i (l:List CA)(k:List CD->Bool):Bool:=
 @AG CA (fun _=>(List CD->Bool)->Bool) (fun k=>k []) (fun x _ ih k=>onD x fun x=>ih fun l=>k (x::l)) l k
def d3q (l:List CD)(k:List (List CD)->Bool):Bool:=
 match l with
 |[]=>k []
 |x::l=>d3q l fun l=>k ([x]::l)
def d1c (h:CH)(v:CA)(k:CA->Bool):Bool:=
 match v with
 | .vsl l off n=>h.get l fun
   | .var cs=>e1y cs off n fun c=>d6i c fun ds=>d3q ds fun rs=>k (.d (.sl 1 n rs))
   |_=>xf 17
 | .msl l sz s n f=>c4l h (.msl l sz s n f) fun sz n e=>k (.d (.sl sz n e))
 | .dfs sz n e=>k (.d (.sl sz n e))
 |v=>k v
def b7o (h:CH)(vs:List CA)(k:List CA->Bool):Bool:=
 match vs with
 |[]=>k []
 |v::r=>d1c h v fun v=>b7o h r fun r=>k (v::r)
def b3p (h:CH)(vs:List CA)(k:List CA->Bool):Bool:=
 match vs with
 |[]=>k []
 |v::r=>match v with
  | .agg cs=>b7o h cs fun cs=>b3p h r fun r=>k (.agg cs::r)
  |v=>d1c h v fun v=>b3p h r fun r=>k (v::r)
def b0r (h:CH)(v:CA)(k:CA->CH->Bool):Bool:=
 match v with
 | .msl l sz s n f=>c4l h (.msl l sz s n f) fun sz n e=>h.get l fun
   | .arr sz' m e'=>h.set l (.frz sz' m e') fun h=>k (.d (.sl sz n e)) h
   |_=>k (.d (.sl sz n e)) h
 | .dfs sz n e=>k (.d (.sl sz n e)) h
 |v=>k v h
def a3l (h:CH)(vs:List CA)(k:List CA->CH->Bool):Bool:=
 match vs with
 |[]=>k [] h
 |v::r=>b0r h v fun v h=>a3l h r fun r h=>k (v::r) h
def a6a (h:CH)(l:Nat)(k:CA->CH->Bool):Bool:=
 h.get l fun
  | .var cs=>a3l h cs fun cs h=>d6i cs fun row=>h.set l .gone fun h=>k (.dptr row .zero) h
  |_=>xf 92
def a3k (h:CH)(vs:List CA)(k:List CA->CH->Bool):Bool:=
 match vs with
 |[]=>k [] h
 |v::r=>match v with
  | .agg cs=>a3l h cs fun cs h=>a3k h r fun r h=>k (.agg cs::r) h
  | .ptr l .zero=>a6a h l fun v h=>a3k h r fun r h=>k (v::r) h
  |v=>b0r h v fun v h=>a3k h r fun r h=>k (v::r) h
def b9i (h:CH)(v:CA)(k:List CD->CH->Bool):Bool:=
 a3l h v.cells fun cs h=>d6i cs fun l=>k l h
def a8y (op:AU)(kd:AF)(x y:IX)(k:CD->Bool):Bool:=
 match op with
 | .add=>match x,y with
   | .l a,.l b=>fI (Int.add a b) fun c=>a0w (d3z kd c) (k (.int kd (.l c)))
   |x,y=>fI (Int.add x.val y.val) fun c=>a0w (d3z kd c) (k (.int kd (.v c)))
 | .sub=>match x,y with
   | .l a,.l b=>fI (Int.sub a b) fun c=>a0w (d3z kd c) (k (.int kd (.l c)))
   |x,y=>fI (Int.sub x.val y.val) fun c=>a0w (d3z kd c) (k (.int kd (.v c)))
 | .mul=>fI (Int.mul x.val y.val) fun c=>a0w (d3z kd c) (k (.int kd (.v c)))
 | .quo=>a0w (AI (xeq y.val (.ofNat .zero))) (fI (Int.tdiv x.val y.val) fun c=>a0w (d3z kd c) (k (.int kd (.v c))))
 | .rem=>a0w (AI (xeq y.val (.ofNat .zero))) (fI (Int.tmod x.val y.val) fun c=>k (.int kd (.v c)))
 | .eql=>fB (xeq x.val y.val) fun b=>k (.bool b)
 | .neq=>fB (xeq x.val y.val) fun b=>match b with
   |true=>k (.bool AB)
   |false=>k (.bool AE)
 | .lss=>fB (xlt x.val y.val) fun b=>k (.bool b)
 | .gtr=>fB (xlt y.val x.val) fun b=>k (.bool b)
 | .leq=>fB (xle x.val y.val) fun b=>k (.bool b)
 | .geq=>fB (xle y.val x.val) fun b=>k (.bool b)
 |_=>xf 18
def g2e (a b:Bool):Bool:=
 match a with
 |true=>b
 |false=>AI b
def e3k (ks:List AF)(xs ys:List CA)(k:Bool->Bool):Bool:=
 match ks with
 |[]=>match xs with
  |[]=>match ys with
   |[]=>k AE
   |_=>xf 19
  |_=>xf 19
 |kd::ks=>match xs with
  | .d (.int k1 x)::xs=>match ys with
    | .d (.int k2 y)::ys=>a0w (kEq kd k1) (a0w (kEq kd k2) (e3k ks xs ys fun b=>match xeq x.val y.val with
      |true=>k b
      |false=>k AB))
    |_=>xf 19
  |_=>xf 19
def c3v (ks:List CK)(xs ys:List CA)(k:Bool->Bool):Bool:=
 match ks with
 |[]=>match xs with
  |[]=>match ys with
   |[]=>k AE
   |_=>xf 19
  |_=>xf 19
 |kd::ks=>match xs with
  | .d x::xs=>match ys with
    | .d y::ys=>match kd with
      | .i kd=>match x with
        | .int k1 x=>match y with
          | .int k2 y=>a0w (kEq kd k1) (a0w (kEq kd k2) (c3v ks xs ys fun b=>match xeq x.val y.val with
            |true=>k b
            |false=>k AB))
          |_=>xf 19
        |_=>xf 19
      | .o=>match x with
        | .bool x=>match y with
          | .bool y=>c3v ks xs ys fun b=>match g2e x y with
            |true=>k b
            |false=>k AB
          |_=>xf 19
        |_=>xf 19
    |_=>xf 19
  |_=>xf 19
def a8w (ks:List AF)(xs:List CA)(k:List KC->Bool):Bool:=
 match ks with
 |[]=>match xs with
  |[]=>k []
  |_=>xf 20
 |kd::ks=>match xs with
  | .d (.int kd' x)::xs=>a0w (kEq kd kd') (a0w (d3z kd x.val) (a8w ks xs fun l=>k (.i x.val::l)))
  |_=>xf 20
def a6w (wide:Bool)(ks:List AF)(v:CA)(k:List KC->Bool):Bool:=
 match v with
 | .agg cs=>match wide with
   |true=>a8w ks cs k
   |false=>xf 21
 |v=>match wide with
  |true=>xf 21
  |false=>a8w ks [v] k
def d4u:List AF->List AF->Bool
 |[],[]=>AE
 |a::l,b::m=>match kEq a b with
  |true=>d4u l m
  |false=>AB
 |_,_=>AB
def b6r:List UInt8->List UInt8->Bool
 |[],[]=>AE
 |a::l,b::m=>match AA a.toNat b.toNat with
  |true=>b6r l m
  |false=>AB
 |_,_=>AB
def bEq (a b:Bool):Bool:=
 match a with
 |true=>b
 |false=>AI b
def d6u:KC->KC->Bool
 | .i a,.i b=>xeq a b
 | .o a,.o b=>bEq a b
 | .s a,.s b=>b6r a b
 |_,_=>AB
def d0y:List KC->List KC->Bool
 |[],[]=>AE
 |a::l,b::m=>match d6u a b with
  |true=>d0y l m
  |false=>AB
 |_,_=>AB
def c7a (es:List (List KC×Int))(kc:List KC)(k:Option Int->Bool):Bool:=
 match es with
 |[]=>k AL
 |e::es=>match e with
  |(k',v)=>match d0y kc k' with
   |true=>k (AQ v)
   |false=>c7a es kc k
def c2u (kc:List KC)(ks:List (List KC))(vs:List CA)(k:Option CA->Bool):Bool:=
 match ks with
 |[]=>k AL
 |k'::ks=>match vs with
  |[]=>k AL
  |v::vs=>match d0y kc k' with
   |true=>k (AQ v)
   |false=>c2u kc ks vs k
def d2k (kc:List KC)(x:CA)(ks:List (List KC))(vs:List CA)(k:Option (List CA)->Bool):Bool:=
 match ks with
 |[]=>k AL
 |k'::ks=>match vs with
  |[]=>k AL
  |v::vs=>match d0y kc k' with
   |true=>k (AQ (x::vs))
   |false=>d2k kc x ks vs fun r=>match r with
    |some l=>k (AQ (v::l))
    |none=>k AL
def d1y (kc:List KC)(ks:List (List KC))(n:Nat)(k:Option Nat->Bool):Bool:=
 match ks with
 |[]=>k AL
 |k'::ks=>match d0y kc k' with
  |true=>k (AQ n)
  |false=>d1y kc ks (.succ n) k
def e1q (rs:List (List CA))(k:List (List CD)->Bool):Bool:=
 @AG (List CA) (fun _=>(List (List CD)->Bool)->Bool) (fun k=>k []) (fun r _ ih k=>d6i r fun l=>ih fun ls=>k (l::ls)) rs k
def a9z (v:CA)(k:IX->Bool):Bool:=
 match v with
 | .d (.int .i64 n)=>k n
 |_=>xf 22
def b9d (v:CA)(k:Bool->Bool):Bool:=
 match v with
 | .d (.bool b)=>k b
 |_=>xf 23
def c3s (n:IX)(k:Nat->Bool):Bool:=
 match n.val with
 | .ofNat m=>k m
 | .negSucc _=>k .zero
def c3j (ts:TS)(cs:List CA)(ps:List (Nat×Nat×a0h))(k:List CA->Bool):Bool:=
 match ps with
 |[]=>k cs
 |p::r=>match p with
  |(off,sz,x)=>a1j ts x fun v=>d7i v.cells .zero fun n=>a0w (AA n sz) (b6d v.cells (fun _=>e0w cs off v.cells fun cs=>c3j ts cs r k))
def b6y (ts:TS)(sz:Nat)(rs:List (List CA))(ps:List (Nat×a0h))(k:List (List CA)->Bool):Bool:=
 match ps with
 |[]=>k rs
 |p::r=>match p with
  |(i,x)=>a1j ts x fun v=>d7i v.cells .zero fun n=>a0w (AA n sz) (b6d v.cells (fun _=>e6b rs i v.cells fun rs=>b6y ts sz rs r k))
def a7s (h:CH)(rs:List (List CA))(k:List (List CD)->CH->Bool):Bool:=
 match rs with
 |[]=>k [] h
 |r::rs=>a3l h r fun cs h=>d6i cs fun l=>a7s h rs fun ls h=>k (l::ls) h
def c1i (row:List CD)(off:Nat)(agg:Option Nat)(k:CA->Bool):Bool:=
 match agg with
 |none=>d2f (fun v=>k (.d v)) row off
 |some m=>e1y row off m fun c=>dL c fun c=>k (.agg c)
def d9x (rows:List (List CD))(i:Nat)(k:List CD->Bool):Bool:=d2f k rows i
def c3r (h:CH)(p:CA)(agg:Option Nat)(k:CA->Bool):Bool:=
 match p with
 | .ptr l off=>h.get l fun
   | .var cs=>match agg with
     |none=>d2f k cs off
     |some n=>e1y cs off n fun c=>k (.agg c)
   |_=>xf 24
 | .aptr l sz i off=>h.get l fun
   | .arr sz' n e=>a0w (AA sz sz') (a0w (AD i n) (d9x e i fun r=>c1i r off agg k))
   | .frz sz' n e=>a0w (AA sz sz') (a0w (AD i n) (d9x e i fun r=>c1i r off agg k))
   |_=>xf 25
 | .dptr row off=>c1i row off agg k
 |_=>xf 26
def b8w (h:CH)(p v:CA)(sz:Nat)(k:CH->Bool):Bool:=
 match p with
 | .ptr l off=>d7i v.cells .zero fun n=>a0w (AA n sz) (b6d v.cells (fun _=>h.get l fun
   | .var cs=>e0w cs off v.cells fun cs=>h.set l (.var cs) k
   |_=>xf 27))
 | .aptr l sz' i off=>d7i v.cells .zero fun n=>a0w (AA n sz) (b6d v.cells (fun _=>h.get l fun
   | .arr _ _ _=>b9i h v fun new h=>h.get l fun
     | .arr sz'' n e=>a0w (AA sz' sz'') (a0w (AD i n) (d9x e i fun r=>e0w r off new fun r=>e6b e i r fun e=>h.set l (.arr sz'' n e) k))
     |_=>xf 28
   |_=>xf 28))
 |_=>xf 29
def CA.free:CA->Bool
 | .d _=>AE
 | .dfs .. =>AE
 | .dptr .. =>AE
 | .fn _ [] []=>AE
 |_=>AB
def c2w (vs:List CA)(k:Unit->Bool):Bool:=
 match vs with
 |[]=>k ()
 |v::l=>match v.free with
  |true=>c2w l k
  |false=>xf 30
def a7k (vs:List CA)(k:Unit->Bool):Bool:=
 match vs with
 |[]=>k ()
 |v::l=>match v with
  | .agg cs=>c2w cs fun _=>a7k l k
  |v=>match v.free with
   |true=>a7k l k
   |false=>xf 31
def CA.isPtr:CA->Bool
 | .ptr .. =>AE
 | .aptr .. =>AE
 | .dptr .. =>AE
 |_=>AB
def c2t (ts:TS)(x:Option a0h)(d:IX)(k:IX->Bool):Bool:=
 match x with
 |none=>k d
 |some o=>a1j ts o fun v=>a9z v k
def a7g (s:Option Nat)(lo:IX)(k:Option Nat->Bool):Bool:=
 match lo with
 | .l n=>match n with
   | .ofNat m=>match m with
     | .zero=>k s
     | .succ m=>match s with
       |none=>k (AQ (.succ m))
       |some t=>fN (AH t (.succ m)) fun t=>k (AQ t)
   | .negSucc _=>xf 32
 | .v n=>c3s (.v n) fun m=>match s with
   |none=>k (AQ m)
   |some t=>fN (AH t m) fun t=>k (AQ t)
def a8j (ts:TS)(sz:Nat)(x:CA)(lo hi mx:Option a0h)(k:CA->Bool):Bool:=
 match x with
 | .msl l sz' s n f=>a0w (AA sz sz') (c2t ts lo (.l (.ofNat .zero)) fun lo=>c2t ts hi (.v (.ofNat n)) fun hi=>
    a0w (xle (.ofNat .zero) lo.val) (a0w (xle lo.val hi.val) (a0w (xle hi.val (.ofNat n)) (
     c3s hi fun hin=>c3s lo fun lon=>fN (AM hin lon) fun len=>match mx with
      |none=>match f with
       |true=>a0w (xeq hi.val (.ofNat n)) (a7g s lo fun s=>k (.msl l sz s len AE))
       |false=>a7g s lo fun s=>k (.msl l sz s len AB)
      |some m=>a1j ts m fun v=>a9z v fun m=>a0w (xeq m.val hi.val) (a7g s lo fun s=>k (.msl l sz s len AE))))))
 | .d (.sl sz' n e)=>a0w (AA sz sz') (c2t ts lo (.l (.ofNat .zero)) fun lo=>c2t ts hi (.v (.ofNat n)) fun hi=>
    a0w (xle (.ofNat .zero) lo.val) (a0w (xle lo.val hi.val) (a0w (xle hi.val (.ofNat n)) (
     c3s hi fun hin=>c3s lo fun lon=>fN (AM hin lon) fun len=>c0s e lon fun e=>match mx with
      |none=>k (.d (.sl sz len e))
      |some m=>a1j ts m fun v=>a9z v fun m=>a0w (xeq m.val hi.val) (k (.dfs sz len e))))))
 | .d .nil=>c2t ts lo (.l (.ofNat .zero)) fun lo=>c2t ts hi (.l (.ofNat .zero)) fun hi=>a0w (xeq lo.val (.ofNat .zero)) (a0w (xeq hi.val (.ofNat .zero)) (match mx with
    |none=>k (.d .nil)
    |some m=>a1j ts m fun v=>a9z v fun m=>a0w (xeq m.val (.ofNat .zero)) (k (.d .nil))))
 |_=>xf 33
def e0d (i:IX)(n:Nat)(k:Nat->Bool):Bool:=
 match i.val with
 | .ofNat m=>a0w (AD m n) (k m)
 | .negSucc _=>xf 34
def a9e (sz:Nat)(x:CA)(i:IX)(k:CA->Bool):Bool:=
 match x with
 | .msl l sz' s n _=>a0w (AA sz sz') (e0d i n fun j=>d3i s j fun j=>k (.aptr l sz j .zero))
 | .d (.sl sz' n e)=>a0w (AA sz sz') (e0d i n fun j=>d9x e j fun r=>k (.dptr r .zero))
 | .dfs sz' n e=>a0w (AA sz sz') (e0d i n fun j=>d9x e j fun r=>k (.dptr r .zero))
 |_=>xf 35
def b6h (sz:Nat)(h:CH)(v:CA)(k:Nat->Nat->List (List CD)->Bool):Bool:=
 match v with
 | .d .nil=>k sz .zero []
 |v=>c4l h v k
def c3e (l m:Nat)(v:CA)(k:CA->Bool):Bool:=
 @AN (fun _=>Bool) (k v) (k .any) (AA l m)
def c7q (l:Nat)(v:CA)(k:CA->Bool):Bool:=
 @CA.rec (fun _=>Nat->(CA->Bool)->Bool) (fun _=>Nat->(List CA->Bool)->Bool)
   (fun x _ k=>k (.d x)) (fun _ k=>k .any) (fun _ k=>k .und) (fun _ ih l k=>ih l fun cs=>k (.agg cs)) (fun _ ih l k=>ih l fun cs=>k (.tuple cs))
   (fun m off l k=>c3e l m (.ptr m off) k) (fun m sz i off l k=>c3e l m (.aptr m sz i off) k) (fun row off _ k=>k (.dptr row off)) (fun sz n e _ k=>k (.dfs sz n e))
   (fun m sz s n f l k=>c3e l m (.msl m sz s n f) k) (fun m off n l k=>c3e l m (.vsl m off n) k) (fun m l k=>c3e l m (.map m) k)
   (fun f _ _ ihu ihc l k=>ihu l fun us=>ihc l fun cs=>k (.fn f us cs)) (fun m _ k=>k (.ge m)) (fun m l k=>c3e l m (.yl m) k)
   (fun _ k=>k []) (fun _ _ ih ihs l k=>ih l fun v=>ihs l fun r=>k (v::r)) v l k
def a8d (l:Nat)(vs:List CA)(k:List CA->Bool):Bool:=
 @CA.rec_1 (fun _=>Nat->(CA->Bool)->Bool) (fun _=>Nat->(List CA->Bool)->Bool)
   (fun x _ k=>k (.d x)) (fun _ k=>k .any) (fun _ k=>k .und) (fun _ ih l k=>ih l fun cs=>k (.agg cs)) (fun _ ih l k=>ih l fun cs=>k (.tuple cs))
   (fun m off l k=>c3e l m (.ptr m off) k) (fun m sz i off l k=>c3e l m (.aptr m sz i off) k) (fun row off _ k=>k (.dptr row off)) (fun sz n e _ k=>k (.dfs sz n e))
   (fun m sz s n f l k=>c3e l m (.msl m sz s n f) k) (fun m off n l k=>c3e l m (.vsl m off n) k) (fun m l k=>c3e l m (.map m) k)
   (fun f _ _ ihu ihc l k=>ihu l fun us=>ihc l fun cs=>k (.fn f us cs)) (fun m _ k=>k (.ge m)) (fun m l k=>c3e l m (.yl m) k)
   (fun _ k=>k []) (fun _ _ ih ihs l k=>ih l fun v=>ihs l fun r=>k (v::r)) vs l k
def a4w (l:Nat)(t:TS)(k:TS->Bool):Bool:=
 @BT.rec CA (fun _=>Nat->(TS->Bool)->Bool) (fun _ k=>k .leaf) (fun v _ _ il ir l k=>c7q l v fun v=>il l fun tl=>ir l fun tr=>k (.node v tl tr)) t l k
def c1f (l:Nat)(o:b0h)(k:b0h->Bool):Bool:=
 match o with
 | .var cs=>a8d l cs fun cs=>k (.var cs)
 | .mapv wide ks keys vals=>a8d l vals fun vals=>k (.mapv wide ks keys vals)
 | .loop s ts ps A a b=>a4w l ts fun ts=>k (.loop s ts ps A a b)
 |o=>k o
def a1l (l:Nat)(t:BT b0h)(k:BT b0h->Bool):Bool:=
 @BT.rec b0h (fun _=>Nat->(BT b0h->Bool)->Bool) (fun _ k=>k .leaf) (fun v _ _ il ir l k=>c1f l v fun v=>il l fun tl=>ir l fun tr=>k (.node v tl tr)) t l k
def c1o (l:Nat)(h:CH)(k:CH->Bool):Bool:=
 @CH.rec (fun _=>Nat->(CH->Bool)->Bool) (fun n t l k=>a1l l t fun t=>k ⟨n,t⟩) h l k
def a6k (pg:List Nat)(ts:TS)(k:TS->Bool):Bool:=
 match pg with
 |[]=>k ts
 |l::pg=>a4w l ts fun ts=>a6k pg ts k
def b6p (l:Nat):List Nat->Bool
 |[]=>AB
 |m::r=>match AA l m with
  |true=>AE
  |false=>b6p l r
def a9x (base:Nat)(pg mv:List Nat)(k:List Nat->Bool):Bool:=
 match pg with
 |[]=>k mv
 |l::pg=>match AD l base with
  |true=>match b6p l mv with
   |true=>a9x base pg mv k
   |false=>a9x base pg (l::mv) k
  |false=>a9x base pg mv k
def e9q (v:CA)(k:CA->Bool):Bool:=
 @CA.rec (fun _=>(CA->Bool)->Bool) (fun _=>(List CA->Bool)->Bool)
   (fun x k=> @CD.rec (fun _=>(CA->Bool)->Bool) (fun _=>Bool) (fun _=>Bool) (fun kd n k=>k (.d (.int kd (.v n.val)))) (fun b k=>k (.d (.bool b))) (fun l k=>k (.d (.str l))) (fun k=>k (.d .nil)) (fun sz n e _ k=>k (.d (.sl sz n e))) (fun v k=>k (.d (.raw v))) AE (fun _ _ _ _=>AE) AE (fun _ _ _ _=>AE) x k)
   (fun k=>k .any) (fun k=>k .und) (fun _ ih k=>ih fun cs=>k (.agg cs)) (fun _ ih k=>ih fun cs=>k (.tuple cs))
   (fun m off k=>k (.ptr m off)) (fun m sz i off k=>k (.aptr m sz i off)) (fun row off k=>k (.dptr row off)) (fun sz n e k=>k (.dfs sz n e))
   (fun m sz s n f k=>k (.msl m sz s n f)) (fun m off n k=>k (.vsl m off n)) (fun m k=>k (.map m))
   (fun f _ _ ihu ihc k=>ihu fun us=>ihc fun cs=>k (.fn f us cs)) (fun m k=>k (.ge m)) (fun m k=>k (.yl m))
   (fun k=>k []) (fun _ _ ih ihs k=>ih fun v=>ihs fun r=>k (v::r)) v k
def a8f (vs:List CA)(k:List CA->Bool):Bool:=
 @CA.rec_1 (fun _=>(CA->Bool)->Bool) (fun _=>(List CA->Bool)->Bool)
   (fun x k=> @CD.rec (fun _=>(CA->Bool)->Bool) (fun _=>Bool) (fun _=>Bool) (fun kd n k=>k (.d (.int kd (.v n.val)))) (fun b k=>k (.d (.bool b))) (fun l k=>k (.d (.str l))) (fun k=>k (.d .nil)) (fun sz n e _ k=>k (.d (.sl sz n e))) (fun v k=>k (.d (.raw v))) AE (fun _ _ _ _=>AE) AE (fun _ _ _ _=>AE) x k)
   (fun k=>k .any) (fun k=>k .und) (fun _ ih k=>ih fun cs=>k (.agg cs)) (fun _ ih k=>ih fun cs=>k (.tuple cs))
   (fun m off k=>k (.ptr m off)) (fun m sz i off k=>k (.aptr m sz i off)) (fun row off k=>k (.dptr row off)) (fun sz n e k=>k (.dfs sz n e))
   (fun m sz s n f k=>k (.msl m sz s n f)) (fun m off n k=>k (.vsl m off n)) (fun m k=>k (.map m))
   (fun f _ _ ihu ihc k=>ihu fun us=>ihc fun cs=>k (.fn f us cs)) (fun m k=>k (.ge m)) (fun m k=>k (.yl m))
   (fun k=>k []) (fun _ _ ih ihs k=>ih fun v=>ihs fun r=>k (v::r)) vs k
def a2c (h:CH)(sz:Nat)(x y:CA)(mu:Bool)(k:CA->CH->List Nat->Bool):Bool:=
 b6h sz h y fun sz2 m e2=>a0w (AA sz sz2) (match x with
  | .d .nil=>a0w (AJ m 1073741824) (match mu with
    |true=>h.add (.arr sz m e2) fun n0 h'=>k (.msl n0 sz AL m AB) h' []
    |false=>k (.d (.sl sz m e2)) h [])
  | .dfs sz' n e=>a0w (AA sz sz') (fN (AH n m) fun nm=>a0w (AJ nm 1073741824) (a0w (AD .zero m) (b0e e n e2 fun e=>match mu with
    |true=>h.add (.arr sz nm e) fun n0 h'=>k (.msl n0 sz AL nm AB) h' []
    |false=>k (.d (.sl sz nm e)) h [])))
  | .msl l sz' AL n AB=>a0w (AA sz sz') (h.get l fun
    | .arr sz'' n' e=>a0w (AA sz sz'') (a0w (AA n' n) (fN (AH n m) fun nm=>a0w (AJ nm 1073741824) (b0e e n e2 fun e=>h.set l (.arr sz nm e) fun h=>c1o l h fun h=>k (.msl l sz AL nm AB) h [l])))
    |_=>xf 36)
  | .msl l sz' s n AE=>a0w (AA sz sz') (c4l h (.msl l sz' s n AE) fun _ n e=>fN (AH n m) fun nm=>a0w (AJ nm 1073741824) (a0w (AD .zero m) (b0e e n e2 fun e=>match mu with
    |true=>h.add (.arr sz nm e) fun n0 h'=>k (.msl n0 sz AL nm AB) h' []
    |false=>k (.d (.sl sz nm e)) h [])))
  |_=>xf 37)
def a8t (v:CA):Bool:=
 match v with
 | .d .nil=>AE
 | .d (.sl _ n _)=>AA n .zero
 | .dfs _ n _=>AA n .zero
 | .msl _ _ _ n _=>AA n .zero
 |_=>AB
def d1e (v:CA):Bool:=
 match v with
 | .dfs _ n _=>AA n .zero
 |_=>AB
def c6n (v:CA):Bool:=
 match v with
 | .d .nil=>AE
 |_=>AB
def c0o (s:Option Nat):Nat:=
 match s with
 |none=> .zero
 |some s=>s
def a8m (h:CH)(sz:Nat)(x y:CA)(k:CA->CH->Bool):Bool:=
 b6h sz h y fun sz2 m e2=>a0w (AA sz sz2) (match x with
  | .msl l sz' s n AB=>a0w (AA sz sz') (h.get l fun
    | .arr sz'' n' e=>a0w (AA sz sz'') (d3i s n fun sn=>a0w (AJ (AH sn m) n') (c5x e sn m e2 fun e=>h.set l (.arr sz n' e) fun h=>fN (AH n m) fun nm=>k (.msl l sz s nm AB) h))
    |_=>xf 38)
  |_=>xf 39)
def c3p (e:List (List CD))(n:Nat)(k:List CA->Bool):Bool:=
 match n with
 | .zero=>k []
 | .succ n=>match e with
   |[]=>xf 76
   |r::e=>match r with
    |[x]=>c3p e n fun l=>k (.d x::l)
    |_=>xf 77
def e5l (a b:Nat):Nat:=
 match AJ a b with
 |true=>a
 |false=>b
def b1r (h:CH)(sz:Nat)(x y:CA)(k:CA->CH->Bool):Bool:=
 b6h sz h y fun sz2 m e2=>a0w (AA sz sz2) (match x with
  | .msl l sz' s n _=>a0w (AA sz sz') (h.get l fun
    | .arr sz'' n' e=>a0w (AA sz sz'') (d3i s n fun sn=>a0w (AJ sn n') (fN (e5l n m) fun nm=>c5x e (c0o s) nm e2 fun e=>h.set l (.arr sz n' e) fun h=>k (.d (.int .i64 (.v (.ofNat nm)))) h))
    |_=>xf 40)
  | .vsl l off n=>a0w (AA sz 1) (h.get l fun
    | .var cs=>fN (e5l n m) fun nm=>c3p e2 nm fun new=>e0w cs off new fun cs=>h.set l (.var cs) fun h=>k (.d (.int .i64 (.v (.ofNat nm)))) h
    |_=>xf 78)
  |_=>xf 41)
def f1s (l:List UInt8)(i:Nat)(k:UInt8->Bool):Bool:=d2f k l i
structure XS where
 pcall:Bool->AP->List CA->(CA->Bool)->Bool
 call:AP->List CA->CH->(List Nat->CA->CH->Bool)->Bool
 yld:Nat->List CA->CH->(List Nat->CA->CH->Bool)->Bool
 loop:Ann->Nat->Bool->a0c->(Lv->TS->CH->List Nat->Bool)->TS->CH->List Nat->Bool
def c6k (v:CA):CA:=
 match v with
 | .d (.raw (.func (.func f) us vs))=>match AA us.size .zero with
   |true=>(match AA vs.size .zero with
    |true=> .fn f [] []
    |false=> .any)
   |false=> .any
 |v=>v
def f0b (X:XS)(ts:TS)(h:CH)(f:a0h)(args:List a0h)(m:Mode)(k:CA->CH->List Nat->Bool):Bool:=
 a1j ts f fun v=>match c6k v with
  | .fn f first cap=>c4f ts args fun args=>d1s args cap fun r=>d1s first r fun vs=>match m with
    | .borrow=>b3p h vs fun vs=>a7k vs (fun _=>a8f vs fun vs=>X.pcall AE f vs fun v=>k v h [])
    | .share=>a3k h vs fun vs h=>a7k vs (fun _=>a8f vs fun vs=>X.pcall AB f vs fun v=>k v h [])
    | .data=>a7k vs (fun _=>a8f vs fun vs=>X.pcall AB f vs fun v=>k v h [])
    | .raw=>a8f vs fun vs=>X.call f vs h fun pg v h=>k v h pg
    | .fresh=>xf 42
  | .yl l=>match m with
    | .raw=>c4f ts args fun args=>a8f args fun args=>X.yld l args h fun pg v h=>k v h pg
    |_=>xf 43
  |_=>xf 44
def b4a (ts:TS)(sz sz' n:Nat)(lo hi mx:Option a0h)(k:Unit->Bool):Bool:=
 a0w (AA sz sz') (c2t ts lo (.l (.ofNat .zero)) fun lo=>c2t ts hi (.v (.ofNat n)) fun hi=>c2t ts mx (.v (.ofNat n)) fun mx=>
  a0w (xle (.ofNat .zero) lo.val) (a0w (xle lo.val hi.val) (a0w (xle hi.val mx.val) (a0w (xle mx.val (.ofNat n)) (k ())))))
def f3i (x:a0h)(_:XS)(ts:TS)(h:CH)(k:CA->CH->List Nat->Bool):Bool:=
 a1j ts x fun v=>k v h []
def c1m (sz:Nat)(_:XS)(_:TS)(h:CH)(k:CA->CH->List Nat->Bool):Bool:=
 h.add (.arr sz .zero []) fun n0 h'=>k (.msl n0 sz AL .zero AB) h' []
def d5r (sz:Nat)(_:XS)(_:TS)(h:CH)(k:CA->CH->List Nat->Bool):Bool:=
 h.add (.arr sz .zero []) fun n0 h'=>k (.msl n0 sz AL .zero AB) h' []
def d6c (c:a0h)(a:a0h)(b:a0h)(_:XS)(ts:TS)(h:CH)(k:CA->CH->List Nat->Bool):Bool:=
 a1j ts c fun v=>b9d v fun c=>match c with
  |true=>a1j ts a fun v=>k v h []
  |false=>a1j ts b fun v=>k v h []
def c7c (zs:List DV)(_:XS)(_:TS)(h:CH)(k:CA->CH->List Nat->Bool):Bool:=
 c5z zs fun zs=>dL zs fun zs=>h.add (.var zs) fun n0 h'=>k (.ptr n0 .zero) h' []
def e4a (x:a0h)(_:XS)(ts:TS)(h:CH)(k:CA->CH->List Nat->Bool):Bool:=
 a1j ts x fun v=>b6d v.cells (fun _=>h.add (.var v.cells) fun n0 h'=>k (.ptr n0 .zero) h' [])
def c6y (zs:List DV)(ps:List (Nat×Nat×a0h))(_:XS)(ts:TS)(h:CH)(k:CA->CH->List Nat->Bool):Bool:=
 c5z zs fun zs=>dL zs fun zs=>c3j ts zs ps fun cs=>k (.agg cs) h []
def c2k (sz:Nat)(len:Nat)(zs:List DV)(ps:List (Nat×a0h))(mu:Bool)(_:XS)(ts:TS)(h:CH)(k:CA->CH->List Nat->Bool):Bool:=
 c5z zs fun zs=>dL zs fun zs=>d9p zs len fun rs=>b6y ts sz rs ps fun rs=>a7s h rs fun rows h=>match mu with
  |true=>h.add (.arr sz len rows) fun n0 h'=>k (.msl n0 sz AL len AB) h' []
  |false=>k (.d (.sl sz len rows)) h []
def d4z (agg:Option Nat)(x:a0h)(_:XS)(ts:TS)(h:CH)(k:CA->CH->List Nat->Bool):Bool:=
 a1j ts x fun p=>c3r h p agg fun v=>k v h []
def c6r (sz:Nat)(a:a0h)(x:a0h)(_:XS)(ts:TS)(h:CH)(k:CA->CH->List Nat->Bool):Bool:=
 a1j ts a fun p=>a1j ts x fun v=>b8w h p v sz fun h=>k .und h []
def c3k (x:a0h)(_:XS)(ts:TS)(h:CH)(k:CA->CH->List Nat->Bool):Bool:=
 a1j ts x fun v=>a0w v.isPtr (k v h [])
def e3f (op:AU)(x:a0h)(y:a0h)(_:XS)(ts:TS)(h:CH)(k:CA->CH->List Nat->Bool):Bool:=
 a1j ts x fun x=>a1j ts y fun y=>match x with
  | .d (.int kd a)=>match y with
    | .d (.int kd' b)=>a0w (kEq kd kd') (a8y op kd a b fun v=>k (.d v) h [])
    | .ge m=>match op with
      | .gtr=>a0w (kEq kd .i64) (a0w (xle a.val (.ofNat m)) (k (.d (.bool AB)) h []))
      |_=>xf 45
    |_=>xf 46
  |_=>xf 47
def f2y (op:AU)(x:a0h)(y:a0h)(_:XS)(ts:TS)(h:CH)(k:CA->CH->List Nat->Bool):Bool:=
 a1j ts x fun x=>a1j ts y fun y=>match x with
  | .d (.int kd a)=>match y with
    | .d (.int kd' b)=>match c6z op with
      | .zero=>xf 88
      | .succ n=>match n with
        | .zero=>a0w (xle (.ofNat .zero) b.val) (fI (c2b op kd a.val b.val) fun c=>k (.d (.int kd (.v c))) h [])
        | .succ n=>match n with
          | .zero=>a0w (kEq kd kd') (fI (d2j op kd a.val b.val) fun c=>k (.d (.int kd (.v c))) h [])
          | .succ _=>xf 88
    |_=>xf 88
  |_=>xf 88
def d5u (op:AU)(x:a0h)(y:a0h)(_:XS)(ts:TS)(h:CH)(k:CA->CH->List Nat->Bool):Bool:=
 a1j ts x fun x=>b9d x fun a=>a1j ts y fun y=>b9d y fun b=>match op with
  | .eql=>match a with
    |true=>k (.d (.bool b)) h []
    |false=>match b with
     |true=>k (.d (.bool AB)) h []
     |false=>k (.d (.bool AE)) h []
  | .neq=>match a with
    |false=>k (.d (.bool b)) h []
    |true=>match b with
     |true=>k (.d (.bool AB)) h []
     |false=>k (.d (.bool AE)) h []
  |_=>xf 48
def e2x (neg:Bool)(ks:List AF)(x:a0h)(y:a0h)(_:XS)(ts:TS)(h:CH)(k:CA->CH->List Nat->Bool):Bool:=
 a1j ts x fun x=>a1j ts y fun y=>match x with
  | .agg xs=>match y with
    | .agg ys=>e3k ks xs ys fun b=>match neg with
      |true=>(match b with
       |true=>k (.d (.bool AB)) h []
       |false=>k (.d (.bool AE)) h [])
      |false=>k (.d (.bool b)) h []
    |_=>xf 83
  |_=>xf 83
def d5b (neg:Bool)(ks:List CK)(x:a0h)(y:a0h)(_:XS)(ts:TS)(h:CH)(k:CA->CH->List Nat->Bool):Bool:=
 a1j ts x fun x=>a1j ts y fun y=>match x with
  | .agg xs=>match y with
    | .agg ys=>c3v ks xs ys fun b=>match neg with
      |true=>(match b with
       |true=>k (.d (.bool AB)) h []
       |false=>k (.d (.bool AE)) h [])
      |false=>k (.d (.bool b)) h []
    |_=>xf 83
  |_=>xf 83
def g1j (op:UnOp)(x:a0h)(_:XS)(ts:TS)(h:CH)(k:CA->CH->List Nat->Bool):Bool:=
 a1j ts x fun x=>match op with
  | .not=>b9d x fun b=>match b with
    |true=>k (.d (.bool AB)) h []
    |false=>k (.d (.bool AE)) h []
  | .neg=>match x with
    | .d (.int kd n)=>fI (Int.sub (.ofNat .zero) n.val) fun c=>a0w (d3z kd c) (k (.d (.int kd (.v c))) h [])
    |_=>xf 49
  |_=>xf 49
def d5v (kd:AF)(x:a0h)(_:XS)(ts:TS)(h:CH)(k:CA->CH->List Nat->Bool):Bool:=
 a1j ts x fun x=>match x with
  | .d (.int _ n)=>fI (kd.wrap n.val) fun c=>k (.d (.int kd (.v c))) h []
  |_=>xf 50
def d5h (f:AP)(first:List a0h)(cap:List a0h)(_:XS)(ts:TS)(h:CH)(k:CA->CH->List Nat->Bool):Bool:=
 c4f ts first fun us=>c4f ts cap fun cs=>k (.fn f us cs) h []
def d0g (wide:Bool)(ks:List AF)(_:XS)(_:TS)(h:CH)(k:CA->CH->List Nat->Bool):Bool:=
 h.add (.map wide ks .zero []) fun n0 h'=>k (.map n0) h' []
def b6o (sz:Nat)(zs:List DV)(_:Nat)(n:a0h)(_:XS)(ts:TS)(h:CH)(k:CA->CH->List Nat->Bool):Bool:=
 c5z zs fun zs=>a1j ts n fun v=>a9z v fun n=>a0w (xle (.ofNat .zero) n.val) (a0w (xle n.val (.ofNat 1073741824)) (c3s n fun n=>d9p zs n fun rows=>
  h.add (.arr sz n rows) fun n0 h'=>k (.msl n0 sz AL n AB) h' []))
def c7r (sz:Nat)(x:a0h)(lo:Option a0h)(hi:Option a0h)(mx:Option a0h)(_:XS)(ts:TS)(h:CH)(k:CA->CH->List Nat->Bool):Bool:=
 a1j ts x fun x=>a8j ts sz x lo hi mx fun v=>k v h []
def d0j (n:Nat)(x:a0h)(lo:Option a0h)(hi:Option a0h)(_:XS)(ts:TS)(h:CH)(k:CA->CH->List Nat->Bool):Bool:=
 a1j ts x fun x=>match x with
  | .ptr l off=>c2t ts lo (.l (.ofNat .zero)) fun lo=>c2t ts hi (.l (.ofNat n)) fun hi=>
     a0w (xle (.ofNat .zero) lo.val) (a0w (xle lo.val hi.val) (a0w (xle hi.val (.ofNat n)) (c3s lo fun lo=>c3s hi fun hi=>fN (AH off lo) fun off=>match AM hi lo with
      | .zero=>k (.d (.sl 1 .zero [])) h []
      | .succ m=>k (.vsl l off (.succ m)) h [])))
  |_=>xf 51
def c6l (off:Nat)(x:a0h)(_:XS)(ts:TS)(h:CH)(k:CA->CH->List Nat->Bool):Bool:=
 a1j ts x fun x=>match x with
  | .ptr l o=>fN (AH o off) fun o=>k (.ptr l o) h []
  | .aptr l sz i o=>fN (AH o off) fun o=>k (.aptr l sz i o) h []
  | .dptr row o=>fN (AH o off) fun o=>k (.dptr row o) h []
  |_=>xf 52
def c6v (off:Nat)(agg:Option Nat)(x:a0h)(_:XS)(ts:TS)(h:CH)(k:CA->CH->List Nat->Bool):Bool:=
 a1j ts x fun x=>match x with
  | .agg cs=>match agg with
    |none=>d2f (fun v=>k v h []) cs off
    |some n=>e1y cs off n fun c=>k (.agg c) h []
  |_=>xf 53
def c9b (sz:Nat)(x:a0h)(i:a0h)(_:XS)(ts:TS)(h:CH)(k:CA->CH->List Nat->Bool):Bool:=
 a1j ts i fun v=>a9z v fun i=>a1j ts x fun x=>a9e sz x i fun v=>k v h []
def c2m (n:Nat)(sz:Nat)(x:a0h)(i:a0h)(_:XS)(ts:TS)(h:CH)(k:CA->CH->List Nat->Bool):Bool:=
 a1j ts i fun v=>a9z v fun i=>a1j ts x fun x=>match x with
  | .ptr l off=>match i with
    | .l i=>match i with
      | .ofNat i=>a0w (AD i n) (fN (AH off (AT i sz)) fun o=>k (.ptr l o) h [])
      | .negSucc _=>xf 54
    | .v i=>match i with
      | .ofNat i=>a0w (AD i n) (fN (AH off (AT i sz)) fun o=>k (.ptr l o) h [])
      | .negSucc _=>xf 55
  |_=>xf 56
def c2a (wide:Bool)(ks:List AF)(ok:Bool)(m:a0h)(kx:a0h)(_:XS)(ts:TS)(h:CH)(k:CA->CH->List Nat->Bool):Bool:=
 a1j ts m fun m=>match m with
  | .map l=>h.get l fun
    | .map wide' ks' _ es=>a0w (match wide with|true=>wide'|false=>AI wide') (a0w (d4u ks ks') (a1j ts kx fun kx=>a6w wide ks kx fun kc=>c7a es kc fun r=>match r with
      |some n=>match ok with
       |true=>k (.tuple [.d (.int .i64 (.v n)),.d (.bool AE)]) h []
       |false=>k (.d (.int .i64 (.v n))) h []
      |none=>match ok with
       |true=>k (.tuple [.d (.int .i64 (.v (.ofNat .zero))),.d (.bool AB)]) h []
       |false=>k (.d (.int .i64 (.v (.ofNat .zero)))) h []))
    |_=>xf 57
  |_=>xf 58
def c2h (wide:Bool)(ks:List AF)(m:a0h)(kx:a0h)(x:a0h)(_:XS)(ts:TS)(h:CH)(k:CA->CH->List Nat->Bool):Bool:=
 a1j ts m fun m=>match m with
  | .map l=>h.get l fun
    | .map wide' ks' n es=>a0w (match wide with|true=>wide'|false=>AI wide') (a0w (d4u ks ks') (a1j ts kx fun kx=>a6w wide ks kx fun kc=>a1j ts x fun x=>a9z x fun x=>c7a es kc fun r=>match r with
      |some _=>h.set l (.map wide ks n ((kc,x.val)::es)) fun h=>k .und h []
      |none=>fN (AO n) fun n=>h.set l (.map wide ks n ((kc,x.val)::es)) fun h=>k .und h []))
    |_=>xf 59
  |_=>xf 60
def b6i (x:a0h)(i:Nat)(_:XS)(ts:TS)(h:CH)(k:CA->CH->List Nat->Bool):Bool:=
 a1j ts x fun x=>match x with
  | .tuple vs=>d2f (fun v=>k v h []) vs i
  |_=>xf 61
def d5y (f:a0h)(args:List a0h)(m:Mode)(X:XS)(ts:TS)(h:CH)(k:CA->CH->List Nat->Bool):Bool:=
 f0b X ts h f args m k
def e2a (x:a0h)(_:XS)(ts:TS)(h:CH)(k:CA->CH->List Nat->Bool):Bool:=
 a1j ts x fun x=>match x with
  | .d .nil=>k (.d (.int .i64 (.l (.ofNat .zero)))) h []
  | .d (.sl _ n _)=>k (.d (.int .i64 (.v (.ofNat n)))) h []
  | .dfs _ n _=>k (.d (.int .i64 (.v (.ofNat n)))) h []
  | .msl _ _ _ n _=>k (.d (.int .i64 (.v (.ofNat n)))) h []
  | .vsl _ _ n=>k (.d (.int .i64 (.v (.ofNat n)))) h []
  |_=>xf 62
def d4x (x:a0h)(_:XS)(ts:TS)(h:CH)(k:CA->CH->List Nat->Bool):Bool:=
 a1j ts x fun x=>match x with
  | .map l=>h.get l fun
    | .map _ _ n _=>k (.d (.int .i64 (.v (.ofNat n)))) h []
    |_=>xf 63
  |_=>xf 64
def e1w (x:a0h)(_:XS)(ts:TS)(h:CH)(k:CA->CH->List Nat->Bool):Bool:=
 a1j ts x fun x=>match x with
  | .msl l sz s n f=>h.get l fun
    | .arr sz' m _=>a0w (AA sz sz') (match f with
      |true=>k (.d (.int .i64 (.v (.ofNat n)))) h []
      |false=>match s with
       |none=>k (.ge m) h []
       |some s=>fN (AM m s) fun m=>k (.ge m) h [])
    |_=>xf 65
  |_=>xf 66
def e3l (x:a0h)(y:a0h)(_:XS)(ts:TS)(h:CH)(k:CA->CH->List Nat->Bool):Bool:=
 a1j ts x fun x=>a1j ts y fun y=>match x with
  | .d (.int kd a)=>match y with
    | .d (.int kd' b)=>a0w (kEq kd kd') (match xlt b.val a.val with
      |true=>k (.d (.int kd (.v b.val))) h []
      |false=>k (.d (.int kd (.v a.val))) h [])
    |_=>xf 67
  |_=>xf 68
def e1f (x:a0h)(y:a0h)(_:XS)(ts:TS)(h:CH)(k:CA->CH->List Nat->Bool):Bool:=
 a1j ts x fun x=>a1j ts y fun y=>match x with
  | .d (.int kd a)=>match y with
    | .d (.int kd' b)=>a0w (kEq kd kd') (match xlt a.val b.val with
      |true=>k (.d (.int kd (.v b.val))) h []
      |false=>k (.d (.int kd (.v a.val))) h [])
    |_=>xf 67
  |_=>xf 68
def c2g (sz:Nat)(_:Nat)(x:a0h)(y:a0h)(mu:Bool)(_:XS)(ts:TS)(h:CH)(k:CA->CH->List Nat->Bool):Bool:=
 a1j ts x fun x=>a1j ts y fun y=>a2c h sz x y mu k
def d5o (sz:Nat)(x:a0h)(y:a0h)(_:XS)(ts:TS)(h:CH)(k:CA->CH->List Nat->Bool):Bool:=
 a1j ts x fun x=>a1j ts y fun y=>b1r h sz x y fun v h=>k v h []
def f0n (_:XS)(_:TS)(_:CH)(_:CA->CH->List Nat->Bool):Bool:=
 xf 69
def b3i (sz:Nat)(x:a0h)(y:a0h)(_:XS)(ts:TS)(h:CH)(k:CA->CH->List Nat->Bool):Bool:=
 a1j ts x fun x=>a1j ts y fun y=>a8m h sz x y fun v h=>k v h []
def c6w (sz:Nat)(zs:List DV)(x:a0h)(_:XS)(ts:TS)(h:CH)(k:CA->CH->List Nat->Bool):Bool:=
 c5z zs fun zs=>a1j ts x fun x=>match x with
  | .msl l sz' s n _=>a0w (AA sz sz') (h.get l fun
    | .arr sz'' n' e=>a0w (AA sz sz'') (d3i s n fun sn=>a0w (AJ sn n') (d9p zs n fun new=>c5x e (c0o s) n new fun e=>h.set l (.arr sz n' e) fun h=>k .any h []))
    |_=>xf 70)
  |_=>xf 71
def c7u (neg:Bool)(x:a0h)(_:XS)(ts:TS)(h:CH)(k:CA->CH->List Nat->Bool):Bool:=
 a1j ts x fun x=>match x with
  | .d .nil=>(match neg with
    |true=>k (.d (.bool AB)) h []
    |false=>k (.d (.bool AE)) h [])
  | .d (.sl _ n _)=>a0w (AD .zero n) (k (.d (.bool neg)) h [])
  | .dfs _ n _=>a0w (AD .zero n) (k (.d (.bool neg)) h [])
  | .msl _ _ _ n _=>a0w (AD .zero n) (k (.d (.bool neg)) h [])
  |_=>xf 72
def c1r (sz:Nat)(x:a0h)(lo:Option a0h)(hi:Option a0h)(_:XS)(ts:TS)(h:CH)(k:CA->CH->List Nat->Bool):Bool:=
 a1j ts x fun x=>match x with
  | .msl l sz' s n AB=>a0w (AA sz sz') (h.get l fun
    | .arr sz'' n' _=>a0w (AA sz sz'') (c2t ts lo (.l (.ofNat .zero)) fun lo=>c2t ts hi (.v (.ofNat n)) fun hi=>
       a0w (xle (.ofNat .zero) lo.val) (a0w (xle lo.val hi.val) (c3s hi fun hin=>d3i s hin fun shi=>a0w (AJ shi n') (c3s lo fun lon=>fN (AM hin lon) fun len=>a7g s lo fun s=>k (.msl l sz s len AB) h []))))
    |_=>xf 73)
  |_=>xf 74
def d5k (l:List UInt8)(x:a0h)(_:XS)(ts:TS)(h:CH)(k:CA->CH->List Nat->Bool):Bool:=
 a1j ts x fun x=>match x with
  | .d (.int _ i)=>c3s i fun n=>a0w (xle (.ofNat .zero) i.val) (f1s l n fun b=>fN b.toNat fun b=>k (.d (.int .u8 (.v (.ofNat b)))) h [])
  |_=>xf 75
def c7e (sz:Nat)(x:a0h)(lo:Option a0h)(hi:Option a0h)(mx:Option a0h)(_:XS)(ts:TS)(h:CH)(k:CA->CH->List Nat->Bool):Bool:=
 a1j ts x fun x=>match x with
  | .msl _ sz' _ n _=>b4a ts sz sz' n lo hi mx fun _=>k .any h []
  | .d (.sl sz' n _)=>b4a ts sz sz' n lo hi mx fun _=>k .any h []
  |_=>xf 79
def e0z (x:a0h)(y:a0h)(_:XS)(ts:TS)(h:CH)(k:CA->CH->List Nat->Bool):Bool:=
 a1j ts x fun x=>a1j ts y fun y=>match x with
  | .msl l _ _ n1 _=>match y with
    | .msl l' _ _ n2 _=>match AA l l' with
      |true=>xf 80
      |false=>a0w (AD .zero n1)<|a0w (AD .zero n2)<|h.get l fun
       | .arr sz _ _=>h.get l' fun
         | .arr sz' n' _=>a0w (AA sz 1) (a0w (AA sz' 1) (a0w (AD .zero n') (k (.d (.bool AB)) h [])))
         |_=>xf 81
       |_=>xf 81
    |_=>xf 82
  |_=>xf 82
def b6u (sz:Nat)(_:Nat)(x:a0h)(y:a0h)(mu:Bool)(_:XS)(ts:TS)(h:CH)(k:CA->CH->List Nat->Bool):Bool:=
 a1j ts x fun x=>a1j ts y fun y=>match c6n x with
  |true=>(match a8t y with
   |true=>k (.d .nil) h []
   |false=>a2c h sz x y mu k)
  |false=>match d1e x with
   |true=>(match a8t y with
    |true=>k x h []
    |false=>a2c h sz x y mu k)
   |false=>a2c h sz x y mu k
def b8i (sz:Nat)(_:XS)(_:TS)(h:CH)(k:CA->CH->List Nat->Bool):Bool:=
 k (.dfs sz .zero []) h []
def c2j (wide:Bool)(ks:List AF)(_:XS)(_:TS)(h:CH)(k:CA->CH->List Nat->Bool):Bool:=
 h.add (.mapv wide ks [] []) fun n0 h'=>k (.map n0) h' []
def b8n (wide:Bool)(ks:List AF)(ok:Bool)(z:AV)(m:a0h)(kx:a0h)(_:XS)(ts:TS)(h:CH)(k:CA->CH->List Nat->Bool):Bool:=
 caK z fun z=>a1j ts m fun m=>match m with
  | .map l=>h.get l fun
    | .mapv wide' ks' keys vals=>a0w (match wide with|true=>wide'|false=>AI wide') (a0w (d4u ks ks') (a1j ts kx fun kx=>a6w wide ks kx fun kc=>c2u kc keys vals fun r=>match r with
      |some v=>match ok with
       |true=>k (.tuple [v,.d (.bool AE)]) h []
       |false=>k v h []
      |none=>match ok with
       |true=>k (.tuple [z,.d (.bool AB)]) h []
       |false=>k z h []))
    |_=>xf 83
  |_=>xf 84
def b6k (wide:Bool)(ks:List AF)(m:a0h)(kx:a0h)(x:a0h)(_:XS)(ts:TS)(h:CH)(k:CA->CH->List Nat->Bool):Bool:=
 a1j ts m fun m=>match m with
  | .map l=>h.get l fun
    | .mapv wide' ks' keys vals=>a0w (match wide with|true=>wide'|false=>AI wide') (a0w (d4u ks ks') (a1j ts kx fun kx=>a6w wide ks kx fun kc=>a1j ts x fun x=>d2k kc x keys vals fun r=>match r with
      |some vals=>h.set l (.mapv wide ks keys vals) fun h=>k .und h []
      |none=>d1s keys [kc] fun keys=>d1s vals [x] fun vals=>h.set l (.mapv wide ks keys vals) fun h=>k .und h []))
    |_=>xf 85
  |_=>xf 86
def b8p (sz:Nat)(len:Nat)(zs:List DV)(ps:List (Nat×a0h))(_:XS)(ts:TS)(h:CH)(k:CA->CH->List Nat->Bool):Bool:=
 c5z zs fun zs=>dL zs fun zs=>d9p zs len fun rs=>b6y ts sz rs ps fun rs=>e1q rs fun rows=>k (.d (.sl sz len rows)) h []
def b2x (x:a0h)(i:Nat)(_:XS)(ts:TS)(h:CH)(k:CA->CH->List Nat->Bool):Bool:=
 a1j ts x fun x=>match x with
  | .tuple vs=>d2f (fun v=>match v with
    | .agg cs=>a3l h cs fun cs h=>k (.agg cs) h []
    | .ptr l .zero=>a6a h l fun v h=>k v h []
    |v=>b0r h v fun v h=>k v h []) vs i
  |_=>xf 61
def c3h (wide:Bool)(ks:List AF)(z:AV)(m:a0h)(kx:a0h)(_:XS)(ts:TS)(h:CH)(k:CA->CH->List Nat->Bool):Bool:=
 caK z fun z=>a1j ts m fun m=>match m with
  | .map l=>h.get l fun
    | .mapv wide' ks' keys vals=>a0w (match wide with|true=>wide'|false=>AI wide') (a0w (d4u ks ks') (a1j ts kx fun kx=>a6w wide ks kx fun kc=>d1y kc keys .zero fun r=>match r with
      |some i=>d2f (fun v=>k (.tuple [v,.d (.int .i64 (.v (.ofNat i)))]) h []) vals i
      |none=>d7i keys .zero fun n=>d1s keys [kc] fun keys=>d1s vals [z] fun vals=>h.set l (.mapv wide ks keys vals) fun h=>k (.tuple [z,.d (.int .i64 (.v (.ofNat n)))]) h []))
    |_=>xf 87
  |_=>xf 89
def c8x (m:a0h)(s:a0h)(x:a0h)(_:XS)(ts:TS)(h:CH)(k:CA->CH->List Nat->Bool):Bool:=
 a1j ts m fun m=>match m with
  | .map l=>h.get l fun
    | .mapv wide ks keys vals=>a1j ts s fun s=>a9z s fun n=>d7i vals .zero fun c=>e0d n c fun j=>a1j ts x fun x=>e6b vals j x fun vals=>h.set l (.mapv wide ks keys vals) fun h=>k .und h []
    |_=>xf 90
  |_=>xf 91
def b7u (sz:Nat)(_:Nat)(x:a0h)(y:a0h)(_:XS)(ts:TS)(h:CH)(k:CA->CH->List Nat->Bool):Bool:=
 a1j ts x fun x=>a1j ts y fun y=>match x with
  | .d .nil=>match y with
    | .d .nil=>k (.d .nil) h []
    | .d (.sl sz' m e)=>a0w (AA sz sz') (a0w (AJ m 1073741824) (k (.d (.sl sz m e)) h []))
    |_=>xf 93
  |_=>xf 94
def c0a (X:XS)(o:IOp)(ts:TS)(h:CH)(k:CA->CH->List Nat->Bool):Bool:=
 @IOp.rec (fun _=>XS->TS->CH->(CA->CH->List Nat->Bool)->Bool) f3i c1m d5r d6c c7c e4a c6y c2k d4z c6r c3k e3f d5u e2x g1j d5v d5h d0g b6o c7r d0j c6l c6v c9b c2m c2a c2h b6i d5y e2a d4x e1w e3l c2g d5o f0n b3i c6w c7u c1r d5k c7e e0z b6u c2j b8n b6k d5b e1f f2y b8p b2x c3h c8x b7u b8i f0n (fun _ _ _=>f0n) (fun _=>f0n) o X ts h k
end
noncomputable section
structure XFn where
 A:Ann
 n:Nat
 irs:List c5p
 ic:a0c
inductive XT where
 |leaf
 |node (key:Nat) (fn:XFn) (l r:XT)
def XT.find (t:XT)(f:Nat)(k:XFn->Bool):Bool:=
 match t with
 | .leaf=>xf 100
 | .node key fn l r=>match AA f key with
   |true=>k fn
   |false=>match AD f key with
    |true=>l.find f k
    |false=>r.find f k
def a6h (dst:Option Nat)(v:CA)(ts:TS)(k:TS->Bool):Bool:=
 @AR Nat (fun _=>CA->TS->(TS->Bool)->Bool) (fun _ ts k=>k ts) (fun d v ts k=>d4t ts d v k) dst v ts k
def c9g (base:Nat)(dst:Option Nat)(ts:TS)(mv:List Nat)(k:TS->CH->List Nat->Bool)(v:CA)(h:CH)(pg:List Nat):Bool:=
 match pg with
 |[]=>a6h dst v ts fun ts=>k ts h mv
 |p::pg=>a6k (p::pg) ts fun ts=>a9x base (p::pg) mv fun mv=>a6h dst v ts fun ts=>k ts h mv
section
variable (X:XS) (base:Nat)
def xop (o:IOp)(dst:Option Nat)(ts:TS)(h:CH)(mv:List Nat)(k:TS->CH->List Nat->Bool):Bool:=
 c0a X o ts h (c9g base dst ts mv k)
def xgV (want:Bool)(off on:Unit->Bool)(v:CA):Bool:=
 match v with
 | .d (.bool b)=>match b with
   |true=>(match want with
    |true=>on ()
    |false=>off ())
   |false=>(match want with
    |true=>off ()
    |false=>on ())
 | .und=>off ()
 |_=>xf 101
def c2o (g:Option (Nat×Bool))(ts:TS)(off on:Unit->Bool):Bool:=
 @AR (Nat×Bool) (fun _=>TS->(Unit->Bool)->(Unit->Bool)->Bool) (fun _ _ on=>on ()) (fun g ts off on=> @Prod.rec Nat Bool (fun _=>Bool) (fun j want=>c8b ts j (xgV want off on)) g) g ts off on
def e1m (o:a1c)(ts:TS)(h:CH)(mv:List Nat)(k:TS->CH->List Nat->Bool):Bool:=
 @a1c.rec (fun _=>XS->Nat->TS->CH->List Nat->(TS->CH->List Nat->Bool)->Bool)
   (fun dst g op X base ts h mv k=>c2o g ts (fun _=>a6h dst .und ts fun ts=>k ts h mv) (fun _=>xop X base op dst ts h mv k)) o X base ts h mv k
def f2q (l:List a1c)(ts:TS)(h:CH)(mv:List Nat)(k:TS->CH->List Nat->Bool):Bool:=
 @AG a1c (fun _=>XS->Nat->TS->CH->List Nat->(TS->CH->List Nat->Bool)->Bool) (fun _ _ ts h mv k=>k ts h mv)
   (fun o _ ih X base ts h mv k=>e1m X base o ts h mv (ih X base · · · k)) l X base ts h mv k
def c6j (l:Nat)(o:IOp)(ts:TS)(k:CA->b0h->Bool):Bool:=
 match o with
 | .alloc zs=>c5z zs fun zs=>dL zs fun zs=>k (.ptr l .zero) (.var zs)
 | .box x=>a1j ts x fun v=>b6d v.cells (fun _=>k (.ptr l .zero) (.var v.cells))
 | .mkmap wide ks=>k (.map l) (.map wide ks .zero [])
 | .mkmapv wide ks=>k (.map l) (.mapv wide ks [] [])
 | .bnew sz=>k (.msl l sz AL .zero AB) (.arr sz .zero [])
 | .mkslice sz zs _ n=>c5z zs fun zs=>a1j ts n fun v=>a9z v fun n=>a0w (xle (.ofNat .zero) n.val) (a0w (xle n.val (.ofNat 1073741824)) (c3s n fun n=>d9p zs n fun rows=>
    k (.msl l sz AL n AB) (.arr sz n rows)))
 |_=>xf 102
def d8k (u v:Kl):Bool:=AA u.ctorIdx v.ctorIdx
def d0i (b0:Nat)(d:a0m)(ts:TS)(k:Unit->Bool):Bool:=
 match d.av with
 |[]=>k ()
 |_=>match d.o.op.at with
  |some x=>a1j ts x fun v=>match v with
   | .ptr l _=>a0w (a5c b0 l d.av) (k ())
   | .aptr l _ _ _=>a0w (d8k d.o.op.kl .r) (a0w (a5c b0 l d.av) (k ()))
   | .map l=>a0w (d8k d.o.op.kl .r) (a0w (a5c b0 l d.av) (k ()))
   | .dptr _ _=>a0w (d8k d.o.op.kl .r) (k ())
   |_=>xf 103
  |none=>xf 104
def f7x:IX->IX->Bool
 | .v a,.v b=>xeq a b
 | .l a,.l b=>xeq a b
 |_,_=>AB
mutual
def c4v (x y:CD):Bool:=
 match x with
 | .int kd n=>match y with
   | .int kd' m=>match kEq kd kd' with
     |true=>f7x n m
     |false=>AB
   |_=>AB
 | .bool b=>match y with
   | .bool c=>match b with
     |true=>c
     |false=>AI c
   |_=>AB
 | .str l=>match y with
   | .str m=>b6r l m
   |_=>AB
 | .nil=>match y with
   | .nil=>AE
   |_=>AB
 | .sl sz n rows=>match y with
   | .sl sz' n' rows'=>match AA sz sz' with
     |true=>(match AA n n' with
      |true=>b3x rows rows'
      |false=>AB)
     |false=>AB
   |_=>AB
 | .raw _=>AB
def c3y (xs ys:List CD):Bool:=
 match xs with
 |[]=>match ys with
  |[]=>AE
  |_=>AB
 |x::xs=>match ys with
  |[]=>AB
  |y::ys=>match c4v x y with
   |true=>c3y xs ys
   |false=>AB
def b3x (xs ys:List (List CD)):Bool:=
 match xs with
 |[]=>match ys with
  |[]=>AE
  |_=>AB
 |x::xs=>match ys with
  |[]=>AB
  |y::ys=>match c3y x y with
   |true=>b3x xs ys
   |false=>AB
end
def g1y:Option Nat->Option Nat->Bool
 |none,AL=>AE
 |some a,AQ b=>AA a b
 |_,_=>AB
mutual
def a9w (x y:CA):Bool:=
 match x with
 | .d x=>match y with
   | .d y=>c4v x y
   |_=>AB
 | .agg xs=>match y with
   | .agg ys=>b6w xs ys
   |_=>AB
 | .ptr l o=>match y with
   | .ptr l' o'=>match AA l l' with
     |true=>AA o o'
     |false=>AB
   |_=>AB
 | .msl l sz s n f=>match y with
   | .msl l' sz' s' n' f'=>match AA l l' with
     |true=>(match AA sz sz' with
      |true=>(match g1y s s' with
       |true=>(match AA n n' with
        |true=>bEq f f'
        |false=>AB)
       |false=>AB)
      |false=>AB)
     |false=>AB
   |_=>AB
 | .map l=>match y with
   | .map l'=>AA l l'
   |_=>AB
 | .fn f us cs=>match y with
   | .fn f' us' cs'=>match AA f f' with
     |true=>(match b6w us us' with
      |true=>b6w cs cs'
      |false=>AB)
     |false=>AB
   |_=>AB
 | .yl l=>match y with
   | .yl l'=>AA l l'
   |_=>AB
 |_=>AB
def b6w (xs ys:List CA):Bool:=
 match xs with
 |[]=>match ys with
  |[]=>AE
  |_=>AB
 |x::xs=>match ys with
  |[]=>AB
  |y::ys=>match a9w x y with
   |true=>b6w xs ys
   |false=>AB
end
def a3f (b0:Nat)(ts:TS)(h:CH)(k:Unit->Bool)(F:List a0m):Bool:=
 match F with
 |[]=>k ()
 |r::rs=>match d8k r.o.op.kl .r with
  |true=>c2o r.o.guard ts (fun _=>a3f b0 ts h k rs) (fun _=>d0i b0 r ts (fun _=>c0a X r.o.op ts h fun v _ _=>match r.o.dst with
   |some d=>c8b ts d fun u=>a0w (a9w v u) (a3f b0 ts h k rs)
   |none=>a3f b0 ts h k rs))
  |false=>a3f b0 ts h k rs
mutual
def a9b (pg:List Nat)(v:CA):Bool:=
 match v with
 | .agg cs=>a7c pg cs
 | .tuple cs=>a7c pg cs
 | .fn _ us cs=>match a7c pg us with
   |true=>a7c pg cs
   |false=>AB
 | .ptr m _=>a3u m pg
 | .aptr m _ _ _=>a3u m pg
 | .msl m _ _ _ _=>a3u m pg
 | .vsl m _ _=>a3u m pg
 | .map m=>a3u m pg
 | .yl m=>a3u m pg
 |_=>AE
def a7c (pg:List Nat)(vs:List CA):Bool:=
 match vs with
 |[]=>AE
 |v::l=>match a9b pg v with
  |true=>a7c pg l
  |false=>AB
end
def b2a (pg:List Nat)(ts:TS)(l:List Nat)(k:Unit->Bool):Bool:=
 match l with
 |[]=>k ()
 |t::l=>c8b ts t fun v=>a0w (a9b pg v) (b2a pg ts l k)
def c3n (pg:List Nat)(ts:TS)(F:List a0m)(k:Unit->Bool):Bool:=
 match F with
 |[]=>k ()
 |r::rs=>b2a pg ts r.o.uses fun _=>b2a pg ts (e4t r.o) fun _=>c3n pg ts rs k
def xD (b0:Nat)(F:List a0m)(d:a0m)(ts:TS)(h:CH)(mv:List Nat)(k:TS->CH->List Nat->Bool):Bool:=
 match d.o.op.kl with
 | .a=>fN (AH b0 d.slot) fun s=>c6j s d.o.op ts fun v o=>h.set s o fun h=>a6h d.o.dst v ts fun ts=>k ts h mv
 | .m=>d0i b0 d ts (fun _=>c0a X d.o.op ts h fun v h pg=>match pg with
   |[]=>a6h d.o.dst v ts fun ts=>a3f X b0 ts h (fun _=>k ts h mv) (a4b d F)
   |p::pg=>match d.alone with
    |true=>a6k (p::pg) ts fun ts=>a9x base (p::pg) mv fun mv=>a6h d.o.dst v ts fun ts=>k ts h mv
    |false=>a0w (h6l b0 d.slot (p::pg)) (c3n (p::pg) ts (a4b d F) fun _=>a6k (p::pg) ts fun ts=>a9x base (p::pg) mv fun mv=>a6h d.o.dst v ts fun ts=>a3f X b0 ts h (fun _=>k ts h mv) (a4b d F)))
 | .r=>d0i b0 d ts (fun _=>c0a X d.o.op ts h fun v _ _=>a6h d.o.dst v ts fun ts=>k ts h mv)
 | .i=>c0a X d.o.op ts h fun v _ _=>a6h d.o.dst v ts fun ts=>k ts h mv
 | .p=>c0a X d.o.op ts h fun v _ _=>a6h d.o.dst v ts fun ts=>k ts h mv
def xR (b0:Nat)(F:List a0m)(ds:List a0m)(ts:TS)(h:CH)(mv:List Nat)(k:TS->CH->List Nat->Bool):Bool:=
 match ds with
 |[]=>k ts h mv
 |d::ds=>c2o d.o.guard ts (fun _=>a6h d.o.dst .und ts fun ts=>xR b0 (a8e d F) ds ts h mv k) (fun _=>xD X base b0 F d ts h mv fun ts h mv=>xR b0 (a8e d F) ds ts h mv k)
def c5l (n:Nat)(h:CH)(k:CH->Bool):Bool:=
 match n with
 | .zero=>k h
 | .succ n=>h.add (.var []) fun _ h=>c5l n h k
def b2q (ts:TS)(h:CH)(irs:List c5p)(k:List CA->Bool):Bool:=
 match irs with
 |[]=>k []
 |r::rs=>match r with
  | .t i=>c8b ts i fun v=>b2q ts h rs fun vs=>k (v::vs)
  | .c i ag=>c8b ts i fun p=>c3r h p ag fun v=>b2q ts h rs fun vs=>k (v::vs)
def b7r (vs:List CA):CA:=
 match vs with
 |[]=> .tuple []
 |v::r=>match r with
  |[]=>v
  |_=> .tuple (v::r)
def b5l (l:Nat)(ts:TS)(h:CH)(pg mv:List Nat)(k:Lv->TS->CH->List Nat->Bool):Bool:=
 match b6p l pg with
 |true=>xf 131
 |false=>h.get l fun
  | .loop s ts0 ps A a b=>match s with
    | .ready=>h.set l (.loop (.over .normal) ts0 ps A a b) fun h=>a6k pg ts fun ts=>a9x base pg mv fun mv=>k .normal ts h mv
    | .done lv=>match lv with
      | .ret=>h.set l (.loop (.over .ret) ts0 ps A a b) fun h=>a6k pg ts fun ts=>a9x base pg mv fun mv=>k .ret ts h mv
      | .exit i=>h.set l (.loop (.over (.exit i)) ts0 ps A a b) fun h=>a6k pg ts fun ts=>a9x base pg mv fun mv=>k (.exit i) ts h mv
      | .normal=>xf 105
    |_=>xf 106
  |_=>xf 107
end
def d4m (next:TS->CH->List Nat->Bool)(k:Lv->TS->CH->List Nat->Bool)(lv:Lv)(ts:TS)(h:CH)(mv:List Nat):Bool:=
 match lv with
 | .normal=>next ts h mv
 | .exit i=>k (.exit i) ts h mv
 | .ret=>k .ret ts h mv
def c0e (id:Nat)(k:Lv->TS->CH->List Nat->Bool)(lv:Lv)(ts:TS)(h:CH)(mv:List Nat):Bool:=
 match lv with
 | .normal=>k .normal ts h mv
 | .exit i=>(match AA i id with
   |true=>k .normal ts h mv
   |false=>k (.exit i) ts h mv)
 | .ret=>k .ret ts h mv
def e3s (X:XS)(base:Nat)(f:a0h)(ps:List Nat)(a b:a0c)(A:Ann)(top:Bool)(k:Lv->TS->CH->List Nat->Bool)(ts:TS)(h:CH)(mv:List Nat):Bool:=
 a0w top (a1j ts f fun v=>match v with
  | .fn g first cap=>h.add (.loop .ready ts ps A a b) fun n0 h1=>d1s [.yl n0] cap fun r=>d1s first r fun vs=>a8f vs fun vs=>
     X.call g vs h1 fun pg _ h2=>b5l base n0 ts h2 pg mv k
  |_=>xf 108)
abbrev XC:=XS->Nat->Ann->Bool->(Lv->TS->CH->List Nat->Bool)->TS->CH->List Nat->Bool
def b5c (X:XS)(base:Nat)(A:Ann)(top:Bool)(c:a0c)(k:Lv->TS->CH->List Nat->Bool)(ts:TS)(h:CH)(mv:List Nat):Bool:=
 @a0c.rec (fun _=>XC)
   (fun _ _ _ _ k ts h mv=>k .normal ts h mv)
   (fun l X base _ _ k ts h mv=>f2q X base l ts h mv (k .normal))
   (fun n l X base _ _ k ts h mv=>h.num fun n0=>c5l n h fun h'=>xR X base n0 [] l ts h' mv (k .normal))
   (fun _ _ ia ib X base A top k ts h mv=>ia X base A top (d4m (ib X base A top k) k) ts h mv)
   (fun c _ _ ia ib X base A top k ts h mv=>a1j ts c fun v=>b9d v fun x=> @AN (fun _=>Bool) (ib X base A top k ts h mv) (ia X base A top k ts h mv) x)
   (fun id _ ic X base A top k ts h mv=>ic X base A top (c0e id k) ts h mv)
   (fun c _ X base A top k ts h mv=>X.loop A base top c k ts h mv)
   (fun f ps a b _ _ X base A top k ts h mv=>e3s X base f ps a b A top k ts h mv)
   (fun id _ _ _ _ k ts h mv=>k (.exit id) ts h mv)
   (fun _ ic X base A top k ts h mv=>a0w top (ic X base A top k ts h mv))
   (fun _ _ _ _ _ k ts h mv=>k .normal ts h mv)
   (fun _ _ _ _ k ts h mv=>k .ret ts h mv)
   c X base A top k ts h mv
def c9o (args:List CA)(i:Nat)(ts:TS)(k:TS->Bool):Bool:=
 match args with
 |[]=>k ts
 |v::l=>d4t ts i v fun ts=>c9o l (AO i) ts k
def d9e (n:Nat)(args:List CA)(k:TS->Bool):Bool:=c9o args .zero (mkT .und n n) k
def e6w (ps:List Nat)(args:List CA)(ts:TS)(k:TS->Bool):Bool:=
 match ps with
 |[]=>match args with
  |[]=>k ts
  |_::_=>xf 109
 |p::ps=>match args with
  |[]=>xf 110
  |v::args=>d4t ts p v fun ts=>e6w ps args ts k
def c4j (vs:List CA)(k:Unit->Bool):Bool:=
 match vs with
 |[]=>k ()
 |v::r=>match v with
  | .d (.int ..)=>c4j r k
  | .d (.bool _)=>c4j r k
  | .d (.str _)=>c4j r k
  |_=>xf 130
def e0p (own:Bool)(k:CA->Bool)(vs:List CA):Bool:=
 match own with
 |true=>c4j vs (fun _=>k (b7r vs))
 |false=>k (b7r vs)
def d2v (irs:List c5p)(own:Bool)(k:CA->Bool)(lv:Lv)(ts:TS)(h:CH)(_:List Nat):Bool:=
 match lv with
 | .exit _=>xf 124
 |_=>b2q ts h irs fun vs=>a3k h vs fun vs _=>a7k vs (fun _=>e0p own k vs)
def d5t (T:XT)(X:XS)(own:Bool)(f:AP)(args:List CA)(k:CA->Bool):Bool:=
 T.find f fun fn=>d9e fn.n args fun ts=>b5c X .zero fn.A AE fn.ic (d2v fn.irs own k) ts ⟨.zero,.leaf⟩ []
def c1e (irs:List c5p)(k:List Nat->CA->CH->Bool)(lv:Lv)(ts:TS)(h:CH)(mv:List Nat):Bool:=
 match lv with
 | .exit _=>xf 125
 |_=>b2q ts h irs fun vs=>k mv (b7r vs) h
def d4o (T:XT)(X:XS)(f:AP)(args:List CA)(h:CH)(k:List Nat->CA->CH->Bool):Bool:=
 T.find f fun fn=>d9e fn.n args fun ts=>h.num fun n0=>b5c X n0 fn.A AE fn.ic (c1e fn.irs k) ts h []
def b1n (l:Nat)(k:List Nat->CA->CH->Bool)(lv:Lv)(_:TS)(h:CH)(mv:List Nat):Bool:=
 match b6p l mv with
 |true=>xf 133
 |false=>h.get l fun
  | .loop .busy ts0 ps0 A0 a0 b0=>match lv with
    | .normal=>h.set l (.loop .ready ts0 ps0 A0 a0 b0) fun h=>k mv (.d (.bool AE)) h
    | .ret=>h.set l (.loop (.done .ret) ts0 ps0 A0 a0 b0) fun h=>k mv (.d (.bool AB)) h
    | .exit i=>h.set l (.loop (.done (.exit i)) ts0 ps0 A0 a0 b0) fun h=>k mv (.d (.bool AB)) h
  |_=>xf 126
def a8p (X:XS)(base:Nat)(l:Nat)(A:Ann)(b:a0c)(k:List Nat->CA->CH->Bool)(lv:Lv)(ts:TS)(h:CH)(mv:List Nat):Bool:=
 match lv with
 | .normal=>(match b6p l mv with
   |true=>xf 132
   |false=>h.get l fun
    | .loop .ready ts0 ps0 A0 a0 b0=>h.set l (.loop .busy ts0 ps0 A0 a0 b0) fun h=>b5c X base A AB b (b1n l k) ts h mv
    |_=>xf 127)
 |_=>xf 128
def g1p (X:XS)(l:Nat)(args:List CA)(h:CH)(k:List Nat->CA->CH->Bool):Bool:=
 h.get l fun
  | .loop .ready ts ps A a b=>e6w ps args ts fun ts=>h.num fun n0=>b5c X n0 A AB a (a8p X n0 l A b k) ts h []
  |_=>xf 129
def d5z (X:XS)(A:Ann)(base:Nat)(top:Bool)(c:a0c)(k:Lv->TS->CH->List Nat->Bool)(lv:Lv)(ts:TS)(h:CH)(mv:List Nat):Bool:=
 match lv with
 | .normal=>X.loop A base top c k ts h mv
 | .exit i=>k (.exit i) ts h mv
 | .ret=>k .ret ts h mv
def e8j (X:XS)(A:Ann)(base:Nat)(top:Bool)(c:a0c)(k:Lv->TS->CH->List Nat->Bool)(ts:TS)(h:CH)(mv:List Nat):Bool:=
 b5c X base A top c (d5z X A base top c k) ts h mv
def XSs (T:XT)(X:XS):XS:=⟨d5t T X,d4o T X,g1p X,e8j X⟩
def XS0:XS:=⟨fun _ _ _ _=>xf 120,fun _ _ _ _=>xf 121,fun _ _ _ _=>xf 122,fun _ _ _ _ _ _ _ _=>xf 123⟩
def XSn (T:XT)(n:Nat):XS:= @AC (fun _=>XS) XS0 (fun _ X=>XSs T X) n
end
end Go.Vf
