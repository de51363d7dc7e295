/- The runner's twelfth text. Conditions: none. -/
import Derived.Test.YtbglklaocjifhaaGreatFMg
open Bool renaming false_ne_true->AA,true->AB,false->AE,not->AW,rec->Ah,and_self->Am,eq_iff_iff->A3
open Nat renaming beq->AC,eq_of_beq_eq_true->AD,le_of_ble_eq_true->AF,rec->AN,blt->AO,div->AT,add->AU,ble->AX,mod->Ae,succ->Aj,sub->At,zero->A6,zero_add->A9,beq_refl->BA,ble_eq->BD,mul->BH
open Go renaming IntKind->AG,FuncId->Ad,Program->Ao,BinOp->Aw
open List renaming getElem?_eq_some_iff->AH,getElem?_append_left->AJ,getElem?_append_right->AK,getElem?_take_of_lt->AQ,rec->AR,mem_cons->AS,replicate->AY,getElem?_map->AZ,getElem?_set_ne->Aa,map_append->Ab,append_assoc->Ac,map_cons->Ag,map_take->Ak,map_drop->Al,map_set->Ap,map_nil->Aq,getElem?_eq_none->Au,getElem?_drop->Av,ext_getElem?->Ax,length_take->Ay,length_map->Az
open Int renaming ofNat_eq_natCast->AI,ofNat->Ar,sub->BB,beq'->BF,add->BI
open Option renaming some->AM,none->AP,rec->A7
open Go.Vf renaming std->Af,Ann->A4,Ent->BE,opd->BG
open Ne renaming symm->Ai
open Go.Vf.AV renaming forgetL->An,forgetL_eq->As,forget->A5,normL->A8,norm->BC
set_option linter.unusedSimpArgs false
set_option linter.unusedVariables false
namespace Go.Vf
open Go
noncomputable section
inductive CD where
 |int (k:AG) (n:IX)
 |bool (b:Bool)
 |str (l:List UInt8)
 |nil
 |sl (sz n:Nat) (rows:List (List CD))
 |raw (v:Value)
inductive CA where
 |d (x:CD)
 |any
 |und
 |agg (cs:List CA)
 |tuple (vs:List CA)
 |ptr (l off:Nat)
 |aptr (l sz i off:Nat)
 |dptr (row:List CD) (off:Nat)
 |dfs (sz n:Nat) (rows:List (List CD))
 |msl (l sz:Nat) (start:Option Nat) (len:Nat) (full:Bool)
 |vsl (l off n:Nat)
 |map (l:Nat)
 |fn (f:Ad) (first cap:List CA)
 |ge (m:Nat)
 |yl (l:Nat)
inductive BT (α:Type) where
 |leaf
 |node (v:α) (l r:BT α)
inductive b0h where
 |var (cs:List CA)
 |arr (sz n:Nat) (rows:List (List CD))
 |frz (sz n:Nat) (rows:List (List CD))
 |map (wide:Bool) (ks:List AG) (n:Nat) (es:List (List KC×Int))
 |mapv (wide:Bool) (ks:List AG) (keys:List (List KC)) (vals:List CA)
 |loop (s:LSt) (ts:BT CA) (ps:List Nat) (A:A4) (a b:a0c)
 |gone
abbrev TS:=BT CA
structure CH where
 n:Nat
 t:BT b0h
def xf (_:Nat):Bool:=AE
def fN (n:Nat)(k:Nat->Bool):Bool:=
 @AN (fun _=>(Nat->Bool)->Bool) (fun k=>k .zero) (fun m _ k=>k (.succ m)) n k
def fI (n:Int)(k:Int->Bool):Bool:=
 match n with
 | .ofNat m=>fN m fun m=>k (.ofNat m)
 | .negSucc m=>fN m fun m=>k (.negSucc m)
def fB (b:Bool)(k:Bool->Bool):Bool:=
 match b with
 |true=>k AB
 |false=>k AE
def xlt:Int->Int->Bool
 | .ofNat a,.ofNat b=>AO a b
 | .ofNat _,.negSucc _=>AE
 | .negSucc _,.ofNat _=>AB
 | .negSucc a,.negSucc b=>AO b a
def xle (a b:Int):Bool:=AW (xlt b a)
def xeq:Int->Int->Bool
 | .ofNat a,.ofNat b=>AC a b
 | .negSucc a,.negSucc b=>AC a b
 |_,_=>AE
def kEq (a b:AG):Bool:=AC a.ctorIdx b.ctorIdx
def d3z (k:AG)(x:Int):Bool:=
 match k with
 | .i64=>match x with
   | .ofNat n=>AO n 9223372036854775808
   | .negSucc n=>AO n 9223372036854775808
 |k=>xeq (k.wrap x) x
section
variable {α:Type}
def d2f (k:α->Bool)(l:List α)(i:Nat):Bool:=
 @AR α (fun _=>(α->Bool)->Nat->Bool) (fun _ _=>xf 1) (fun x _ ih k i=> @AN (fun _=>Bool) (k x) (fun i _=>ih k i) i) l k i
def c8b (t:BT α)(i:Nat)(k:α->Bool):Bool:=
 @BT.rec α (fun _=>Nat->(α->Bool)->Bool) (fun _ _=>xf 1)
   (fun v _ _ il ir i k=> @AN (fun _=>Bool) (k v) (fun j _=> @AN (fun _=>Bool) (il (AT j 2) k) (fun _ _=>ir (AT j 2) k) (Ae j 2)) i) t i k
def d4t (t:BT α)(i:Nat)(y:α)(k:BT α->Bool):Bool:=
 @BT.rec α (fun _=>Nat->α->(BT α->Bool)->Bool) (fun _ _ _=>xf 2)
   (fun v l r il ir i y k=> @AN (fun _=>Bool) (k (.node y l r)) (fun j _=> @AN (fun _=>Bool) (il (AT j 2) y fun l'=>k (.node v l' r)) (fun _ _=>ir (AT j 2) y fun r'=>k (.node v l r')) (Ae j 2)) i) t i y k
def d1i (t:BT α)(i:Nat)(y:α)(k:BT α->Bool):Bool:=
 @BT.rec α (fun _=>Nat->α->(BT α->Bool)->Bool) (fun i y k=> @AN (fun _=>Bool) (k (.node y .leaf .leaf)) (fun _ _=>xf 2) i)
   (fun v l r il ir i y k=> @AN (fun _=>Bool) (xf 2) (fun j _=> @AN (fun _=>Bool) (il (AT j 2) y fun l'=>k (.node v l' r)) (fun _ _=>ir (AT j 2) y fun r'=>k (.node v l r')) (Ae j 2)) i) t i y k
def mkT (x:α)(d n:Nat):BT α:=
 @AN (fun _=>α->Nat->BT α) (fun _ _=> .leaf) (fun _ ih x n=> @AN (fun _=>BT α) .leaf (fun j _=> .node x (ih x (AT (Aj j) 2)) (ih x (AT j 2))) n) d x n
def e6b (l:List α)(i:Nat)(y:α)(k:List α->Bool):Bool:=
 @AR α (fun _=>Nat->α->(List α->Bool)->Bool) (fun _ _ _=>xf 2) (fun x l ih i y k=> @AN (fun _=>Bool) (k (y::l)) (fun i _=>ih i y fun l=>k (x::l)) i) l i y k
def e1y (l:List α)(i n:Nat)(k:List α->Bool):Bool:=
 @AR α (fun _=>Nat->Nat->(List α->Bool)->Bool)
   (fun i n k=> @AN (fun _=>Bool) (@AN (fun _=>Bool) (k []) (fun _ _=>xf 3) n) (fun _ _=>xf 3) i)
   (fun x _ ih i n k=> @AN (fun _=>Bool) (@AN (fun _=>Bool) (k []) (fun n _=>ih .zero n fun r=>k (x::r)) n) (fun i _=>ih i n k) i) l i n k
def e0w (l:List α)(i:Nat)(new:List α)(k:List α->Bool):Bool:=
 @AR α (fun _=>Nat->List α->(List α->Bool)->Bool)
   (fun i new k=> @AN (fun _=>Bool) (@AR α (fun _=>Bool) (k []) (fun _ _ _=>xf 4) new) (fun _ _=>xf 4) i)
   (fun x l ih i new k=> @AN (fun _=>Bool) (@AR α (fun _=>Bool) (k (x::l)) (fun y new _=>ih .zero new fun r=>k (y::r)) new) (fun i _=>ih i new fun r=>k (x::r)) i) l i new k
def d1s (l m:List α)(k:List α->Bool):Bool:=
 @AR α (fun _=>List α->(List α->Bool)->Bool) (fun m k=>k m) (fun x _ ih m k=>ih m fun r=>k (x::r)) l m k
def b0e (l:List α)(n:Nat)(m:List α)(k:List α->Bool):Bool:=
 @AR α (fun _=>Nat->List α->(List α->Bool)->Bool) (fun n m k=> @AN (fun _=>Bool) (k m) (fun _ _=>xf 5) n)
   (fun x _ ih n m k=> @AN (fun _=>Bool) (k m) (fun n _=>ih n m fun r=>k (x::r)) n) l n m k
def c0s (l:List α)(n:Nat)(k:List α->Bool):Bool:=
 match n with
 | .zero=>k l
 | .succ n=>match l with
   |[]=>k []
   |_::l=>c0s l n k
def c5x (l:List α)(i m:Nat)(new:List α)(k:List α->Bool):Bool:=
 match l with
 |[]=>match i with
  | .zero=>match m with
    | .zero=>k []
    | .succ _=>xf 6
  | .succ _=>xf 6
 |x::l=>match i with
  | .zero=>match m with
    | .zero=>k (x::l)
    | .succ m=>match new with
      |[]=>xf 6
      |y::new=>c5x l .zero m new fun r=>k (y::r)
  | .succ i=>c5x l i m new fun r=>k (x::r)
def d9p (x:α)(n:Nat)(k:List α->Bool):Bool:=
 @AN (fun _=>α->(List α->Bool)->Bool) (fun _ k=>k []) (fun _ ih x k=>ih x fun r=>k (x::r)) n x k
def d7i (l:List α)(n:Nat)(k:Nat->Bool):Bool:=
 @AR α (fun _=>Nat->(Nat->Bool)->Bool) (fun n k=>k n) (fun _ _ ih n k=>ih (.succ n) k) l n k
end
mutual
def cdK (x:DV)(k:CD->Bool):Bool:=
 match x with
 | .int kd n=>k (.int kd n)
 | .bool b=>k (.bool b)
 | .str l=>k (.str l)
 | .nil=>k .nil
 | .raw v=>k (.raw v)
 | .sl .. =>xf 7
def c5z (l:List DV)(k:List CD->Bool):Bool:=
 match l with
 |[]=>k []
 |x::l=>cdK x fun x=>c5z l fun l=>k (x::l)
end
def e1i (l:List AV)(k:List CA->Bool):Bool:=
 match l with
 |[]=>k []
 |x::l=>match x with
  | .d x=>cdK x fun x=>e1i l fun l=>k (.d x::l)
  |_=>xf 8
def caK (x:AV)(k:CA->Bool):Bool:=
 match x with
 | .d x=>cdK x fun x=>k (.d x)
 | .agg cs=>e1i cs fun cs=>k (.agg cs)
 | .fn f [] []=>k (.fn f [] [])
 |_=>xf 9
def a1j (ts:TS)(o:a0h)(k:CA->Bool):Bool:=
 @a0h.rec (fun _=>TS->(CA->Bool)->Bool) (fun i ts k=>c8b ts i k) (fun v _ k=>caK v k) o ts k
def c4f (ts:TS)(l:List a0h)(k:List CA->Bool):Bool:=
 @AR a0h (fun _=>TS->(List CA->Bool)->Bool) (fun _ k=>k []) (fun x _ ih ts k=>a1j ts x fun x=>ih ts fun l=>k (x::l)) l ts k
def CA.cells:CA->List CA
 | .agg cs=>cs
 |v=>[v]
def dL (l:List CD)(k:List CA->Bool):Bool:=
 @AR CD (fun _=>(List CA->Bool)->Bool) (fun k=>k []) (fun x _ ih k=>ih fun l=>k (.d x::l)) l k
def CH.get (h:CH)(l:Nat)(k:b0h->Bool):Bool:=
 @CH.rec (fun _=>Nat->(b0h->Bool)->Bool) (fun _ t l k=>c8b t l k) h l k
def CH.set (h:CH)(l:Nat)(o:b0h)(k:CH->Bool):Bool:=
 @CH.rec (fun _=>Nat->b0h->(CH->Bool)->Bool) (fun n t l o k=>d4t t l o fun t=>k ⟨n,t⟩) h l o k
def CH.num (h:CH)(k:Nat->Bool):Bool:=
 @CH.rec (fun _=>(Nat->Bool)->Bool) (fun n _ k=>k n) h k
def CH.add (h:CH)(o:b0h)(k:Nat->CH->Bool):Bool:=
 @CH.rec (fun _=>b0h->(Nat->CH->Bool)->Bool) (fun n t o k=>d1i t n o fun t=>fN (Aj n) fun m=>k n ⟨m,t⟩) h o k
def CA.one:CA->Bool
 | .und=>AE
 | .any=>AE
 | .agg _=>AE
 | .tuple _=>AE
 |_=>AB
def b6d (vs:List CA)(k:Unit->Bool):Bool:=
 @AR CA (fun _=>(Unit->Bool)->Bool) (fun k=>k ()) (fun v _ ih k=> @Ah (fun _=>Bool) (xf 12) (ih k) v.one) vs k
def d3i (s:Option Nat)(n:Nat)(k:Nat->Bool):Bool:=
 match s with
 |none=>k n
 |some s=>fN (AU s n) k
def a0w (c:Bool)(k:Bool):Bool:=
 @Ah (fun _=>Bool->Bool) (fun _=>xf 13) (fun k=>k) c k
def d7x (rows:List (List CD))(s:Option Nat)(k:List (List CD)->Bool):Bool:=
 match s with
 |none=>k rows
 |some s=>c0s rows s k
def c4l (h:CH)(v:CA)(k:Nat->Nat->List (List CD)->Bool):Bool:=
 match v with
 | .d (.sl sz n e)=>k sz n e
 | .dfs sz n e=>k sz n e
 | .msl l sz s n _=>h.get l fun
   | .arr sz' m e=>a0w (AC sz sz') (d3i s n fun sn=>a0w (AX sn m) (d7x e s fun e=>k sz n e))
   | .frz sz' m e=>a0w (AC sz sz') (d3i s n fun sn=>a0w (AX sn m) (d7x e s fun e=>k sz n e))
   |_=>xf 14
 |_=>xf 15
def onD (v:CA)(k:CD->Bool):Bool:=
 match v with
 | .d x=>k x
 | .fn f [] []=>k (.raw (.func (.func f) #[] #[]))
 |_=>xf 16
def d6i (l:List CA)(k:List CD->Bool):Bool:=
 @AR CA (fun _=>(List CD->Bool)->Bool) (fun k=>k []) (fun x _ ih k=>onD x fun x=>ih fun l=>k (x::l)) l k
def d3q (l:List CD)(k:List (List CD)->Bool):Bool:=
 match l with
 |[]=>k []
 |x::l=>d3q l fun l=>k ([x]::l)
def d1c (h:CH)(v:CA)(k:CA->Bool):Bool:=
 match v with
 | .vsl l off n=>h.get l fun
   | .var cs=>e1y cs off n fun c=>d6i c fun ds=>d3q ds fun rs=>k (.d (.sl 1 n rs))
   |_=>xf 17
 | .msl l sz s n f=>c4l h (.msl l sz s n f) fun sz n e=>k (.d (.sl sz n e))
 | .dfs sz n e=>k (.d (.sl sz n e))
 |v=>k v
def b7o (h:CH)(vs:List CA)(k:List CA->Bool):Bool:=
 match vs with
 |[]=>k []
 |v::r=>d1c h v fun v=>b7o h r fun r=>k (v::r)
def b3p (h:CH)(vs:List CA)(k:List CA->Bool):Bool:=
 match vs with
 |[]=>k []
 |v::r=>match v with
  | .agg cs=>b7o h cs fun cs=>b3p h r fun r=>k (.agg cs::r)
  |v=>d1c h v fun v=>b3p h r fun r=>k (v::r)
def b0r (h:CH)(v:CA)(k:CA->CH->Bool):Bool:=
 match v with
 | .msl l sz s n f=>c4l h (.msl l sz s n f) fun sz n e=>h.get l fun
   | .arr sz' m e'=>h.set l (.frz sz' m e') fun h=>k (.d (.sl sz n e)) h
   |_=>k (.d (.sl sz n e)) h
 | .dfs sz n e=>k (.d (.sl sz n e)) h
 |v=>k v h
def a3l (h:CH)(vs:List CA)(k:List CA->CH->Bool):Bool:=
 match vs with
 |[]=>k [] h
 |v::r=>b0r h v fun v h=>a3l h r fun r h=>k (v::r) h
def a6a (h:CH)(l:Nat)(k:CA->CH->Bool):Bool:=
 h.get l fun
  | .var cs=>a3l h cs fun cs h=>d6i cs fun row=>h.set l .gone fun h=>k (.dptr row .zero) h
  |_=>xf 92
def a3k (h:CH)(vs:List CA)(k:List CA->CH->Bool):Bool:=
 match vs with
 |[]=>k [] h
 |v::r=>match v with
  | .agg cs=>a3l h cs fun cs h=>a3k h r fun r h=>k (.agg cs::r) h
  | .ptr l .zero=>a6a h l fun v h=>a3k h r fun r h=>k (v::r) h
  |v=>b0r h v fun v h=>a3k h r fun r h=>k (v::r) h
def b9i (h:CH)(v:CA)(k:List CD->CH->Bool):Bool:=
 a3l h v.cells fun cs h=>d6i cs fun l=>k l h
def a8y (op:Aw)(kd:AG)(x y:IX)(k:CD->Bool):Bool:=
 match op with
 | .add=>match x,y with
   | .l a,.l b=>fI (BI a b) fun c=>a0w (d3z kd c) (k (.int kd (.l c)))
   |x,y=>fI (BI x.val y.val) fun c=>a0w (d3z kd c) (k (.int kd (.v c)))
 | .sub=>match x,y with
   | .l a,.l b=>fI (BB a b) fun c=>a0w (d3z kd c) (k (.int kd (.l c)))
   |x,y=>fI (BB x.val y.val) fun c=>a0w (d3z kd c) (k (.int kd (.v c)))
 | .mul=>fI (Int.mul x.val y.val) fun c=>a0w (d3z kd c) (k (.int kd (.v c)))
 | .quo=>a0w (AW (xeq y.val (.ofNat .zero))) (fI (Int.tdiv x.val y.val) fun c=>a0w (d3z kd c) (k (.int kd (.v c))))
 | .rem=>a0w (AW (xeq y.val (.ofNat .zero))) (fI (Int.tmod x.val y.val) fun c=>k (.int kd (.v c)))
 | .eql=>fB (xeq x.val y.val) fun b=>k (.bool b)
 | .neq=>fB (xeq x.val y.val) fun b=>match b with
   |true=>k (.bool AE)
   |false=>k (.bool AB)
 | .lss=>fB (xlt x.val y.val) fun b=>k (.bool b)
 | .gtr=>fB (xlt y.val x.val) fun b=>k (.bool b)
 | .leq=>fB (xle x.val y.val) fun b=>k (.bool b)
 | .geq=>fB (xle y.val x.val) fun b=>k (.bool b)
 |_=>xf 18
def g2e (a b:Bool):Bool:=
 match a with
 |true=>b
 |false=>AW b
def e3k (ks:List AG)(xs ys:List CA)(k:Bool->Bool):Bool:=
 match ks with
 |[]=>match xs with
  |[]=>match ys with
   |[]=>k AB
   |_=>xf 19
  |_=>xf 19
 |kd::ks=>match xs with
  | .d (.int k1 x)::xs=>match ys with
    | .d (.int k2 y)::ys=>a0w (kEq kd k1) (a0w (kEq kd k2) (e3k ks xs ys fun b=>match xeq x.val y.val with
      |true=>k b
      |false=>k AE))
    |_=>xf 19
  |_=>xf 19
def c3v (ks:List CK)(xs ys:List CA)(k:Bool->Bool):Bool:=
 match ks with
 |[]=>match xs with
  |[]=>match ys with
   |[]=>k AB
   |_=>xf 19
  |_=>xf 19
 |kd::ks=>match xs with
  | .d x::xs=>match ys with
    | .d y::ys=>match kd with
      | .i kd=>match x with
        | .int k1 x=>match y with
          | .int k2 y=>a0w (kEq kd k1) (a0w (kEq kd k2) (c3v ks xs ys fun b=>match xeq x.val y.val with
            |true=>k b
            |false=>k AE))
          |_=>xf 19
        |_=>xf 19
      | .o=>match x with
        | .bool x=>match y with
          | .bool y=>c3v ks xs ys fun b=>match g2e x y with
            |true=>k b
            |false=>k AE
          |_=>xf 19
        |_=>xf 19
    |_=>xf 19
  |_=>xf 19
def a8w (ks:List AG)(xs:List CA)(k:List KC->Bool):Bool:=
 match ks with
 |[]=>match xs with
  |[]=>k []
  |_=>xf 20
 |kd::ks=>match xs with
  | .d (.int kd' x)::xs=>a0w (kEq kd kd') (a0w (d3z kd x.val) (a8w ks xs fun l=>k (.i x.val::l)))
  |_=>xf 20
def a6w (wide:Bool)(ks:List AG)(v:CA)(k:List KC->Bool):Bool:=
 match v with
 | .agg cs=>match wide with
   |true=>a8w ks cs k
   |false=>xf 21
 |v=>match wide with
  |true=>xf 21
  |false=>a8w ks [v] k
def d4u:List AG->List AG->Bool
 |[],[]=>AB
 |a::l,b::m=>match kEq a b with
  |true=>d4u l m
  |false=>AE
 |_,_=>AE
def b6r:List UInt8->List UInt8->Bool
 |[],[]=>AB
 |a::l,b::m=>match AC a.toNat b.toNat with
  |true=>b6r l m
  |false=>AE
 |_,_=>AE
def bEq (a b:Bool):Bool:=
 match a with
 |true=>b
 |false=>AW b
def d6u:KC->KC->Bool
 | .i a,.i b=>xeq a b
 | .o a,.o b=>bEq a b
 | .s a,.s b=>b6r a b
 |_,_=>AE
def d0y:List KC->List KC->Bool
 |[],[]=>AB
 |a::l,b::m=>match d6u a b with
  |true=>d0y l m
  |false=>AE
 |_,_=>AE
def c7a (es:List (List KC×Int))(kc:List KC)(k:Option Int->Bool):Bool:=
 match es with
 |[]=>k AP
 |e::es=>match e with
  |(k',v)=>match d0y kc k' with
   |true=>k (AM v)
   |false=>c7a es kc k
def c2u (kc:List KC)(ks:List (List KC))(vs:List CA)(k:Option CA->Bool):Bool:=
 match ks with
 |[]=>k AP
 |k'::ks=>match vs with
  |[]=>k AP
  |v::vs=>match d0y kc k' with
   |true=>k (AM v)
   |false=>c2u kc ks vs k
def d2k (kc:List KC)(x:CA)(ks:List (List KC))(vs:List CA)(k:Option (List CA)->Bool):Bool:=
 match ks with
 |[]=>k AP
 |k'::ks=>match vs with
  |[]=>k AP
  |v::vs=>match d0y kc k' with
   |true=>k (AM (x::vs))
   |false=>d2k kc x ks vs fun r=>match r with
    |some l=>k (AM (v::l))
    |none=>k AP
def d1y (kc:List KC)(ks:List (List KC))(n:Nat)(k:Option Nat->Bool):Bool:=
 match ks with
 |[]=>k AP
 |k'::ks=>match d0y kc k' with
  |true=>k (AM n)
  |false=>d1y kc ks (.succ n) k
def e1q (rs:List (List CA))(k:List (List CD)->Bool):Bool:=
 @AR (List CA) (fun _=>(List (List CD)->Bool)->Bool) (fun k=>k []) (fun r _ ih k=>d6i r fun l=>ih fun ls=>k (l::ls)) rs k
def a9z (v:CA)(k:IX->Bool):Bool:=
 match v with
 | .d (.int .i64 n)=>k n
 |_=>xf 22
def b9d (v:CA)(k:Bool->Bool):Bool:=
 match v with
 | .d (.bool b)=>k b
 |_=>xf 23
def c3s (n:IX)(k:Nat->Bool):Bool:=
 match n.val with
 | .ofNat m=>k m
 | .negSucc _=>k .zero
def c3j (ts:TS)(cs:List CA)(ps:List (Nat×Nat×a0h))(k:List CA->Bool):Bool:=
 match ps with
 |[]=>k cs
 |p::r=>match p with
  |(off,sz,x)=>a1j ts x fun v=>d7i v.cells .zero fun n=>a0w (AC n sz) (b6d v.cells (fun _=>e0w cs off v.cells fun cs=>c3j ts cs r k))
def b6y (ts:TS)(sz:Nat)(rs:List (List CA))(ps:List (Nat×a0h))(k:List (List CA)->Bool):Bool:=
 match ps with
 |[]=>k rs
 |p::r=>match p with
  |(i,x)=>a1j ts x fun v=>d7i v.cells .zero fun n=>a0w (AC n sz) (b6d v.cells (fun _=>e6b rs i v.cells fun rs=>b6y ts sz rs r k))
def a7s (h:CH)(rs:List (List CA))(k:List (List CD)->CH->Bool):Bool:=
 match rs with
 |[]=>k [] h
 |r::rs=>a3l h r fun cs h=>d6i cs fun l=>a7s h rs fun ls h=>k (l::ls) h
def c1i (row:List CD)(off:Nat)(agg:Option Nat)(k:CA->Bool):Bool:=
 match agg with
 |none=>d2f (fun v=>k (.d v)) row off
 |some m=>e1y row off m fun c=>dL c fun c=>k (.agg c)
def d9x (rows:List (List CD))(i:Nat)(k:List CD->Bool):Bool:=d2f k rows i
def c3r (h:CH)(p:CA)(agg:Option Nat)(k:CA->Bool):Bool:=
 match p with
 | .ptr l off=>h.get l fun
   | .var cs=>match agg with
     |none=>d2f k cs off
     |some n=>e1y cs off n fun c=>k (.agg c)
   |_=>xf 24
 | .aptr l sz i off=>h.get l fun
   | .arr sz' n e=>a0w (AC sz sz') (a0w (AO i n) (d9x e i fun r=>c1i r off agg k))
   | .frz sz' n e=>a0w (AC sz sz') (a0w (AO i n) (d9x e i fun r=>c1i r off agg k))
   |_=>xf 25
 | .dptr row off=>c1i row off agg k
 |_=>xf 26
def b8w (h:CH)(p v:CA)(sz:Nat)(k:CH->Bool):Bool:=
 match p with
 | .ptr l off=>d7i v.cells .zero fun n=>a0w (AC n sz) (b6d v.cells (fun _=>h.get l fun
   | .var cs=>e0w cs off v.cells fun cs=>h.set l (.var cs) k
   |_=>xf 27))
 | .aptr l sz' i off=>d7i v.cells .zero fun n=>a0w (AC n sz) (b6d v.cells (fun _=>h.get l fun
   | .arr _ _ _=>b9i h v fun new h=>h.get l fun
     | .arr sz'' n e=>a0w (AC sz' sz'') (a0w (AO i n) (d9x e i fun r=>e0w r off new fun r=>e6b e i r fun e=>h.set l (.arr sz'' n e) k))
     |_=>xf 28
   |_=>xf 28))
 |_=>xf 29
def CA.free:CA->Bool
 | .d _=>AB
 | .dfs .. =>AB
 | .dptr .. =>AB
 | .fn _ [] []=>AB
 |_=>AE
def c2w (vs:List CA)(k:Unit->Bool):Bool:=
 match vs with
 |[]=>k ()
 |v::l=>match v.free with
  |true=>c2w l k
  |false=>xf 30
def a7k (vs:List CA)(k:Unit->Bool):Bool:=
 match vs with
 |[]=>k ()
 |v::l=>match v with
  | .agg cs=>c2w cs fun _=>a7k l k
  |v=>match v.free with
   |true=>a7k l k
   |false=>xf 31
def CA.isPtr:CA->Bool
 | .ptr .. =>AB
 | .aptr .. =>AB
 | .dptr .. =>AB
 |_=>AE
def c2t (ts:TS)(x:Option a0h)(d:IX)(k:IX->Bool):Bool:=
 match x with
 |none=>k d
 |some o=>a1j ts o fun v=>a9z v k
def a7g (s:Option Nat)(lo:IX)(k:Option Nat->Bool):Bool:=
 match lo with
 | .l n=>match n with
   | .ofNat m=>match m with
     | .zero=>k s
     | .succ m=>match s with
       |none=>k (AM (.succ m))
       |some t=>fN (AU t (.succ m)) fun t=>k (AM t)
   | .negSucc _=>xf 32
 | .v n=>c3s (.v n) fun m=>match s with
   |none=>k (AM m)
   |some t=>fN (AU t m) fun t=>k (AM t)
def a8j (ts:TS)(sz:Nat)(x:CA)(lo hi mx:Option a0h)(k:CA->Bool):Bool:=
 match x with
 | .msl l sz' s n f=>a0w (AC sz sz') (c2t ts lo (.l (.ofNat .zero)) fun lo=>c2t ts hi (.v (.ofNat n)) fun hi=>
    a0w (xle (.ofNat .zero) lo.val) (a0w (xle lo.val hi.val) (a0w (xle hi.val (.ofNat n)) (
     c3s hi fun hin=>c3s lo fun lon=>fN (At hin lon) fun len=>match mx with
      |none=>match f with
       |true=>a0w (xeq hi.val (.ofNat n)) (a7g s lo fun s=>k (.msl l sz s len AB))
       |false=>a7g s lo fun s=>k (.msl l sz s len AE)
      |some m=>a1j ts m fun v=>a9z v fun m=>a0w (xeq m.val hi.val) (a7g s lo fun s=>k (.msl l sz s len AB))))))
 | .d (.sl sz' n e)=>a0w (AC sz sz') (c2t ts lo (.l (.ofNat .zero)) fun lo=>c2t ts hi (.v (.ofNat n)) fun hi=>
    a0w (xle (.ofNat .zero) lo.val) (a0w (xle lo.val hi.val) (a0w (xle hi.val (.ofNat n)) (
     c3s hi fun hin=>c3s lo fun lon=>fN (At hin lon) fun len=>c0s e lon fun e=>match mx with
      |none=>k (.d (.sl sz len e))
      |some m=>a1j ts m fun v=>a9z v fun m=>a0w (xeq m.val hi.val) (k (.dfs sz len e))))))
 | .d .nil=>c2t ts lo (.l (.ofNat .zero)) fun lo=>c2t ts hi (.l (.ofNat .zero)) fun hi=>a0w (xeq lo.val (.ofNat .zero)) (a0w (xeq hi.val (.ofNat .zero)) (match mx with
    |none=>k (.d .nil)
    |some m=>a1j ts m fun v=>a9z v fun m=>a0w (xeq m.val (.ofNat .zero)) (k (.d .nil))))
 |_=>xf 33
def e0d (i:IX)(n:Nat)(k:Nat->Bool):Bool:=
 match i.val with
 | .ofNat m=>a0w (AO m n) (k m)
 | .negSucc _=>xf 34
def a9e (sz:Nat)(x:CA)(i:IX)(k:CA->Bool):Bool:=
 match x with
 | .msl l sz' s n _=>a0w (AC sz sz') (e0d i n fun j=>d3i s j fun j=>k (.aptr l sz j .zero))
 | .d (.sl sz' n e)=>a0w (AC sz sz') (e0d i n fun j=>d9x e j fun r=>k (.dptr r .zero))
 | .dfs sz' n e=>a0w (AC sz sz') (e0d i n fun j=>d9x e j fun r=>k (.dptr r .zero))
 |_=>xf 35
def b6h (sz:Nat)(h:CH)(v:CA)(k:Nat->Nat->List (List CD)->Bool):Bool:=
 match v with
 | .d .nil=>k sz .zero []
 |v=>c4l h v k
def c3e (l m:Nat)(v:CA)(k:CA->Bool):Bool:=
 @Ah (fun _=>Bool) (k v) (k .any) (AC l m)
def c7q (l:Nat)(v:CA)(k:CA->Bool):Bool:=
 @CA.rec (fun _=>Nat->(CA->Bool)->Bool) (fun _=>Nat->(List CA->Bool)->Bool)
   (fun x _ k=>k (.d x)) (fun _ k=>k .any) (fun _ k=>k .und) (fun _ ih l k=>ih l fun cs=>k (.agg cs)) (fun _ ih l k=>ih l fun cs=>k (.tuple cs))
   (fun m off l k=>c3e l m (.ptr m off) k) (fun m sz i off l k=>c3e l m (.aptr m sz i off) k) (fun row off _ k=>k (.dptr row off)) (fun sz n e _ k=>k (.dfs sz n e))
   (fun m sz s n f l k=>c3e l m (.msl m sz s n f) k) (fun m off n l k=>c3e l m (.vsl m off n) k) (fun m l k=>c3e l m (.map m) k)
   (fun f _ _ ihu ihc l k=>ihu l fun us=>ihc l fun cs=>k (.fn f us cs)) (fun m _ k=>k (.ge m)) (fun m l k=>c3e l m (.yl m) k)
   (fun _ k=>k []) (fun _ _ ih ihs l k=>ih l fun v=>ihs l fun r=>k (v::r)) v l k
def a8d (l:Nat)(vs:List CA)(k:List CA->Bool):Bool:=
 @CA.rec_1 (fun _=>Nat->(CA->Bool)->Bool) (fun _=>Nat->(List CA->Bool)->Bool)
   (fun x _ k=>k (.d x)) (fun _ k=>k .any) (fun _ k=>k .und) (fun _ ih l k=>ih l fun cs=>k (.agg cs)) (fun _ ih l k=>ih l fun cs=>k (.tuple cs))
   (fun m off l k=>c3e l m (.ptr m off) k) (fun m sz i off l k=>c3e l m (.aptr m sz i off) k) (fun row off _ k=>k (.dptr row off)) (fun sz n e _ k=>k (.dfs sz n e))
   (fun m sz s n f l k=>c3e l m (.msl m sz s n f) k) (fun m off n l k=>c3e l m (.vsl m off n) k) (fun m l k=>c3e l m (.map m) k)
   (fun f _ _ ihu ihc l k=>ihu l fun us=>ihc l fun cs=>k (.fn f us cs)) (fun m _ k=>k (.ge m)) (fun m l k=>c3e l m (.yl m) k)
   (fun _ k=>k []) (fun _ _ ih ihs l k=>ih l fun v=>ihs l fun r=>k (v::r)) vs l k
def a4w (l:Nat)(t:TS)(k:TS->Bool):Bool:=
 @BT.rec CA (fun _=>Nat->(TS->Bool)->Bool) (fun _ k=>k .leaf) (fun v _ _ il ir l k=>c7q l v fun v=>il l fun tl=>ir l fun tr=>k (.node v tl tr)) t l k
def c1f (l:Nat)(o:b0h)(k:b0h->Bool):Bool:=
 match o with
 | .var cs=>a8d l cs fun cs=>k (.var cs)
 | .mapv wide ks keys vals=>a8d l vals fun vals=>k (.mapv wide ks keys vals)
 | .loop s ts ps A a b=>a4w l ts fun ts=>k (.loop s ts ps A a b)
 |o=>k o
def a1l (l:Nat)(t:BT b0h)(k:BT b0h->Bool):Bool:=
 @BT.rec b0h (fun _=>Nat->(BT b0h->Bool)->Bool) (fun _ k=>k .leaf) (fun v _ _ il ir l k=>c1f l v fun v=>il l fun tl=>ir l fun tr=>k (.node v tl tr)) t l k
def c1o (l:Nat)(h:CH)(k:CH->Bool):Bool:=
 @CH.rec (fun _=>Nat->(CH->Bool)->Bool) (fun n t l k=>a1l l t fun t=>k ⟨n,t⟩) h l k
def a6k (pg:List Nat)(ts:TS)(k:TS->Bool):Bool:=
 match pg with
 |[]=>k ts
 |l::pg=>a4w l ts fun ts=>a6k pg ts k
def b6p (l:Nat):List Nat->Bool
 |[]=>AE
 |m::r=>match AC l m with
  |true=>AB
  |false=>b6p l r
def a9x (base:Nat)(pg mv:List Nat)(k:List Nat->Bool):Bool:=
 match pg with
 |[]=>k mv
 |l::pg=>match AO l base with
  |true=>match b6p l mv with
   |true=>a9x base pg mv k
   |false=>a9x base pg (l::mv) k
  |false=>a9x base pg mv k
def e9q (v:CA)(k:CA->Bool):Bool:=
 @CA.rec (fun _=>(CA->Bool)->Bool) (fun _=>(List CA->Bool)->Bool)
   (fun x k=> @CD.rec (fun _=>(CA->Bool)->Bool) (fun _=>Bool) (fun _=>Bool) (fun kd n k=>k (.d (.int kd (.v n.val)))) (fun b k=>k (.d (.bool b))) (fun l k=>k (.d (.str l))) (fun k=>k (.d .nil)) (fun sz n e _ k=>k (.d (.sl sz n e))) (fun v k=>k (.d (.raw v))) AB (fun _ _ _ _=>AB) AB (fun _ _ _ _=>AB) x k)
   (fun k=>k .any) (fun k=>k .und) (fun _ ih k=>ih fun cs=>k (.agg cs)) (fun _ ih k=>ih fun cs=>k (.tuple cs))
   (fun m off k=>k (.ptr m off)) (fun m sz i off k=>k (.aptr m sz i off)) (fun row off k=>k (.dptr row off)) (fun sz n e k=>k (.dfs sz n e))
   (fun m sz s n f k=>k (.msl m sz s n f)) (fun m off n k=>k (.vsl m off n)) (fun m k=>k (.map m))
   (fun f _ _ ihu ihc k=>ihu fun us=>ihc fun cs=>k (.fn f us cs)) (fun m k=>k (.ge m)) (fun m k=>k (.yl m))
   (fun k=>k []) (fun _ _ ih ihs k=>ih fun v=>ihs fun r=>k (v::r)) v k
def a8f (vs:List CA)(k:List CA->Bool):Bool:=
 @CA.rec_1 (fun _=>(CA->Bool)->Bool) (fun _=>(List CA->Bool)->Bool)
   (fun x k=> @CD.rec (fun _=>(CA->Bool)->Bool) (fun _=>Bool) (fun _=>Bool) (fun kd n k=>k (.d (.int kd (.v n.val)))) (fun b k=>k (.d (.bool b))) (fun l k=>k (.d (.str l))) (fun k=>k (.d .nil)) (fun sz n e _ k=>k (.d (.sl sz n e))) (fun v k=>k (.d (.raw v))) AB (fun _ _ _ _=>AB) AB (fun _ _ _ _=>AB) x k)
   (fun k=>k .any) (fun k=>k .und) (fun _ ih k=>ih fun cs=>k (.agg cs)) (fun _ ih k=>ih fun cs=>k (.tuple cs))
   (fun m off k=>k (.ptr m off)) (fun m sz i off k=>k (.aptr m sz i off)) (fun row off k=>k (.dptr row off)) (fun sz n e k=>k (.dfs sz n e))
   (fun m sz s n f k=>k (.msl m sz s n f)) (fun m off n k=>k (.vsl m off n)) (fun m k=>k (.map m))
   (fun f _ _ ihu ihc k=>ihu fun us=>ihc fun cs=>k (.fn f us cs)) (fun m k=>k (.ge m)) (fun m k=>k (.yl m))
   (fun k=>k []) (fun _ _ ih ihs k=>ih fun v=>ihs fun r=>k (v::r)) vs k
def a2c (h:CH)(sz:Nat)(x y:CA)(mu:Bool)(k:CA->CH->List Nat->Bool):Bool:=
 b6h sz h y fun sz2 m e2=>a0w (AC sz sz2) (match x with
  | .d .nil=>a0w (AX m 1073741824) (match mu with
    |true=>h.add (.arr sz m e2) fun n0 h'=>k (.msl n0 sz AP m AE) h' []
    |false=>k (.d (.sl sz m e2)) h [])
  | .dfs sz' n e=>a0w (AC sz sz') (fN (AU n m) fun nm=>a0w (AX nm 1073741824) (a0w (AO .zero m) (b0e e n e2 fun e=>match mu with
    |true=>h.add (.arr sz nm e) fun n0 h'=>k (.msl n0 sz AP nm AE) h' []
    |false=>k (.d (.sl sz nm e)) h [])))
  | .msl l sz' AP n AE=>a0w (AC sz sz') (h.get l fun
    | .arr sz'' n' e=>a0w (AC sz sz'') (a0w (AC n' n) (fN (AU n m) fun nm=>a0w (AX nm 1073741824) (b0e e n e2 fun e=>h.set l (.arr sz nm e) fun h=>c1o l h fun h=>k (.msl l sz AP nm AE) h [l])))
    |_=>xf 36)
  | .msl l sz' s n AB=>a0w (AC sz sz') (c4l h (.msl l sz' s n AB) fun _ n e=>fN (AU n m) fun nm=>a0w (AX nm 1073741824) (a0w (AO .zero m) (b0e e n e2 fun e=>match mu with
    |true=>h.add (.arr sz nm e) fun n0 h'=>k (.msl n0 sz AP nm AE) h' []
    |false=>k (.d (.sl sz nm e)) h [])))
  |_=>xf 37)
def a8t (v:CA):Bool:=
 match v with
 | .d .nil=>AB
 | .d (.sl _ n _)=>AC n .zero
 | .dfs _ n _=>AC n .zero
 | .msl _ _ _ n _=>AC n .zero
 |_=>AE
def d1e (v:CA):Bool:=
 match v with
 | .dfs _ n _=>AC n .zero
 |_=>AE
def c6n (v:CA):Bool:=
 match v with
 | .d .nil=>AB
 |_=>AE
def c0o (s:Option Nat):Nat:=
 match s with
 |none=> .zero
 |some s=>s
def a8m (h:CH)(sz:Nat)(x y:CA)(k:CA->CH->Bool):Bool:=
 b6h sz h y fun sz2 m e2=>a0w (AC sz sz2) (match x with
  | .msl l sz' s n AE=>a0w (AC sz sz') (h.get l fun
    | .arr sz'' n' e=>a0w (AC sz sz'') (d3i s n fun sn=>a0w (AX (AU sn m) n') (c5x e sn m e2 fun e=>h.set l (.arr sz n' e) fun h=>fN (AU n m) fun nm=>k (.msl l sz s nm AE) h))
    |_=>xf 38)
  |_=>xf 39)
def c3p (e:List (List CD))(n:Nat)(k:List CA->Bool):Bool:=
 match n with
 | .zero=>k []
 | .succ n=>match e with
   |[]=>xf 76
   |r::e=>match r with
    |[x]=>c3p e n fun l=>k (.d x::l)
    |_=>xf 77
def e5l (a b:Nat):Nat:=
 match AX a b with
 |true=>a
 |false=>b
def b1r (h:CH)(sz:Nat)(x y:CA)(k:CA->CH->Bool):Bool:=
 b6h sz h y fun sz2 m e2=>a0w (AC sz sz2) (match x with
  | .msl l sz' s n _=>a0w (AC sz sz') (h.get l fun
    | .arr sz'' n' e=>a0w (AC sz sz'') (d3i s n fun sn=>a0w (AX sn n') (fN (e5l n m) fun nm=>c5x e (c0o s) nm e2 fun e=>h.set l (.arr sz n' e) fun h=>k (.d (.int .i64 (.v (.ofNat nm)))) h))
    |_=>xf 40)
  | .vsl l off n=>a0w (AC sz 1) (h.get l fun
    | .var cs=>fN (e5l n m) fun nm=>c3p e2 nm fun new=>e0w cs off new fun cs=>h.set l (.var cs) fun h=>k (.d (.int .i64 (.v (.ofNat nm)))) h
    |_=>xf 78)
  |_=>xf 41)
def f1s (l:List UInt8)(i:Nat)(k:UInt8->Bool):Bool:=d2f k l i
structure XS where
 pcall:Bool->Ad->List CA->(CA->Bool)->Bool
 call:Ad->List CA->CH->(List Nat->CA->CH->Bool)->Bool
 yld:Nat->List CA->CH->(List Nat->CA->CH->Bool)->Bool
 loop:A4->Nat->Bool->a0c->(Lv->TS->CH->List Nat->Bool)->TS->CH->List Nat->Bool
def c6k (v:CA):CA:=
 match v with
 | .d (.raw (.func (.func f) us vs))=>match AC us.size .zero with
   |true=>(match AC vs.size .zero with
    |true=> .fn f [] []
    |false=> .any)
   |false=> .any
 |v=>v
def f0b (X:XS)(ts:TS)(h:CH)(f:a0h)(args:List a0h)(m:Mode)(k:CA->CH->List Nat->Bool):Bool:=
 a1j ts f fun v=>match c6k v with
  | .fn f first cap=>c4f ts args fun args=>d1s args cap fun r=>d1s first r fun vs=>match m with
    | .borrow=>b3p h vs fun vs=>a7k vs (fun _=>a8f vs fun vs=>X.pcall AB f vs fun v=>k v h [])
    | .share=>a3k h vs fun vs h=>a7k vs (fun _=>a8f vs fun vs=>X.pcall AE f vs fun v=>k v h [])
    | .data=>a7k vs (fun _=>a8f vs fun vs=>X.pcall AE f vs fun v=>k v h [])
    | .raw=>a8f vs fun vs=>X.call f vs h fun pg v h=>k v h pg
    | .fresh=>xf 42
  | .yl l=>match m with
    | .raw=>c4f ts args fun args=>a8f args fun args=>X.yld l args h fun pg v h=>k v h pg
    |_=>xf 43
  |_=>xf 44
def b4a (ts:TS)(sz sz' n:Nat)(lo hi mx:Option a0h)(k:Unit->Bool):Bool:=
 a0w (AC sz sz') (c2t ts lo (.l (.ofNat .zero)) fun lo=>c2t ts hi (.v (.ofNat n)) fun hi=>c2t ts mx (.v (.ofNat n)) fun mx=>
  a0w (xle (.ofNat .zero) lo.val) (a0w (xle lo.val hi.val) (a0w (xle hi.val mx.val) (a0w (xle mx.val (.ofNat n)) (k ())))))
def f3i (x:a0h)(_:XS)(ts:TS)(h:CH)(k:CA->CH->List Nat->Bool):Bool:=
 a1j ts x fun v=>k v h []
def c1m (sz:Nat)(_:XS)(_:TS)(h:CH)(k:CA->CH->List Nat->Bool):Bool:=
 h.add (.arr sz .zero []) fun n0 h'=>k (.msl n0 sz AP .zero AE) h' []
def d5r (sz:Nat)(_:XS)(_:TS)(h:CH)(k:CA->CH->List Nat->Bool):Bool:=
 h.add (.arr sz .zero []) fun n0 h'=>k (.msl n0 sz AP .zero AE) h' []
def d6c (c:a0h)(a:a0h)(b:a0h)(_:XS)(ts:TS)(h:CH)(k:CA->CH->List Nat->Bool):Bool:=
 a1j ts c fun v=>b9d v fun c=>match c with
  |true=>a1j ts a fun v=>k v h []
  |false=>a1j ts b fun v=>k v h []
def c7c (zs:List DV)(_:XS)(_:TS)(h:CH)(k:CA->CH->List Nat->Bool):Bool:=
 c5z zs fun zs=>dL zs fun zs=>h.add (.var zs) fun n0 h'=>k (.ptr n0 .zero) h' []
def e4a (x:a0h)(_:XS)(ts:TS)(h:CH)(k:CA->CH->List Nat->Bool):Bool:=
 a1j ts x fun v=>b6d v.cells (fun _=>h.add (.var v.cells) fun n0 h'=>k (.ptr n0 .zero) h' [])
def c6y (zs:List DV)(ps:List (Nat×Nat×a0h))(_:XS)(ts:TS)(h:CH)(k:CA->CH->List Nat->Bool):Bool:=
 c5z zs fun zs=>dL zs fun zs=>c3j ts zs ps fun cs=>k (.agg cs) h []
def c2k (sz:Nat)(len:Nat)(zs:List DV)(ps:List (Nat×a0h))(mu:Bool)(_:XS)(ts:TS)(h:CH)(k:CA->CH->List Nat->Bool):Bool:=
 c5z zs fun zs=>dL zs fun zs=>d9p zs len fun rs=>b6y ts sz rs ps fun rs=>a7s h rs fun rows h=>match mu with
  |true=>h.add (.arr sz len rows) fun n0 h'=>k (.msl n0 sz AP len AE) h' []
  |false=>k (.d (.sl sz len rows)) h []
def d4z (agg:Option Nat)(x:a0h)(_:XS)(ts:TS)(h:CH)(k:CA->CH->List Nat->Bool):Bool:=
 a1j ts x fun p=>c3r h p agg fun v=>k v h []
def c6r (sz:Nat)(a:a0h)(x:a0h)(_:XS)(ts:TS)(h:CH)(k:CA->CH->List Nat->Bool):Bool:=
 a1j ts a fun p=>a1j ts x fun v=>b8w h p v sz fun h=>k .und h []
def c3k (x:a0h)(_:XS)(ts:TS)(h:CH)(k:CA->CH->List Nat->Bool):Bool:=
 a1j ts x fun v=>a0w v.isPtr (k v h [])
def e3f (op:Aw)(x:a0h)(y:a0h)(_:XS)(ts:TS)(h:CH)(k:CA->CH->List Nat->Bool):Bool:=
 a1j ts x fun x=>a1j ts y fun y=>match x with
  | .d (.int kd a)=>match y with
    | .d (.int kd' b)=>a0w (kEq kd kd') (a8y op kd a b fun v=>k (.d v) h [])
    | .ge m=>match op with
      | .gtr=>a0w (kEq kd .i64) (a0w (xle a.val (.ofNat m)) (k (.d (.bool AE)) h []))
      |_=>xf 45
    |_=>xf 46
  |_=>xf 47
def f2y (op:Aw)(x:a0h)(y:a0h)(_:XS)(ts:TS)(h:CH)(k:CA->CH->List Nat->Bool):Bool:=
 a1j ts x fun x=>a1j ts y fun y=>match x with
  | .d (.int kd a)=>match y with
    | .d (.int kd' b)=>match c6z op with
      | .zero=>xf 88
      | .succ n=>match n with
        | .zero=>a0w (xle (.ofNat .zero) b.val) (fI (c2b op kd a.val b.val) fun c=>k (.d (.int kd (.v c))) h [])
        | .succ n=>match n with
          | .zero=>a0w (kEq kd kd') (fI (d2j op kd a.val b.val) fun c=>k (.d (.int kd (.v c))) h [])
          | .succ _=>xf 88
    |_=>xf 88
  |_=>xf 88
def d5u (op:Aw)(x:a0h)(y:a0h)(_:XS)(ts:TS)(h:CH)(k:CA->CH->List Nat->Bool):Bool:=
 a1j ts x fun x=>b9d x fun a=>a1j ts y fun y=>b9d y fun b=>match op with
  | .eql=>match a with
    |true=>k (.d (.bool b)) h []
    |false=>match b with
     |true=>k (.d (.bool AE)) h []
     |false=>k (.d (.bool AB)) h []
  | .neq=>match a with
    |false=>k (.d (.bool b)) h []
    |true=>match b with
     |true=>k (.d (.bool AE)) h []
     |false=>k (.d (.bool AB)) h []
  |_=>xf 48
def e2x (neg:Bool)(ks:List AG)(x:a0h)(y:a0h)(_:XS)(ts:TS)(h:CH)(k:CA->CH->List Nat->Bool):Bool:=
 a1j ts x fun x=>a1j ts y fun y=>match x with
  | .agg xs=>match y with
    | .agg ys=>e3k ks xs ys fun b=>match neg with
      |true=>(match b with
       |true=>k (.d (.bool AE)) h []
       |false=>k (.d (.bool AB)) h [])
      |false=>k (.d (.bool b)) h []
    |_=>xf 83
  |_=>xf 83
def d5b (neg:Bool)(ks:List CK)(x:a0h)(y:a0h)(_:XS)(ts:TS)(h:CH)(k:CA->CH->List Nat->Bool):Bool:=
 a1j ts x fun x=>a1j ts y fun y=>match x with
  | .agg xs=>match y with
    | .agg ys=>c3v ks xs ys fun b=>match neg with
      |true=>(match b with
       |true=>k (.d (.bool AE)) h []
       |false=>k (.d (.bool AB)) h [])
      |false=>k (.d (.bool b)) h []
    |_=>xf 83
  |_=>xf 83
def g1j (op:UnOp)(x:a0h)(_:XS)(ts:TS)(h:CH)(k:CA->CH->List Nat->Bool):Bool:=
 a1j ts x fun x=>match op with
  | .not=>b9d x fun b=>match b with
    |true=>k (.d (.bool AE)) h []
    |false=>k (.d (.bool AB)) h []
  | .neg=>match x with
    | .d (.int kd n)=>fI (BB (.ofNat .zero) n.val) fun c=>a0w (d3z kd c) (k (.d (.int kd (.v c))) h [])
    |_=>xf 49
  |_=>xf 49
def d5v (kd:AG)(x:a0h)(_:XS)(ts:TS)(h:CH)(k:CA->CH->List Nat->Bool):Bool:=
 a1j ts x fun x=>match x with
  | .d (.int _ n)=>fI (kd.wrap n.val) fun c=>k (.d (.int kd (.v c))) h []
  |_=>xf 50
def d5h (f:Ad)(first:List a0h)(cap:List a0h)(_:XS)(ts:TS)(h:CH)(k:CA->CH->List Nat->Bool):Bool:=
 c4f ts first fun us=>c4f ts cap fun cs=>k (.fn f us cs) h []
def d0g (wide:Bool)(ks:List AG)(_:XS)(_:TS)(h:CH)(k:CA->CH->List Nat->Bool):Bool:=
 h.add (.map wide ks .zero []) fun n0 h'=>k (.map n0) h' []
def b6o (sz:Nat)(zs:List DV)(_:Nat)(n:a0h)(_:XS)(ts:TS)(h:CH)(k:CA->CH->List Nat->Bool):Bool:=
 c5z zs fun zs=>a1j ts n fun v=>a9z v fun n=>a0w (xle (.ofNat .zero) n.val) (a0w (xle n.val (.ofNat 1073741824)) (c3s n fun n=>d9p zs n fun rows=>
  h.add (.arr sz n rows) fun n0 h'=>k (.msl n0 sz AP n AE) h' []))
def c7r (sz:Nat)(x:a0h)(lo:Option a0h)(hi:Option a0h)(mx:Option a0h)(_:XS)(ts:TS)(h:CH)(k:CA->CH->List Nat->Bool):Bool:=
 a1j ts x fun x=>a8j ts sz x lo hi mx fun v=>k v h []
def d0j (n:Nat)(x:a0h)(lo:Option a0h)(hi:Option a0h)(_:XS)(ts:TS)(h:CH)(k:CA->CH->List Nat->Bool):Bool:=
 a1j ts x fun x=>match x with
  | .ptr l off=>c2t ts lo (.l (.ofNat .zero)) fun lo=>c2t ts hi (.l (.ofNat n)) fun hi=>
     a0w (xle (.ofNat .zero) lo.val) (a0w (xle lo.val hi.val) (a0w (xle hi.val (.ofNat n)) (c3s lo fun lo=>c3s hi fun hi=>fN (AU off lo) fun off=>match At hi lo with
      | .zero=>k (.d (.sl 1 .zero [])) h []
      | .succ m=>k (.vsl l off (.succ m)) h [])))
  |_=>xf 51
def c6l (off:Nat)(x:a0h)(_:XS)(ts:TS)(h:CH)(k:CA->CH->List Nat->Bool):Bool:=
 a1j ts x fun x=>match x with
  | .ptr l o=>fN (AU o off) fun o=>k (.ptr l o) h []
  | .aptr l sz i o=>fN (AU o off) fun o=>k (.aptr l sz i o) h []
  | .dptr row o=>fN (AU o off) fun o=>k (.dptr row o) h []
  |_=>xf 52
def c6v (off:Nat)(agg:Option Nat)(x:a0h)(_:XS)(ts:TS)(h:CH)(k:CA->CH->List Nat->Bool):Bool:=
 a1j ts x fun x=>match x with
  | .agg cs=>match agg with
    |none=>d2f (fun v=>k v h []) cs off
    |some n=>e1y cs off n fun c=>k (.agg c) h []
  |_=>xf 53
def c9b (sz:Nat)(x:a0h)(i:a0h)(_:XS)(ts:TS)(h:CH)(k:CA->CH->List Nat->Bool):Bool:=
 a1j ts i fun v=>a9z v fun i=>a1j ts x fun x=>a9e sz x i fun v=>k v h []
def c2m (n:Nat)(sz:Nat)(x:a0h)(i:a0h)(_:XS)(ts:TS)(h:CH)(k:CA->CH->List Nat->Bool):Bool:=
 a1j ts i fun v=>a9z v fun i=>a1j ts x fun x=>match x with
  | .ptr l off=>match i with
    | .l i=>match i with
      | .ofNat i=>a0w (AO i n) (fN (AU off (BH i sz)) fun o=>k (.ptr l o) h [])
      | .negSucc _=>xf 54
    | .v i=>match i with
      | .ofNat i=>a0w (AO i n) (fN (AU off (BH i sz)) fun o=>k (.ptr l o) h [])
      | .negSucc _=>xf 55
  |_=>xf 56
def c2a (wide:Bool)(ks:List AG)(ok:Bool)(m:a0h)(kx:a0h)(_:XS)(ts:TS)(h:CH)(k:CA->CH->List Nat->Bool):Bool:=
 a1j ts m fun m=>match m with
  | .map l=>h.get l fun
    | .map wide' ks' _ es=>a0w (match wide with|true=>wide'|false=>AW wide') (a0w (d4u ks ks') (a1j ts kx fun kx=>a6w wide ks kx fun kc=>c7a es kc fun r=>match r with
      |some n=>match ok with
       |true=>k (.tuple [.d (.int .i64 (.v n)),.d (.bool AB)]) h []
       |false=>k (.d (.int .i64 (.v n))) h []
      |none=>match ok with
       |true=>k (.tuple [.d (.int .i64 (.v (.ofNat .zero))),.d (.bool AE)]) h []
       |false=>k (.d (.int .i64 (.v (.ofNat .zero)))) h []))
    |_=>xf 57
  |_=>xf 58
def c2h (wide:Bool)(ks:List AG)(m:a0h)(kx:a0h)(x:a0h)(_:XS)(ts:TS)(h:CH)(k:CA->CH->List Nat->Bool):Bool:=
 a1j ts m fun m=>match m with
  | .map l=>h.get l fun
    | .map wide' ks' n es=>a0w (match wide with|true=>wide'|false=>AW wide') (a0w (d4u ks ks') (a1j ts kx fun kx=>a6w wide ks kx fun kc=>a1j ts x fun x=>a9z x fun x=>c7a es kc fun r=>match r with
      |some _=>h.set l (.map wide ks n ((kc,x.val)::es)) fun h=>k .und h []
      |none=>fN (Aj n) fun n=>h.set l (.map wide ks n ((kc,x.val)::es)) fun h=>k .und h []))
    |_=>xf 59
  |_=>xf 60
def b6i (x:a0h)(i:Nat)(_:XS)(ts:TS)(h:CH)(k:CA->CH->List Nat->Bool):Bool:=
 a1j ts x fun x=>match x with
  | .tuple vs=>d2f (fun v=>k v h []) vs i
  |_=>xf 61
def d5y (f:a0h)(args:List a0h)(m:Mode)(X:XS)(ts:TS)(h:CH)(k:CA->CH->List Nat->Bool):Bool:=
 f0b X ts h f args m k
def e2a (x:a0h)(_:XS)(ts:TS)(h:CH)(k:CA->CH->List Nat->Bool):Bool:=
 a1j ts x fun x=>match x with
  | .d .nil=>k (.d (.int .i64 (.l (.ofNat .zero)))) h []
  | .d (.sl _ n _)=>k (.d (.int .i64 (.v (.ofNat n)))) h []
  | .dfs _ n _=>k (.d (.int .i64 (.v (.ofNat n)))) h []
  | .msl _ _ _ n _=>k (.d (.int .i64 (.v (.ofNat n)))) h []
  | .vsl _ _ n=>k (.d (.int .i64 (.v (.ofNat n)))) h []
  |_=>xf 62
def d4x (x:a0h)(_:XS)(ts:TS)(h:CH)(k:CA->CH->List Nat->Bool):Bool:=
 a1j ts x fun x=>match x with
  | .map l=>h.get l fun
    | .map _ _ n _=>k (.d (.int .i64 (.v (.ofNat n)))) h []
    |_=>xf 63
  |_=>xf 64
def e1w (x:a0h)(_:XS)(ts:TS)(h:CH)(k:CA->CH->List Nat->Bool):Bool:=
 a1j ts x fun x=>match x with
  | .msl l sz s n f=>h.get l fun
    | .arr sz' m _=>a0w (AC sz sz') (match f with
      |true=>k (.d (.int .i64 (.v (.ofNat n)))) h []
      |false=>match s with
       |none=>k (.ge m) h []
       |some s=>fN (At m s) fun m=>k (.ge m) h [])
    |_=>xf 65
  |_=>xf 66
def e3l (x:a0h)(y:a0h)(_:XS)(ts:TS)(h:CH)(k:CA->CH->List Nat->Bool):Bool:=
 a1j ts x fun x=>a1j ts y fun y=>match x with
  | .d (.int kd a)=>match y with
    | .d (.int kd' b)=>a0w (kEq kd kd') (match xlt b.val a.val with
      |true=>k (.d (.int kd (.v b.val))) h []
      |false=>k (.d (.int kd (.v a.val))) h [])
    |_=>xf 67
  |_=>xf 68
def e1f (x:a0h)(y:a0h)(_:XS)(ts:TS)(h:CH)(k:CA->CH->List Nat->Bool):Bool:=
 a1j ts x fun x=>a1j ts y fun y=>match x with
  | .d (.int kd a)=>match y with
    | .d (.int kd' b)=>a0w (kEq kd kd') (match xlt a.val b.val with
      |true=>k (.d (.int kd (.v b.val))) h []
      |false=>k (.d (.int kd (.v a.val))) h [])
    |_=>xf 67
  |_=>xf 68
def c2g (sz:Nat)(_:Nat)(x:a0h)(y:a0h)(mu:Bool)(_:XS)(ts:TS)(h:CH)(k:CA->CH->List Nat->Bool):Bool:=
 a1j ts x fun x=>a1j ts y fun y=>a2c h sz x y mu k
def d5o (sz:Nat)(x:a0h)(y:a0h)(_:XS)(ts:TS)(h:CH)(k:CA->CH->List Nat->Bool):Bool:=
 a1j ts x fun x=>a1j ts y fun y=>b1r h sz x y fun v h=>k v h []
def f0n (_:XS)(_:TS)(_:CH)(_:CA->CH->List Nat->Bool):Bool:=
 xf 69
def b3i (sz:Nat)(x:a0h)(y:a0h)(_:XS)(ts:TS)(h:CH)(k:CA->CH->List Nat->Bool):Bool:=
 a1j ts x fun x=>a1j ts y fun y=>a8m h sz x y fun v h=>k v h []
def c6w (sz:Nat)(zs:List DV)(x:a0h)(_:XS)(ts:TS)(h:CH)(k:CA->CH->List Nat->Bool):Bool:=
 c5z zs fun zs=>a1j ts x fun x=>match x with
  | .msl l sz' s n _=>a0w (AC sz sz') (h.get l fun
    | .arr sz'' n' e=>a0w (AC sz sz'') (d3i s n fun sn=>a0w (AX sn n') (d9p zs n fun new=>c5x e (c0o s) n new fun e=>h.set l (.arr sz n' e) fun h=>k .any h []))
    |_=>xf 70)
  |_=>xf 71
def c7u (neg:Bool)(x:a0h)(_:XS)(ts:TS)(h:CH)(k:CA->CH->List Nat->Bool):Bool:=
 a1j ts x fun x=>match x with
  | .d .nil=>(match neg with
    |true=>k (.d (.bool AE)) h []
    |false=>k (.d (.bool AB)) h [])
  | .d (.sl _ n _)=>a0w (AO .zero n) (k (.d (.bool neg)) h [])
  | .dfs _ n _=>a0w (AO .zero n) (k (.d (.bool neg)) h [])
  | .msl _ _ _ n _=>a0w (AO .zero n) (k (.d (.bool neg)) h [])
  |_=>xf 72
def c1r (sz:Nat)(x:a0h)(lo:Option a0h)(hi:Option a0h)(_:XS)(ts:TS)(h:CH)(k:CA->CH->List Nat->Bool):Bool:=
 a1j ts x fun x=>match x with
  | .msl l sz' s n AE=>a0w (AC sz sz') (h.get l fun
    | .arr sz'' n' _=>a0w (AC sz sz'') (c2t ts lo (.l (.ofNat .zero)) fun lo=>c2t ts hi (.v (.ofNat n)) fun hi=>
       a0w (xle (.ofNat .zero) lo.val) (a0w (xle lo.val hi.val) (c3s hi fun hin=>d3i s hin fun shi=>a0w (AX shi n') (c3s lo fun lon=>fN (At hin lon) fun len=>a7g s lo fun s=>k (.msl l sz s len AE) h []))))
    |_=>xf 73)
  |_=>xf 74
def d5k (l:List UInt8)(x:a0h)(_:XS)(ts:TS)(h:CH)(k:CA->CH->List Nat->Bool):Bool:=
 a1j ts x fun x=>match x with
  | .d (.int _ i)=>c3s i fun n=>a0w (xle (.ofNat .zero) i.val) (f1s l n fun b=>fN b.toNat fun b=>k (.d (.int .u8 (.v (.ofNat b)))) h [])
  |_=>xf 75
def c7e (sz:Nat)(x:a0h)(lo:Option a0h)(hi:Option a0h)(mx:Option a0h)(_:XS)(ts:TS)(h:CH)(k:CA->CH->List Nat->Bool):Bool:=
 a1j ts x fun x=>match x with
  | .msl _ sz' _ n _=>b4a ts sz sz' n lo hi mx fun _=>k .any h []
  | .d (.sl sz' n _)=>b4a ts sz sz' n lo hi mx fun _=>k .any h []
  |_=>xf 79
def e0z (x:a0h)(y:a0h)(_:XS)(ts:TS)(h:CH)(k:CA->CH->List Nat->Bool):Bool:=
 a1j ts x fun x=>a1j ts y fun y=>match x with
  | .msl l _ _ n1 _=>match y with
    | .msl l' _ _ n2 _=>match AC l l' with
      |true=>xf 80
      |false=>a0w (AO .zero n1)<|a0w (AO .zero n2)<|h.get l fun
       | .arr sz _ _=>h.get l' fun
         | .arr sz' n' _=>a0w (AC sz 1) (a0w (AC sz' 1) (a0w (AO .zero n') (k (.d (.bool AE)) h [])))
         |_=>xf 81
       |_=>xf 81
    |_=>xf 82
  |_=>xf 82
def b6u (sz:Nat)(_:Nat)(x:a0h)(y:a0h)(mu:Bool)(_:XS)(ts:TS)(h:CH)(k:CA->CH->List Nat->Bool):Bool:=
 a1j ts x fun x=>a1j ts y fun y=>match c6n x with
  |true=>(match a8t y with
   |true=>k (.d .nil) h []
   |false=>a2c h sz x y mu k)
  |false=>match d1e x with
   |true=>(match a8t y with
    |true=>k x h []
    |false=>a2c h sz x y mu k)
   |false=>a2c h sz x y mu k
def b8i (sz:Nat)(_:XS)(_:TS)(h:CH)(k:CA->CH->List Nat->Bool):Bool:=
 k (.dfs sz .zero []) h []
def c2j (wide:Bool)(ks:List AG)(_:XS)(_:TS)(h:CH)(k:CA->CH->List Nat->Bool):Bool:=
 h.add (.mapv wide ks [] []) fun n0 h'=>k (.map n0) h' []
def b8n (wide:Bool)(ks:List AG)(ok:Bool)(z:AV)(m:a0h)(kx:a0h)(_:XS)(ts:TS)(h:CH)(k:CA->CH->List Nat->Bool):Bool:=
 caK z fun z=>a1j ts m fun m=>match m with
  | .map l=>h.get l fun
    | .mapv wide' ks' keys vals=>a0w (match wide with|true=>wide'|false=>AW wide') (a0w (d4u ks ks') (a1j ts kx fun kx=>a6w wide ks kx fun kc=>c2u kc keys vals fun r=>match r with
      |some v=>match ok with
       |true=>k (.tuple [v,.d (.bool AB)]) h []
       |false=>k v h []
      |none=>match ok with
       |true=>k (.tuple [z,.d (.bool AE)]) h []
       |false=>k z h []))
    |_=>xf 83
  |_=>xf 84
def b6k (wide:Bool)(ks:List AG)(m:a0h)(kx:a0h)(x:a0h)(_:XS)(ts:TS)(h:CH)(k:CA->CH->List Nat->Bool):Bool:=
 a1j ts m fun m=>match m with
  | .map l=>h.get l fun
    | .mapv wide' ks' keys vals=>a0w (match wide with|true=>wide'|false=>AW wide') (a0w (d4u ks ks') (a1j ts kx fun kx=>a6w wide ks kx fun kc=>a1j ts x fun x=>d2k kc x keys vals fun r=>match r with
      |some vals=>h.set l (.mapv wide ks keys vals) fun h=>k .und h []
      |none=>d1s keys [kc] fun keys=>d1s vals [x] fun vals=>h.set l (.mapv wide ks keys vals) fun h=>k .und h []))
    |_=>xf 85
  |_=>xf 86
def b8p (sz:Nat)(len:Nat)(zs:List DV)(ps:List (Nat×a0h))(_:XS)(ts:TS)(h:CH)(k:CA->CH->List Nat->Bool):Bool:=
 c5z zs fun zs=>dL zs fun zs=>d9p zs len fun rs=>b6y ts sz rs ps fun rs=>e1q rs fun rows=>k (.d (.sl sz len rows)) h []
def b2x (x:a0h)(i:Nat)(_:XS)(ts:TS)(h:CH)(k:CA->CH->List Nat->Bool):Bool:=
 a1j ts x fun x=>match x with
  | .tuple vs=>d2f (fun v=>match v with
    | .agg cs=>a3l h cs fun cs h=>k (.agg cs) h []
    | .ptr l .zero=>a6a h l fun v h=>k v h []
    |v=>b0r h v fun v h=>k v h []) vs i
  |_=>xf 61
def c3h (wide:Bool)(ks:List AG)(z:AV)(m:a0h)(kx:a0h)(_:XS)(ts:TS)(h:CH)(k:CA->CH->List Nat->Bool):Bool:=
 caK z fun z=>a1j ts m fun m=>match m with
  | .map l=>h.get l fun
    | .mapv wide' ks' keys vals=>a0w (match wide with|true=>wide'|false=>AW wide') (a0w (d4u ks ks') (a1j ts kx fun kx=>a6w wide ks kx fun kc=>d1y kc keys .zero fun r=>match r with
      |some i=>d2f (fun v=>k (.tuple [v,.d (.int .i64 (.v (.ofNat i)))]) h []) vals i
      |none=>d7i keys .zero fun n=>d1s keys [kc] fun keys=>d1s vals [z] fun vals=>h.set l (.mapv wide ks keys vals) fun h=>k (.tuple [z,.d (.int .i64 (.v (.ofNat n)))]) h []))
    |_=>xf 87
  |_=>xf 89
def c8x (m:a0h)(s:a0h)(x:a0h)(_:XS)(ts:TS)(h:CH)(k:CA->CH->List Nat->Bool):Bool:=
 a1j ts m fun m=>match m with
  | .map l=>h.get l fun
    | .mapv wide ks keys vals=>a1j ts s fun s=>a9z s fun n=>d7i vals .zero fun c=>e0d n c fun j=>a1j ts x fun x=>e6b vals j x fun vals=>h.set l (.mapv wide ks keys vals) fun h=>k .und h []
    |_=>xf 90
  |_=>xf 91
def b7u (sz:Nat)(_:Nat)(x:a0h)(y:a0h)(_:XS)(ts:TS)(h:CH)(k:CA->CH->List Nat->Bool):Bool:=
 a1j ts x fun x=>a1j ts y fun y=>match x with
  | .d .nil=>match y with
    | .d .nil=>k (.d .nil) h []
    | .d (.sl sz' m e)=>a0w (AC sz sz') (a0w (AX m 1073741824) (k (.d (.sl sz m e)) h []))
    |_=>xf 93
  |_=>xf 94
def c0a (X:XS)(o:IOp)(ts:TS)(h:CH)(k:CA->CH->List Nat->Bool):Bool:=
 @IOp.rec (fun _=>XS->TS->CH->(CA->CH->List Nat->Bool)->Bool) f3i c1m d5r d6c c7c e4a c6y c2k d4z c6r c3k e3f d5u e2x g1j d5v d5h d0g b6o c7r d0j c6l c6v c9b c2m c2a c2h b6i d5y e2a d4x e1w e3l c2g d5o f0n b3i c6w c7u c1r d5k c7e e0z b6u c2j b8n b6k d5b e1f f2y b8p b2x c3h c8x b7u b8i f0n (fun _ _ _=>f0n) (fun _=>f0n) o X ts h k
end
noncomputable section
structure XFn where
 A:A4
 n:Nat
 irs:List c5p
 ic:a0c
inductive XT where
 |leaf
 |node (key:Nat) (fn:XFn) (l r:XT)
def XT.find (t:XT)(f:Nat)(k:XFn->Bool):Bool:=
 match t with
 | .leaf=>xf 100
 | .node key fn l r=>match AC f key with
   |true=>k fn
   |false=>match AO f key with
    |true=>l.find f k
    |false=>r.find f k
def a6h (dst:Option Nat)(v:CA)(ts:TS)(k:TS->Bool):Bool:=
 @A7 Nat (fun _=>CA->TS->(TS->Bool)->Bool) (fun _ ts k=>k ts) (fun d v ts k=>d4t ts d v k) dst v ts k
def c9g (base:Nat)(dst:Option Nat)(ts:TS)(mv:List Nat)(k:TS->CH->List Nat->Bool)(v:CA)(h:CH)(pg:List Nat):Bool:=
 match pg with
 |[]=>a6h dst v ts fun ts=>k ts h mv
 |p::pg=>a6k (p::pg) ts fun ts=>a9x base (p::pg) mv fun mv=>a6h dst v ts fun ts=>k ts h mv
section
variable (X:XS) (base:Nat)
def xop (o:IOp)(dst:Option Nat)(ts:TS)(h:CH)(mv:List Nat)(k:TS->CH->List Nat->Bool):Bool:=
 c0a X o ts h (c9g base dst ts mv k)
def xgV (want:Bool)(off on:Unit->Bool)(v:CA):Bool:=
 match v with
 | .d (.bool b)=>match b with
   |true=>(match want with
    |true=>on ()
    |false=>off ())
   |false=>(match want with
    |true=>off ()
    |false=>on ())
 | .und=>off ()
 |_=>xf 101
def c2o (g:Option (Nat×Bool))(ts:TS)(off on:Unit->Bool):Bool:=
 @A7 (Nat×Bool) (fun _=>TS->(Unit->Bool)->(Unit->Bool)->Bool) (fun _ _ on=>on ()) (fun g ts off on=> @Prod.rec Nat Bool (fun _=>Bool) (fun j want=>c8b ts j (xgV want off on)) g) g ts off on
def e1m (o:a1c)(ts:TS)(h:CH)(mv:List Nat)(k:TS->CH->List Nat->Bool):Bool:=
 @a1c.rec (fun _=>XS->Nat->TS->CH->List Nat->(TS->CH->List Nat->Bool)->Bool)
   (fun dst g op X base ts h mv k=>c2o g ts (fun _=>a6h dst .und ts fun ts=>k ts h mv) (fun _=>xop X base op dst ts h mv k)) o X base ts h mv k
def f2q (l:List a1c)(ts:TS)(h:CH)(mv:List Nat)(k:TS->CH->List Nat->Bool):Bool:=
 @AR a1c (fun _=>XS->Nat->TS->CH->List Nat->(TS->CH->List Nat->Bool)->Bool) (fun _ _ ts h mv k=>k ts h mv)
   (fun o _ ih X base ts h mv k=>e1m X base o ts h mv (ih X base · · · k)) l X base ts h mv k
def c6j (l:Nat)(o:IOp)(ts:TS)(k:CA->b0h->Bool):Bool:=
 match o with
 | .alloc zs=>c5z zs fun zs=>dL zs fun zs=>k (.ptr l .zero) (.var zs)
 | .box x=>a1j ts x fun v=>b6d v.cells (fun _=>k (.ptr l .zero) (.var v.cells))
 | .mkmap wide ks=>k (.map l) (.map wide ks .zero [])
 | .mkmapv wide ks=>k (.map l) (.mapv wide ks [] [])
 | .bnew sz=>k (.msl l sz AP .zero AE) (.arr sz .zero [])
 | .mkslice sz zs _ n=>c5z zs fun zs=>a1j ts n fun v=>a9z v fun n=>a0w (xle (.ofNat .zero) n.val) (a0w (xle n.val (.ofNat 1073741824)) (c3s n fun n=>d9p zs n fun rows=>
    k (.msl l sz AP n AE) (.arr sz n rows)))
 |_=>xf 102
def d8k (u v:Kl):Bool:=AC u.ctorIdx v.ctorIdx
def d0i (b0:Nat)(d:a0m)(ts:TS)(k:Unit->Bool):Bool:=
 match d.av with
 |[]=>k ()
 |_=>match d.o.op.at with
  |some x=>a1j ts x fun v=>match v with
   | .ptr l _=>a0w (a5c b0 l d.av) (k ())
   | .aptr l _ _ _=>a0w (d8k d.o.op.kl .r) (a0w (a5c b0 l d.av) (k ()))
   | .map l=>a0w (d8k d.o.op.kl .r) (a0w (a5c b0 l d.av) (k ()))
   | .dptr _ _=>a0w (d8k d.o.op.kl .r) (k ())
   |_=>xf 103
  |none=>xf 104
def f7x:IX->IX->Bool
 | .v a,.v b=>xeq a b
 | .l a,.l b=>xeq a b
 |_,_=>AE
mutual
def c4v (x y:CD):Bool:=
 match x with
 | .int kd n=>match y with
   | .int kd' m=>match kEq kd kd' with
     |true=>f7x n m
     |false=>AE
   |_=>AE
 | .bool b=>match y with
   | .bool c=>match b with
     |true=>c
     |false=>AW c
   |_=>AE
 | .str l=>match y with
   | .str m=>b6r l m
   |_=>AE
 | .nil=>match y with
   | .nil=>AB
   |_=>AE
 | .sl sz n rows=>match y with
   | .sl sz' n' rows'=>match AC sz sz' with
     |true=>(match AC n n' with
      |true=>b3x rows rows'
      |false=>AE)
     |false=>AE
   |_=>AE
 | .raw _=>AE
def c3y (xs ys:List CD):Bool:=
 match xs with
 |[]=>match ys with
  |[]=>AB
  |_=>AE
 |x::xs=>match ys with
  |[]=>AE
  |y::ys=>match c4v x y with
   |true=>c3y xs ys
   |false=>AE
def b3x (xs ys:List (List CD)):Bool:=
 match xs with
 |[]=>match ys with
  |[]=>AB
  |_=>AE
 |x::xs=>match ys with
  |[]=>AE
  |y::ys=>match c3y x y with
   |true=>b3x xs ys
   |false=>AE
end
def g1y:Option Nat->Option Nat->Bool
 |none,AP=>AB
 |some a,AM b=>AC a b
 |_,_=>AE
mutual
def a9w (x y:CA):Bool:=
 match x with
 | .d x=>match y with
   | .d y=>c4v x y
   |_=>AE
 | .agg xs=>match y with
   | .agg ys=>b6w xs ys
   |_=>AE
 | .ptr l o=>match y with
   | .ptr l' o'=>match AC l l' with
     |true=>AC o o'
     |false=>AE
   |_=>AE
 | .msl l sz s n f=>match y with
   | .msl l' sz' s' n' f'=>match AC l l' with
     |true=>(match AC sz sz' with
      |true=>(match g1y s s' with
       |true=>(match AC n n' with
        |true=>bEq f f'
        |false=>AE)
       |false=>AE)
      |false=>AE)
     |false=>AE
   |_=>AE
 | .map l=>match y with
   | .map l'=>AC l l'
   |_=>AE
 | .fn f us cs=>match y with
   | .fn f' us' cs'=>match AC f f' with
     |true=>(match b6w us us' with
      |true=>b6w cs cs'
      |false=>AE)
     |false=>AE
   |_=>AE
 | .yl l=>match y with
   | .yl l'=>AC l l'
   |_=>AE
 |_=>AE
def b6w (xs ys:List CA):Bool:=
 match xs with
 |[]=>match ys with
  |[]=>AB
  |_=>AE
 |x::xs=>match ys with
  |[]=>AE
  |y::ys=>match a9w x y with
   |true=>b6w xs ys
   |false=>AE
end
def a3f (b0:Nat)(ts:TS)(h:CH)(k:Unit->Bool)(F:List a0m):Bool:=
 match F with
 |[]=>k ()
 |r::rs=>match d8k r.o.op.kl .r with
  |true=>c2o r.o.guard ts (fun _=>a3f b0 ts h k rs) (fun _=>d0i b0 r ts (fun _=>c0a X r.o.op ts h fun v _ _=>match r.o.dst with
   |some d=>c8b ts d fun u=>a0w (a9w v u) (a3f b0 ts h k rs)
   |none=>a3f b0 ts h k rs))
  |false=>a3f b0 ts h k rs
mutual
def a9b (pg:List Nat)(v:CA):Bool:=
 match v with
 | .agg cs=>a7c pg cs
 | .tuple cs=>a7c pg cs
 | .fn _ us cs=>match a7c pg us with
   |true=>a7c pg cs
   |false=>AE
 | .ptr m _=>a3u m pg
 | .aptr m _ _ _=>a3u m pg
 | .msl m _ _ _ _=>a3u m pg
 | .vsl m _ _=>a3u m pg
 | .map m=>a3u m pg
 | .yl m=>a3u m pg
 |_=>AB
def a7c (pg:List Nat)(vs:List CA):Bool:=
 match vs with
 |[]=>AB
 |v::l=>match a9b pg v with
  |true=>a7c pg l
  |false=>AE
end
def b2a (pg:List Nat)(ts:TS)(l:List Nat)(k:Unit->Bool):Bool:=
 match l with
 |[]=>k ()
 |t::l=>c8b ts t fun v=>a0w (a9b pg v) (b2a pg ts l k)
def c3n (pg:List Nat)(ts:TS)(F:List a0m)(k:Unit->Bool):Bool:=
 match F with
 |[]=>k ()
 |r::rs=>b2a pg ts r.o.uses fun _=>b2a pg ts (e4t r.o) fun _=>c3n pg ts rs k
def xD (b0:Nat)(F:List a0m)(d:a0m)(ts:TS)(h:CH)(mv:List Nat)(k:TS->CH->List Nat->Bool):Bool:=
 match d.o.op.kl with
 | .a=>fN (AU b0 d.slot) fun s=>c6j s d.o.op ts fun v o=>h.set s o fun h=>a6h d.o.dst v ts fun ts=>k ts h mv
 | .m=>d0i b0 d ts (fun _=>c0a X d.o.op ts h fun v h pg=>match pg with
   |[]=>a6h d.o.dst v ts fun ts=>a3f X b0 ts h (fun _=>k ts h mv) (a4b d F)
   |p::pg=>match d.alone with
    |true=>a6k (p::pg) ts fun ts=>a9x base (p::pg) mv fun mv=>a6h d.o.dst v ts fun ts=>k ts h mv
    |false=>a0w (h6l b0 d.slot (p::pg)) (c3n (p::pg) ts (a4b d F) fun _=>a6k (p::pg) ts fun ts=>a9x base (p::pg) mv fun mv=>a6h d.o.dst v ts fun ts=>a3f X b0 ts h (fun _=>k ts h mv) (a4b d F)))
 | .r=>d0i b0 d ts (fun _=>c0a X d.o.op ts h fun v _ _=>a6h d.o.dst v ts fun ts=>k ts h mv)
 | .i=>c0a X d.o.op ts h fun v _ _=>a6h d.o.dst v ts fun ts=>k ts h mv
 | .p=>c0a X d.o.op ts h fun v _ _=>a6h d.o.dst v ts fun ts=>k ts h mv
def xR (b0:Nat)(F:List a0m)(ds:List a0m)(ts:TS)(h:CH)(mv:List Nat)(k:TS->CH->List Nat->Bool):Bool:=
 match ds with
 |[]=>k ts h mv
 |d::ds=>c2o d.o.guard ts (fun _=>a6h d.o.dst .und ts fun ts=>xR b0 (a8e d F) ds ts h mv k) (fun _=>xD X base b0 F d ts h mv fun ts h mv=>xR b0 (a8e d F) ds ts h mv k)
def c5l (n:Nat)(h:CH)(k:CH->Bool):Bool:=
 match n with
 | .zero=>k h
 | .succ n=>h.add (.var []) fun _ h=>c5l n h k
def b2q (ts:TS)(h:CH)(irs:List c5p)(k:List CA->Bool):Bool:=
 match irs with
 |[]=>k []
 |r::rs=>match r with
  | .t i=>c8b ts i fun v=>b2q ts h rs fun vs=>k (v::vs)
  | .c i ag=>c8b ts i fun p=>c3r h p ag fun v=>b2q ts h rs fun vs=>k (v::vs)
def b7r (vs:List CA):CA:=
 match vs with
 |[]=> .tuple []
 |v::r=>match r with
  |[]=>v
  |_=> .tuple (v::r)
def b5l (l:Nat)(ts:TS)(h:CH)(pg mv:List Nat)(k:Lv->TS->CH->List Nat->Bool):Bool:=
 match b6p l pg with
 |true=>xf 131
 |false=>h.get l fun
  | .loop s ts0 ps A a b=>match s with
    | .ready=>h.set l (.loop (.over .normal) ts0 ps A a b) fun h=>a6k pg ts fun ts=>a9x base pg mv fun mv=>k .normal ts h mv
    | .done lv=>match lv with
      | .ret=>h.set l (.loop (.over .ret) ts0 ps A a b) fun h=>a6k pg ts fun ts=>a9x base pg mv fun mv=>k .ret ts h mv
      | .exit i=>h.set l (.loop (.over (.exit i)) ts0 ps A a b) fun h=>a6k pg ts fun ts=>a9x base pg mv fun mv=>k (.exit i) ts h mv
      | .normal=>xf 105
    |_=>xf 106
  |_=>xf 107
end
def d4m (next:TS->CH->List Nat->Bool)(k:Lv->TS->CH->List Nat->Bool)(lv:Lv)(ts:TS)(h:CH)(mv:List Nat):Bool:=
 match lv with
 | .normal=>next ts h mv
 | .exit i=>k (.exit i) ts h mv
 | .ret=>k .ret ts h mv
def c0e (id:Nat)(k:Lv->TS->CH->List Nat->Bool)(lv:Lv)(ts:TS)(h:CH)(mv:List Nat):Bool:=
 match lv with
 | .normal=>k .normal ts h mv
 | .exit i=>(match AC i id with
   |true=>k .normal ts h mv
   |false=>k (.exit i) ts h mv)
 | .ret=>k .ret ts h mv
def e3s (X:XS)(base:Nat)(f:a0h)(ps:List Nat)(a b:a0c)(A:A4)(top:Bool)(k:Lv->TS->CH->List Nat->Bool)(ts:TS)(h:CH)(mv:List Nat):Bool:=
 a0w top (a1j ts f fun v=>match v with
  | .fn g first cap=>h.add (.loop .ready ts ps A a b) fun n0 h1=>d1s [.yl n0] cap fun r=>d1s first r fun vs=>a8f vs fun vs=>
     X.call g vs h1 fun pg _ h2=>b5l base n0 ts h2 pg mv k
  |_=>xf 108)
abbrev XC:=XS->Nat->A4->Bool->(Lv->TS->CH->List Nat->Bool)->TS->CH->List Nat->Bool
def b5c (X:XS)(base:Nat)(A:A4)(top:Bool)(c:a0c)(k:Lv->TS->CH->List Nat->Bool)(ts:TS)(h:CH)(mv:List Nat):Bool:=
 @a0c.rec (fun _=>XC)
   (fun _ _ _ _ k ts h mv=>k .normal ts h mv)
   (fun l X base _ _ k ts h mv=>f2q X base l ts h mv (k .normal))
   (fun n l X base _ _ k ts h mv=>h.num fun n0=>c5l n h fun h'=>xR X base n0 [] l ts h' mv (k .normal))
   (fun _ _ ia ib X base A top k ts h mv=>ia X base A top (d4m (ib X base A top k) k) ts h mv)
   (fun c _ _ ia ib X base A top k ts h mv=>a1j ts c fun v=>b9d v fun x=> @Ah (fun _=>Bool) (ib X base A top k ts h mv) (ia X base A top k ts h mv) x)
   (fun id _ ic X base A top k ts h mv=>ic X base A top (c0e id k) ts h mv)
   (fun c _ X base A top k ts h mv=>X.loop A base top c k ts h mv)
   (fun f ps a b _ _ X base A top k ts h mv=>e3s X base f ps a b A top k ts h mv)
   (fun id _ _ _ _ k ts h mv=>k (.exit id) ts h mv)
   (fun _ ic X base A top k ts h mv=>a0w top (ic X base A top k ts h mv))
   (fun _ _ _ _ _ k ts h mv=>k .normal ts h mv)
   (fun _ _ _ _ k ts h mv=>k .ret ts h mv)
   c X base A top k ts h mv
def c9o (args:List CA)(i:Nat)(ts:TS)(k:TS->Bool):Bool:=
 match args with
 |[]=>k ts
 |v::l=>d4t ts i v fun ts=>c9o l (Aj i) ts k
def d9e (n:Nat)(args:List CA)(k:TS->Bool):Bool:=c9o args .zero (mkT .und n n) k
def e6w (ps:List Nat)(args:List CA)(ts:TS)(k:TS->Bool):Bool:=
 match ps with
 |[]=>match args with
  |[]=>k ts
  |_::_=>xf 109
 |p::ps=>match args with
  |[]=>xf 110
  |v::args=>d4t ts p v fun ts=>e6w ps args ts k
def c4j (vs:List CA)(k:Unit->Bool):Bool:=
 match vs with
 |[]=>k ()
 |v::r=>match v with
  | .d (.int ..)=>c4j r k
  | .d (.bool _)=>c4j r k
  | .d (.str _)=>c4j r k
  |_=>xf 130
def e0p (own:Bool)(k:CA->Bool)(vs:List CA):Bool:=
 match own with
 |true=>c4j vs (fun _=>k (b7r vs))
 |false=>k (b7r vs)
def d2v (irs:List c5p)(own:Bool)(k:CA->Bool)(lv:Lv)(ts:TS)(h:CH)(_:List Nat):Bool:=
 match lv with
 | .exit _=>xf 124
 |_=>b2q ts h irs fun vs=>a3k h vs fun vs _=>a7k vs (fun _=>e0p own k vs)
def d5t (T:XT)(X:XS)(own:Bool)(f:Ad)(args:List CA)(k:CA->Bool):Bool:=
 T.find f fun fn=>d9e fn.n args fun ts=>b5c X .zero fn.A AB fn.ic (d2v fn.irs own k) ts ⟨.zero,.leaf⟩ []
def c1e (irs:List c5p)(k:List Nat->CA->CH->Bool)(lv:Lv)(ts:TS)(h:CH)(mv:List Nat):Bool:=
 match lv with
 | .exit _=>xf 125
 |_=>b2q ts h irs fun vs=>k mv (b7r vs) h
def d4o (T:XT)(X:XS)(f:Ad)(args:List CA)(h:CH)(k:List Nat->CA->CH->Bool):Bool:=
 T.find f fun fn=>d9e fn.n args fun ts=>h.num fun n0=>b5c X n0 fn.A AB fn.ic (c1e fn.irs k) ts h []
def b1n (l:Nat)(k:List Nat->CA->CH->Bool)(lv:Lv)(_:TS)(h:CH)(mv:List Nat):Bool:=
 match b6p l mv with
 |true=>xf 133
 |false=>h.get l fun
  | .loop .busy ts0 ps0 A0 a0 b0=>match lv with
    | .normal=>h.set l (.loop .ready ts0 ps0 A0 a0 b0) fun h=>k mv (.d (.bool AB)) h
    | .ret=>h.set l (.loop (.done .ret) ts0 ps0 A0 a0 b0) fun h=>k mv (.d (.bool AE)) h
    | .exit i=>h.set l (.loop (.done (.exit i)) ts0 ps0 A0 a0 b0) fun h=>k mv (.d (.bool AE)) h
  |_=>xf 126
def a8p (X:XS)(base:Nat)(l:Nat)(A:A4)(b:a0c)(k:List Nat->CA->CH->Bool)(lv:Lv)(ts:TS)(h:CH)(mv:List Nat):Bool:=
 match lv with
 | .normal=>(match b6p l mv with
   |true=>xf 132
   |false=>h.get l fun
    | .loop .ready ts0 ps0 A0 a0 b0=>h.set l (.loop .busy ts0 ps0 A0 a0 b0) fun h=>b5c X base A AE b (b1n l k) ts h mv
    |_=>xf 127)
 |_=>xf 128
def g1p (X:XS)(l:Nat)(args:List CA)(h:CH)(k:List Nat->CA->CH->Bool):Bool:=
 h.get l fun
  | .loop .ready ts ps A a b=>e6w ps args ts fun ts=>h.num fun n0=>b5c X n0 A AE a (a8p X n0 l A b k) ts h []
  |_=>xf 129
def d5z (X:XS)(A:A4)(base:Nat)(top:Bool)(c:a0c)(k:Lv->TS->CH->List Nat->Bool)(lv:Lv)(ts:TS)(h:CH)(mv:List Nat):Bool:=
 match lv with
 | .normal=>X.loop A base top c k ts h mv
 | .exit i=>k (.exit i) ts h mv
 | .ret=>k .ret ts h mv
def e8j (X:XS)(A:A4)(base:Nat)(top:Bool)(c:a0c)(k:Lv->TS->CH->List Nat->Bool)(ts:TS)(h:CH)(mv:List Nat):Bool:=
 b5c X base A top c (d5z X A base top c k) ts h mv
def XSs (T:XT)(X:XS):XS:=⟨d5t T X,d4o T X,g1p X,e8j X⟩
def XS0:XS:=⟨fun _ _ _ _=>xf 120,fun _ _ _ _=>xf 121,fun _ _ _ _=>xf 122,fun _ _ _ _ _ _ _ _=>xf 123⟩
def XSn (T:XT)(n:Nat):XS:= @AN (fun _=>XS) XS0 (fun _ X=>XSs T X) n
end
mutual
def CD.to:CD->DV
 | .int k n=> .int k n
 | .bool b=> .bool b
 | .str l=> .str l
 | .nil=> .nil
 | .sl sz n rows=> .sl sz n (rowAt (CD.toR rows))
 | .raw v=> .raw v
def CD.toL:List CD->List DV
 |[]=>[]
 |x::l=>x.to::CD.toL l
def CD.toR:List (List CD)->List (List DV)
 |[]=>[]
 |r::rs=>CD.toL r::CD.toR rs
end
theorem CD.toL_eq (l:List CD):CD.toL l=l.map CD.to:=by
 induction l with
 |nil=>rfl
 |cons x l ih=>simp[CD.toL,ih]
theorem CD.toR_eq (l:List (List CD)):CD.toR l=l.map CD.toL:=by
 induction l with
 |nil=>rfl
 |cons x l ih=>simp[CD.toR,ih]
mutual
def CA.to:CA->AV
 | .d x=> .d x.to
 | .any=> .any
 | .und=> .und
 | .agg cs=> .agg (CA.toL cs)
 | .tuple cs=> .tuple (CA.toL cs)
 | .ptr l o=> .ptr l o
 | .aptr l sz i o=> .aptr l sz i o
 | .dptr row o=> .dptr (CD.toL row) o
 | .dfs sz n rows=> .dfs sz n (rowAt (CD.toR rows))
 | .msl l sz s n f=> .msl l sz s n f
 | .vsl l o n=> .vsl l o n
 | .map l=> .map l
 | .fn f us cs=> .fn f (CA.toL us) (CA.toL cs)
 | .ge m=> .ge m
 | .yl l=> .yl l
def CA.toL:List CA->List AV
 |[]=>[]
 |x::l=>x.to::CA.toL l
end
theorem CA.toL_eq (l:List CA):CA.toL l=l.map CA.to:=by
 induction l with
 |nil=>rfl
 |cons x l ih=>simp[CA.toL,ih]
def b6n:List (List KC×Int)->List KC->Option Int
 |[],_=>AP
 |e::es,k=>if k=e.1 then AM e.2 else b6n es k
def BT.get? {α:Type}:BT α->Nat->Option α
 | .leaf,_=>AP
 | .node v _ _,0=>AM v
 | .node _ l r,j+1=>if j % 2=0 then l.get? (j/2) else r.get? (j/2)
def RT (t:TS)(ts:List AV):Prop:= ∀i v,t.get? i=AM v->ts[i]? =AM v.to
section
variable (P:Ao)
def b0h.R (o:b0h)(ao:a0f):Prop:=
 match o with
 | .var cs=>ao= .var (CA.toL cs)
 | .arr sz n rows=>ao= .arr sz n (rowAt (CD.toR rows))
 | .frz sz n rows=>ao= .frz sz n (rowAt (CD.toR rows))
 | .map wide ks n es=>ao= .map wide ks n (b6n es)
 | .mapv wide ks keys vals=>ao= .mapv wide ks keys (CA.toL vals)
 | .gone=>ao= .gone
 | .loop s ts ps A a b=> ∃tsl,RT ts tsl/\ao= .loop s tsl ps (fun ca cb=>comp P A ca=AM a/\comp P A cb=AM b)
structure RH (h:CH)(hl:List a0f):Prop where
 len:h.n=hl.length
 get: ∀i o,h.t.get? i=AM o-> ∃ao,hl[i]? =AM ao/\o.R P ao
end
section
variable {α β:Type}
theorem c9d {t:BT α}: ∀{i:Nat} {k:α->Bool},c8b t i k=AB-> ∃x,t.get? i=AM x/\k x=AB:=by
 induction t with
 |leaf=>intro i k h;exact absurd h AA
 |node v l r il ir=>
  intro i k h;cases i with
  |zero=>exact⟨v,rfl,h⟩
  |succ j=>
   have h': @AN (fun _=>Bool) (c8b l (AT j 2) k) (fun _ _=>c8b r (AT j 2) k) (Ae j 2)=AB:=h;have e1:Ae j 2=j % 2:=rfl;rw[e1] at h';simp only[BT.get?];cases e:j % 2 with
   |zero=>rw[e] at h';rw[if_pos rfl];exact il h'
   |succ m=>rw[e] at h';rw[if_neg (by omega)];exact ir h'
theorem b9h {t:BT α}{y:α}: ∀{i:Nat} {k:BT α->Bool},d4t t i y k=AB-> ∃t',(∃x,t.get? i=AM x)/\(∀j,t'.get? j=if j=i then AM y else t.get? j)/\k t'=AB:=by
 induction t with
 |leaf=>intro i k h;exact absurd h AA
 |node v l r il ir=>
  intro i k h;cases i with
  |zero=>exact⟨.node y l r,⟨v,rfl⟩,fun j=>by cases j<;>simp[BT.get?],h⟩
  |succ j=>
   have h': @AN (fun _=>Bool) (d4t l (AT j 2) y fun l'=>k (.node v l' r)) (fun _ _=>d4t r (AT j 2) y fun r'=>k (.node v l r')) (Ae j 2)=AB:=h;have e1:Ae j 2=j % 2:=rfl;have e2:AT j 2=j/2:=rfl;rw[e1] at h';simp only[BT.get?];cases e:j % 2 with
   |zero=>
    rw[e] at h';rw[if_pos rfl];obtain⟨l',h1,h2,h3⟩:=il h';refine⟨_,h1,fun j'=> ?_,h3⟩;cases j' with
    |zero=>simp[BT.get?]
    |succ j'=>
     simp only[BT.get?,h2,e2];by_cases c:j' % 2=0
     ·rw[if_pos c,if_pos c];by_cases d:j'=j
      ·subst d;simp
      ·rw[if_neg (by omega),if_neg (by omega)]
     ·rw[if_neg c,if_neg c,if_neg (fun d=>c (by have:j'=j:=by omega
                                                rw[this];exact e))]
   |succ m=>
    rw[e] at h';rw[if_neg (by omega)];obtain⟨r',h1,h2,h3⟩:=ir h';refine⟨_,h1,fun j'=> ?_,h3⟩;cases j' with
    |zero=>simp[BT.get?]
    |succ j'=>
     simp only[BT.get?,h2,e2];by_cases c:j' % 2=0
     ·rw[if_pos c,if_pos c,if_neg (by omega)]
     ·rw[if_neg c,if_neg c];by_cases d:j'=j
      ·subst d;simp
      ·rw[if_neg (by omega),if_neg (by omega)]
theorem d3k {t:BT α}{y:α}: ∀{i:Nat} {k:BT α->Bool},d1i t i y k=AB-> ∃t',(∀j,t'.get? j=if j=i then AM y else t.get? j)/\k t'=AB:=by
 induction t with
 |leaf=>
  intro i k h;cases i with
  |zero=>exact⟨_,fun j=>by cases j<;>simp[BT.get?],h⟩
  |succ i=>exact absurd h AA
 |node v l r il ir=>
  intro i k h;cases i with
  |zero=>exact absurd h AA
  |succ j=>
   have h': @AN (fun _=>Bool) (d1i l (AT j 2) y fun l'=>k (.node v l' r)) (fun _ _=>d1i r (AT j 2) y fun r'=>k (.node v l r')) (Ae j 2)=AB:=h;have e1:Ae j 2=j % 2:=rfl;have e2:AT j 2=j/2:=rfl;rw[e1] at h';cases e:j % 2 with
   |zero=>
    rw[e] at h';obtain⟨l',h2,h3⟩:=il h';refine⟨_,fun j'=> ?_,h3⟩;cases j' with
    |zero=>simp[BT.get?]
    |succ j'=>
     simp only[BT.get?,h2,e2];by_cases c:j' % 2=0
     ·rw[if_pos c,if_pos c];by_cases d:j'=j
      ·subst d;simp
      ·rw[if_neg (by omega),if_neg (by omega)]
     ·rw[if_neg c,if_neg c,if_neg (by omega)]
   |succ m=>
    rw[e] at h';obtain⟨r',h2,h3⟩:=ir h';refine⟨_,fun j'=> ?_,h3⟩;cases j' with
    |zero=>simp[BT.get?]
    |succ j'=>
     simp only[BT.get?,h2,e2];by_cases c:j' % 2=0
     ·rw[if_pos c,if_pos c,if_neg (by omega)]
     ·rw[if_neg c,if_neg c];by_cases d:j'=j
      ·subst d;simp
      ·rw[if_neg (by omega),if_neg (by omega)]
theorem d7r {x:α}: ∀{d n i:Nat} {v:α},(mkT x d n).get? i=AM v->i<n/\v=x:=by
 intro d
 induction d with
 |zero=>intro n i v h;simp[mkT,BT.get?] at h
 |succ d ih=>
  intro n i v h;cases n with
  |zero=>simp[mkT,BT.get?] at h
  |succ j=>
   have e:mkT x (d+1) (j+1)= .node x (mkT x d ((j+1)/2)) (mkT x d (j/2)):=rfl;rw[e] at h;cases i with
   |zero=>simp[BT.get?] at h;exact⟨by omega,h.symm⟩
   |succ i=>
    simp only[BT.get?] at h;split at h
    ·obtain⟨h1,h2⟩:=ih h;exact⟨by omega,h2⟩
    ·obtain⟨h1,h2⟩:=ih h;exact⟨by omega,h2⟩
theorem a5k {l:List α}: ∀{i:Nat} {k:α->Bool},d2f k l i=AB-> ∃x,l[i]? =AM x/\k x=AB:=by
 induction l with
 |nil=>intro i k h;exact absurd h AA
 |cons x l ih=>
  intro i k h;cases i with
  |zero=>exact⟨x,rfl,h⟩
  |succ i=>obtain⟨y,h1,h2⟩:=ih h;exact⟨y,by simpa using h1,h2⟩
theorem c0d {l:List α}{y:α}: ∀{i:Nat} {k:List α->Bool},e6b l i y k=AB->i<l.length/\k (l.set i y)=AB:=by
 induction l with
 |nil=>intro i k h;exact absurd h AA
 |cons x l ih=>
  intro i k h;cases i with
  |zero=>exact⟨by simp,h⟩
  |succ i=>obtain⟨h1,h2⟩:=ih h;exact⟨by simpa using h1,by simpa using h2⟩
theorem b4l (f:α->β){l:List α}: ∀{i n:Nat} {k:List α->Bool},e1y l i n k=AB-> ∃c,b0o (l.map f) i n=AM (c.map f)/\k c=AB:=by
 induction l with
 |nil=>
  intro i n k h;cases i with
  |zero=>
   cases n with
   |zero=>exact⟨[],rfl,h⟩
   |succ n=>exact absurd h AA
  |succ i=>exact absurd h AA
 |cons x l ih=>
  intro i n k h;cases i with
  |zero=>
   cases n with
   |zero=>exact⟨[],rfl,h⟩
   |succ n=>obtain⟨c,h1,h2⟩:=ih (i:=0) (n:=n) h;exact⟨x::c,by simp[b0o,h1],h2⟩
  |succ i=>obtain⟨c,h1,h2⟩:=ih (i:=i) (n:=n) h;exact⟨c,by simpa [b0o] using h1,h2⟩
theorem b5j (f:α->β){l:List α}: ∀{i:Nat} {new:List α} {k:List α->Bool},e0w l i new k=AB-> ∃c,b7y (l.map f) i (new.map f)=AM (c.map f)/\k c=AB:=by
 induction l with
 |nil=>
  intro i new k h;cases i with
  |zero=>
   cases new with
   |nil=>exact⟨[],rfl,h⟩
   |cons y new=>exact absurd h AA
  |succ i=>exact absurd h AA
 |cons x l ih=>
  intro i new k h;cases i with
  |zero=>
   cases new with
   |nil=>exact⟨x::l,rfl,h⟩
   |cons y new=>obtain⟨c,h1,h2⟩:=ih (i:=0) (new:=new) h;exact⟨y::c,by simp[b7y,h1],h2⟩
  |succ i=>obtain⟨c,h1,h2⟩:=ih (i:=i) (new:=new) h;exact⟨x::c,by cases new<;>simp only[Ag,Aq,b7y] at h1⊢ <;>rw[h1],h2⟩
theorem a5i {l m:List α}: ∀{k:List α->Bool},d1s l m k=AB->k (l++m)=AB:=by
 induction l with
 |nil=>intro k h;exact h
 |cons x l ih=>intro k h;exact ih (k:=fun r=>k (x::r)) h
theorem a8k {l:List α}: ∀{n:Nat} {k:Nat->Bool},d7i l n k=AB->k (n+l.length)=AB:=by
 induction l with
 |nil=>intro n k h;exact h
 |cons x l ih=>intro n k h;have:=ih (n:=n+1) h;simpa [Nat.add_assoc,Nat.add_comm 1] using this
theorem a7f {l:List α}: ∀{n:Nat} {m:List α} {k:List α->Bool},b0e l n m k=AB->n<=l.length/\k (l.take n++m)=AB:=by
 induction l with
 |nil=>
  intro n m k h;cases n with
  |zero=>exact⟨by simp,h⟩
  |succ n=>exact absurd h AA
 |cons x l ih=>
  intro n m k h;cases n with
  |zero=>exact⟨by simp,h⟩
  |succ n=>obtain⟨h1,h2⟩:=ih (n:=n) h;exact⟨by simpa using h1,by simpa using h2⟩
theorem c2z {n:Nat}: ∀{l:List α} {k:List α->Bool},c0s l n k=AB->k (l.drop n)=AB:=by
 induction n with
 |zero=>intro l k h;simpa [c0s] using h
 |succ n ih=>
  intro l k h;cases l with
  |nil=>simpa [c0s] using h
  |cons x l=>simp only[c0s] at h;simpa using ih h
theorem b1q {x:α}{n:Nat}: ∀{k:List α->Bool},d9p x n k=AB->k (AY n x)=AB:=by
 induction n with
 |zero=>intro k h;exact h
 |succ n ih=>intro k h;exact ih (k:=fun r=>k (x::r)) h
theorem b9z {l:List α}: ∀{i m:Nat} {new:List α} {k:List α->Bool},c5x l i m new k=AB->i+m<=l.length/\m<=new.length/\k (l.take i++new.take m++l.drop (i+m))=AB:=by
 induction l with
 |nil=>
  intro i m new k h;cases i with
  |zero=>
   cases m with
   |zero=>simp[c5x] at h;simpa using h
   |succ m=>simp[c5x,xf] at h
  |succ i=>simp[c5x,xf] at h
 |cons x l ih=>
  intro i m new k h;cases i with
  |zero=>
   cases m with
   |zero=>simp only[c5x] at h;simpa using h
   |succ m=>
    cases new with
    |nil=>simp[c5x,xf] at h
    |cons y new=>simp only[c5x] at h;obtain⟨h1,h2,h3⟩:=ih h;refine⟨by simp at h1⊢;omega,by simp at h2⊢;omega,?_⟩;simpa using h3
  |succ i=>
   simp only[c5x] at h;obtain⟨h1,h2,h3⟩:=ih h;refine⟨by simp at h1⊢;omega,h2,?_⟩;have e:i+1+m=(i+m)+1:=by omega
   rw[e];simpa using h3
end
theorem a3j (n:Nat)(k:Nat->Bool):fN n k=k n:=by cases n<;>rfl
theorem b5a (n:Int)(k:Int->Bool):fI n k=k n:=by cases n<;>simp[fI,a3j]
theorem c4k (b:Bool)(k:Bool->Bool):fB b k=k b:=by cases b<;>rfl
theorem a0e {c k:Bool}(h:a0w c k=AB):c=AB/\k=AB:=by
 cases c with
 |false=>exact absurd h AA
 |true=>exact⟨rfl,h⟩
theorem b2c (a b:Int):xlt a b=decide (a<b):=by
 have hb: ∀m n:Nat,AO m n=decide (m<n):=fun m n=>by rw[A3,decide_eq_true_eq];exact Iff.of_eq BD
 cases a with
 |ofNat a=>
  cases b with
  |ofNat b=>simp only[xlt,hb];exact decide_eq_decide.2 (by simp only[AI];omega)
  |negSucc b=>simp only[xlt];exact (decide_eq_false (by simp only[AI];omega)).symm
 |negSucc a=>
  cases b with
  |ofNat b=>simp only[xlt];exact (decide_eq_true (by simp only[AI];omega)).symm
  |negSucc b=>simp only[xlt,hb];exact decide_eq_decide.2 (by omega)
theorem c6m (a b:Int):xle a b=decide (a<=b):=by
 rw[xle,b2c];by_cases h:b<a
 ·rw[decide_eq_true h,decide_eq_false (by omega)];rfl
 ·rw[decide_eq_false h,decide_eq_true (by omega)];rfl
theorem a6m (a b:Int):xeq a b=decide (a=b):=by
 have hb: ∀m n:Nat,AC m n=decide (m=n):=fun m n=>by rw[A3,decide_eq_true_eq];exact Iff.of_eq Nat.beq_eq
 cases a with
 |ofNat a=>
  cases b with
  |ofNat b=>simp only[xeq,hb];exact decide_eq_decide.2 (by simp only[AI];omega)
  |negSucc b=>simp only[xeq];exact (decide_eq_false (by simp only[AI];omega)).symm
 |negSucc a=>
  cases b with
  |ofNat b=>simp only[xeq];exact (decide_eq_false (by simp only[AI];omega)).symm
  |negSucc b=>simp only[xeq,hb];exact decide_eq_decide.2 (by omega)
theorem a3y {a b:AG}(h:kEq a b=AB):a=b:=by
 cases a<;>cases b<;>first|rfl|(exact absurd h (by decide))
def Sd (P:Ao)(S:Sig):Prop:= ∃A ro E,S=Af P A ro E
theorem c6c {x:DV}{k:CD->Bool}(h:cdK x k=AB): ∃c,x=c.to/\k c=AB:=by
 cases x<;>simp only[cdK] at h
 ·exact⟨_,rfl,h⟩
 ·exact⟨_,rfl,h⟩
 ·exact⟨_,rfl,h⟩
 ·exact⟨_,rfl,h⟩
 ·exact absurd h AA
 ·exact⟨_,rfl,h⟩
theorem a5s {l:List DV}: ∀{k:List CD->Bool},c5z l k=AB-> ∃cs,l=CD.toL cs/\k cs=AB:=by
 induction l with
 |nil=>intro k h;simp only[c5z] at h;exact⟨[],rfl,h⟩
 |cons x l ih=>intro k h;simp only[c5z] at h;obtain⟨c,h1,h2⟩:=c6c h;obtain⟨cs,h3,h4⟩:=ih h2;exact⟨c::cs,by rw[h1,h3];rfl,h4⟩
theorem d6h {l:List AV}: ∀{k:List CA->Bool},e1i l k=AB-> ∃cs,l=CA.toL cs/\k cs=AB:=by
 induction l with
 |nil=>intro k h;simp only[e1i] at h;exact⟨[],rfl,h⟩
 |cons x l ih=>
  intro k h;simp only[e1i] at h;cases x with
  |d x=>simp only at h;obtain⟨c,h1,h2⟩:=c6c h;obtain⟨cs,h3,h4⟩:=ih h2;exact⟨.d c::cs,by rw[h1,h3];rfl,h4⟩
  |_=>exact absurd h AA
theorem d0c {x:AV}{k:CA->Bool}(h:caK x k=AB): ∃c,x=c.to/\k c=AB:=by
 unfold caK at h;split at h
 ·obtain⟨c,h1,h2⟩:=c6c h;exact⟨.d c,by rw[h1];rfl,h2⟩
 ·obtain⟨c,h1,h2⟩:=d6h h;exact⟨.agg c,by rw[h1];rfl,h2⟩
 ·exact⟨.fn _ [] [],rfl,h⟩
 ·exact absurd h AA
section
variable {P:Ao} {t:TS} {ts:List AV} {h:CH} {hl:List a0f}
theorem RT.get (r:RT t ts){i:Nat}{k:CA->Bool}(h:c8b t i k=AB): ∃v,a1a ts i=AM v.to/\k v=AB:=by obtain⟨v,h1,h2⟩:=c9d h;exact⟨v,by rw[a0i];exact r i v h1,h2⟩
theorem RT.set (r:RT t ts){i:Nat}{y:CA}{k:TS->Bool}(h:d4t t i y k=AB): ∃t',RT t' (a2x ts i y.to)/\k t'=AB:=by
 obtain⟨t',⟨x,h1⟩,h2,h3⟩:=b9h h;refine⟨t',fun j v hj=> ?_,h3⟩;have hlt:=(AH.1 (r i x h1)).1;rw[h2] at hj;rw[a0l];split at hj
 ·rename_i e;subst e;cases hj;simp[hlt]
 ·rename_i e;rw[Aa (Ai e)];exact r j v hj
theorem a0d (r:RT t ts){o:a0h}{k:CA->Bool}(h:a1j t o k=AB): ∃v,BG ts o=v.to/\k v=AB:=by
 cases o with
 |t i=>obtain⟨v,h1,h2⟩:=r.get (i:=i) h;exact⟨v,by simp only[BG,h1],h2⟩
 |c v=>obtain⟨c,h1,h2⟩:=d0c (x:=v) h;exact⟨c,h1,h2⟩
theorem b0d (r:RT t ts){l:List a0h}: ∀{k:List CA->Bool},c4f t l k=AB-> ∃vs,b2j ts l=CA.toL vs/\k vs=AB:=by
 induction l with
 |nil=>intro k h;exact⟨[],rfl,h⟩
 |cons x l ih=>intro k h;obtain⟨v,h1,h⟩:=a0d r (o:=x) (k:=fun x=>c4f t l fun l=>k (x::l)) h;obtain⟨vs,h2,h⟩:=ih h;exact⟨v::vs,by simp only[b2j,CA.toL,h1,h2],h⟩
theorem RH.gets (r:RH P h hl){l:Nat}{k:b0h->Bool}(hk:h.get l k=AB): ∃o ao,a1a hl l=AM ao/\o.R P ao/\k o=AB:=by obtain⟨n,t⟩:=h;obtain⟨o,h1,h2⟩:=c9d (t:=t) hk;obtain⟨ao,h3,h4⟩:=r.get l o h1;exact⟨o,ao,by rw[a0i];exact h3,h4,h2⟩
theorem RH.sets (r:RH P h hl){l:Nat}{o:b0h}{k:CH->Bool}(hk:h.set l o k=AB): ∃h',k h'=AB/\ ∀ao,o.R P ao->RH P h' (a2x hl l ao):=by
 obtain⟨n,t⟩:=h;obtain⟨t',⟨x,h1⟩,h2,h3⟩:=b9h (t:=t) hk;obtain⟨ao0,h4,_⟩:=r.get l x h1;have hlt:=(AH.1 h4).1;refine⟨⟨n,t'⟩,h3,fun ao hao=>⟨by rw[a0l,List.length_set];exact r.len,fun j o' hj=> ?_⟩⟩;rw[h2] at hj;rw[a0l];split at hj
 ·rename_i e;subst e;cases hj;exact⟨ao,by simp[hlt],hao⟩
 ·rename_i e;rw[Aa (Ai e)];exact r.get j o' hj
theorem RH.adds (r:RH P h hl){o:b0h}{k:Nat->CH->Bool}(hk:h.add o k=AB): ∃h',k (a3q hl) h'=AB/\ ∀ao,o.R P ao->RH P h' (a2u hl [ao]):=by
 obtain⟨n,t⟩:=h;have hn:n=hl.length:=r.len;obtain⟨t',h2,h3⟩:=d3k (t:=t) (k:=fun t=>fN (Aj n) fun m=>k n ⟨m,t⟩) hk;rw[a3j] at h3;refine⟨_,by rw[a0u,<-hn];exact h3,fun ao hao=>⟨by rw[a0r];simp[hn],fun j o' hj=> ?_⟩⟩;simp only[h2] at hj;rw[a0r];split at hj
 ·rename_i e;subst e;cases hj;exact⟨ao,by simp[hn],hao⟩
 ·obtain⟨ao',h4,h5⟩:=r.get j o' hj;exact⟨ao',by rw[AJ (AH.1 h4).1];exact h4,h5⟩
theorem RH.nums (r:RH P h hl){k:Nat->Bool}(hk:h.num k=AB):k (a3q hl)=AB:=by obtain⟨n,t⟩:=h;have hn:n=hl.length:=r.len;rw[a0u,<-hn];exact hk
theorem CA.cells_to (v:CA):v.to.cells=CA.toL v.cells:=by cases v<;>rfl
theorem CA.one_to (v:CA):v.to.one=v.one:=by cases v<;>rfl
theorem a5x {vs:List CA}{k:Unit->Bool}(h:b6d vs k=AB):b5z (CA.toL vs)=AB/\k ()=AB:=by
 induction vs with
 |nil=>exact⟨rfl,h⟩
 |cons v l ih=>
  have h': @Ah (fun _=>Bool) (xf 12) (b6d l k) v.one=AB:=h;cases e:v.one with
  |false=>rw[e] at h';exact absurd h' AA
  |true=>rw[e] at h';simp only[CA.toL,b5z,CA.one_to,e];exact ih h'
theorem CA.toL_len (l:List CA):(CA.toL l).length=l.length:=by rw[CA.toL_eq];simp
theorem b1o {l:List CA}: ∀{k:List CD->Bool},d6i l k=AB-> ∃ds,dvs (CA.toL l)=AM (CD.toL ds)/\k ds=AB:=by
 induction l with
 |nil=>intro k h;exact⟨[],rfl,h⟩
 |cons x l ih=>
  intro k h;have h':onD x (fun x=>d6i l fun l=>k (x::l))=AB:=h;cases x with
  |d x=>obtain⟨ds,h1,h2⟩:=ih (k:=fun l=>k (x::l)) h';exact⟨x::ds,by simp only[CA.toL,CA.to,dvs,h1,CD.toL],h2⟩
  |fn f us cs=>
   cases us with
   |cons _ _=>exact absurd h' AA
   |nil=>
    cases cs with
    |cons _ _=>exact absurd h' AA
    |nil=>obtain⟨ds,h1,h2⟩:=ih (k:=fun l=>k (.raw (.func (.func f) #[] #[])::l)) h';exact⟨.raw (.func (.func f) #[] #[])::ds,by simp only[CA.toL,CA.to,dvs,h1,CD.toL,CD.to],h2⟩
  |_=>exact absurd h' AA
theorem c4e {l:List CD}: ∀{k:List CA->Bool},dL l k=AB-> ∃cs,b3y .d (CD.toL l)=CA.toL cs/\k cs=AB:=by
 induction l with
 |nil=>intro k h;exact⟨[],rfl,h⟩
 |cons x l ih=>intro k h;obtain⟨cs,h1,h2⟩:=ih (k:=fun l=>k (.d x::l)) h;exact⟨.d x::cs,by simp only[CD.toL,b3y,CA.toL,CA.to,h1],h2⟩
theorem d4d {l:List CD}: ∀{k:List (List CD)->Bool},d3q l k=AB-> ∃rs,b3y (fun x=>[x]) (CD.toL l)=CD.toR rs/\k rs=AB:=by
 induction l with
 |nil=>intro k h;exact⟨[],rfl,h⟩
 |cons x l ih=>intro k h;simp only[d3q] at h;obtain⟨cs,h1,h2⟩:=ih h;exact⟨[x]::cs,by simp only[CD.toL,b3y,CD.toR,h1],h2⟩
theorem b3q (rows:List (List DV))(s:Nat):rowAt (rows.drop s)=fun j=>rowAt rows (s+j):=by funext j;rw[a1k,a1k,Av]
theorem c9i (e e2:List (List DV))(n:Nat)(hn:n<=e.length):rowAt (e.take n++e2)=fun j=>if j<n then rowAt e j else rowAt e2 (j-n):=by
 funext j;have hl:(e.take n).length=n:=by simp[hn]
 by_cases c:j<n
 ·rw[if_pos c,a1k,a1k,AJ (by omega),AQ c]
 ·rw[if_neg c,a1k,a1k,AK (by omega),hl]
theorem c8z (e new:List (List DV))(i m:Nat)(h1:i+m<=e.length)(h2:m<=new.length):
 rowAt (e.take i++new.take m++e.drop (i+m))=fun j=>if i<=j/\j<i+m then rowAt new (j-i) else rowAt e j:=by
 funext j;have hl1:(e.take i).length=i:=by simp;omega
 have hl2:(new.take m).length=m:=by simp[h2]
 rw[a1k,a1k,a1k];by_cases c1:j<i
 ·rw[if_neg (by omega),Ac,AJ (by omega),AQ c1]
 ·by_cases c2:j<i+m
  ·rw[if_pos ⟨by omega,c2⟩,Ac,AK (by omega),hl1,AJ (by omega),AQ (by omega)]
  ·rw[if_neg (by omega),AK (by simp;omega),Av];congr 2;simp;omega
theorem d0k (x:List DV)(n:Nat):rowAt (AY n x)=fun i=>if i<n then x else []:=by funext j;rw[a1k,List.getElem?_replicate];split<;>rfl
theorem c6p (e:List (List DV))(i:Nat)(r:List DV)(h:i<e.length):rowAt (e.set i r)=fun j=>if j=i then r else rowAt e j:=by
 funext j;rw[a1k,a1k];by_cases c:j=i
 ·subst c;simp[h]
 ·rw[if_neg c,Aa (Ai c)]
theorem a6x {A:A4}{ro:Option Nat}{E:BE}{s:Option Nat}{n:Nat}{k:Nat->Bool}(h:d3i s n k=AB):k (c8f (Af P A ro E) s n)=AB:=by
 cases s with
 |none=>exact h
 |some s=>simp only[d3i,a3j] at h;exact h
theorem c2i {A:A4}{ro:Option Nat}{E:BE}{rows:List (List CD)}{s:Option Nat}{k:List (List CD)->Bool}(h:d7x rows s k=AB):
 ∃rs,k rs=AB/\rowAt (CD.toR rs)=b8h (Af P A ro E) (rowAt (CD.toR rows)) s:=by
 cases s with
 |none=>exact⟨rows,h,rfl⟩
 |some s=>have h1:=c2z (n:=s) h;refine⟨_,h1,?_⟩;rw[CD.toR_eq,Al,b3q,<-CD.toR_eq];rfl
theorem b0k (r:RH P h hl){v:CA}{k:Nat->Nat->List (List CD)->Bool}(hk:c4l h v k=AB):
 ∃sz n rows,k sz n rows=AB/\ ∀S,Sd P S-> ∀K:Nat->Nat->(Nat->List DV)->Prop,K sz n (rowAt (CD.toR rows))->b3s S hl v.to K:=by
 unfold c4l at hk;split at hk
 ·exact⟨_,_,_,hk,fun S _ K hK=>hK⟩
 ·exact⟨_,_,_,hk,fun S _ K hK=>hK⟩
 ·rename_i l sz s n f;obtain⟨o,ao,h1,h2,hk⟩:=r.gets hk;cases o with
  |arr sz' m e=>cases h2;obtain⟨hb,hk⟩:=a0e hk;have hk:=a6x (P:=P) (A:={}) (ro:=AP) (E:=⟨default,fun _=>False,a2j,0,[]⟩) hk;obtain⟨hc,hk⟩:=a0e hk;obtain⟨rs,hk,he⟩:=c2i (P:=P) (A:={}) (ro:=AP) (E:=⟨default,fun _=>False,a2j,0,[]⟩) hk;refine⟨_,_,_,hk,?_⟩;rintro S ⟨A,ro,E,rfl⟩ K hK;simp only[CA.to,b3s,h1,hb,if_true];exact And.intro (AF hc) (by rw[he] at hK;exact hK)
  |frz sz' m e=>cases h2;obtain⟨hb,hk⟩:=a0e hk;have hk:=a6x (P:=P) (A:={}) (ro:=AP) (E:=⟨default,fun _=>False,a2j,0,[]⟩) hk;obtain⟨hc,hk⟩:=a0e hk;obtain⟨rs,hk,he⟩:=c2i (P:=P) (A:={}) (ro:=AP) (E:=⟨default,fun _=>False,a2j,0,[]⟩) hk;refine⟨_,_,_,hk,?_⟩;rintro S ⟨A,ro,E,rfl⟩ K hK;simp only[CA.to,b3s,h1,hb,if_true];exact And.intro (AF hc) (by rw[he] at hK;exact hK)
  |_=>exact absurd hk AA
 ·exact absurd hk AA
end
section
variable {P:Ao} {t:TS} {ts:List AV} {h:CH} {hl:List a0f}
theorem c3c (r:RH P h hl){v:CA}{k:CA->Bool}(hk:d1c h v k=AB): ∃v',k v'=AB/\ ∀S,Sd P S-> ∀K:AV->Prop,K v'.to->c7s S hl v.to K:=by
 unfold d1c at hk;split at hk
 ·rename_i l off n;obtain⟨o,ao,h1,h2,hk⟩:=r.gets hk;cases o with
  |var cs=>cases h2;obtain⟨c,h3,hk⟩:=b4l CA.to hk;obtain⟨ds,h4,hk⟩:=b1o hk;obtain⟨rs,h5,hk⟩:=d4d hk;refine⟨_,hk,fun S _ K hK=> ?_⟩;simp only[CA.to,c7s,h1];rw[CA.toL_eq,h3,<-CA.toL_eq];simp only[h4,h5];exact hK
  |_=>exact absurd hk AA
 ·obtain⟨sz,n,rows,hk,hv⟩:=b0k r hk;exact⟨_,hk,fun S hS K hK=>hv S hS (fun sz n e=>K (.d (.sl sz n e))) hK⟩
 ·exact⟨_,hk,fun S _ K hK=>hK⟩
 ·rename_i h1 h2 h3;refine⟨_,hk,fun S _ K hK=> ?_⟩;cases v<;>first|exact hK|exact absurd rfl (h1 _ _ _)|exact absurd rfl (h2 _ _ _ _ _)|exact absurd rfl (h3 _ _ _)
theorem c6e (r:RH P h hl){vs:List CA}: ∀{k:List CA->Bool},b7o h vs k=AB-> ∃vs',k vs'=AB/\ ∀S,Sd P S-> ∀K:List AV->Prop,K (CA.toL vs')->c5a S hl (CA.toL vs) K:=by
 induction vs with
 |nil=>intro k hk;simp only[b7o] at hk;exact⟨[],hk,fun S _ K hK=>hK⟩
 |cons v vs ih=>intro k hk;simp only[b7o] at hk;obtain⟨v',hk,h1⟩:=c3c r hk;obtain⟨vs',hk,h2⟩:=ih hk;exact⟨v'::vs',hk,fun S hS K hK=>h1 S hS _ (h2 S hS _ hK)⟩
theorem c3x {S:Sig}{v:AV}{vs:List AV}{K:List AV->Prop}(hv: ∀cs,v≠ .agg cs)(h:c7s S hl v fun v'=>b0n S hl vs fun r'=>K (v'::r')):b0n S hl (v::vs) K:=by
 cases v<;>first|exact h|exact absurd rfl (hv _)
theorem d0b (r:RH P h hl){vs:List CA}: ∀{k:List CA->Bool},b3p h vs k=AB-> ∃vs',k vs'=AB/\ ∀S,Sd P S-> ∀K:List AV->Prop,K (CA.toL vs')->b0n S hl (CA.toL vs) K:=by
 induction vs with
 |nil=>intro k hk;simp only[b3p] at hk;exact⟨[],hk,fun S _ K hK=>hK⟩
 |cons v vs ih=>
  intro k hk;simp only[b3p] at hk;split at hk
  ·obtain⟨cs',hk,h1⟩:=c6e r hk;obtain⟨vs',hk,h2⟩:=ih hk;exact⟨.agg cs'::vs',hk,fun S hS K hK=>h1 S hS _ (h2 S hS _ hK)⟩
  ·rename_i hne;obtain⟨v',hk,h1⟩:=c3c r hk;obtain⟨vs',hk,h2⟩:=ih hk;refine⟨v'::vs',hk,fun S hS K hK=>c3x (fun cs e=> ?_) (h1 S hS _ (h2 S hS _ hK))⟩;cases v<;>first|exact (hne _ rfl).elim|cases e
theorem a9h (r:RH P h hl){v:CA}{k:CA->CH->Bool}(hk:b0r h v k=AB):
 ∃v' h' hl',k v' h'=AB/\RH P h' hl'/\ ∀S,Sd P S-> ∀K:AV->List a0f->Prop,K v'.to hl'->a2m S hl v.to K:=by
 unfold b0r at hk;split at hk
 ·rename_i l sz s n f;obtain⟨sz',n',rows,hk,hv⟩:=b0k r hk;obtain⟨o,ao,h1,h2,hk⟩:=r.gets hk;cases o with
  |arr sz'' m e=>cases h2;obtain⟨h',hk,hr⟩:=r.sets hk;refine⟨_,_,_,hk,hr (.frz sz'' m (rowAt (CD.toR e))) rfl,fun S hS K hK=> ?_⟩;simp only[CA.to,a2m];refine hv S hS _ ?_;simp only[h1];exact hK
  |var cs=>cases h2;refine⟨_,_,_,hk,r,fun S hS K hK=> ?_⟩;simp only[CA.to,a2m];refine hv S hS _ ?_;simp only[h1];exact hK
  |frz a b c=>cases h2;refine⟨_,_,_,hk,r,fun S hS K hK=> ?_⟩;simp only[CA.to,a2m];refine hv S hS _ ?_;simp only[h1];exact hK
  |map a b c d=>cases h2;refine⟨_,_,_,hk,r,fun S hS K hK=> ?_⟩;simp only[CA.to,a2m];refine hv S hS _ ?_;simp only[h1];exact hK
  |mapv a b c d=>cases h2;refine⟨_,_,_,hk,r,fun S hS K hK=> ?_⟩;simp only[CA.to,a2m];refine hv S hS _ ?_;simp only[h1];exact hK
  |loop a b c d e f=>obtain⟨_,_,rfl⟩:=h2;refine⟨_,_,_,hk,r,fun S hS K hK=> ?_⟩;simp only[CA.to,a2m];refine hv S hS _ ?_;simp only[h1];exact hK
  |gone=>cases h2;refine⟨_,_,_,hk,r,fun S hS K hK=> ?_⟩;simp only[CA.to,a2m];refine hv S hS _ ?_;simp only[h1];exact hK
 ·exact⟨_,_,_,hk,r,fun S _ K hK=>hK⟩
 ·rename_i h2 h3;refine⟨_,_,_,hk,r,fun S _ K hK=> ?_⟩;cases v<;>first|exact hK|exact absurd rfl (h2 _ _ _ _ _)|exact absurd rfl (h3 _ _ _)
theorem a3r {vs:List CA}: ∀{h:CH} {hl:List a0f} (_:RH P h hl) {k:List CA->CH->Bool},a3l h vs k=AB->
 ∃vs' h' hl',k vs' h'=AB/\RH P h' hl'/\ ∀S,Sd P S-> ∀K:List AV->List a0f->Prop,K (CA.toL vs') hl'->a3t S hl (CA.toL vs) K:=by
 induction vs with
 |nil=>intro h hl r k hk;simp only[a3l] at hk;exact⟨[],_,_,hk,r,fun S _ K hK=>hK⟩
 |cons v vs ih=>intro h hl r k hk;simp only[a3l] at hk;obtain⟨v',h',hl',hk,r',h1⟩:=a9h r hk;obtain⟨vs',h'',hl'',hk,r'',h2⟩:=ih r' hk;exact⟨v'::vs',_,_,hk,r'',fun S hS K hK=>h1 S hS _ (h2 S hS _ hK)⟩
theorem a7x (r:RH P h hl){l:Nat}{k:CA->CH->Bool}(hk:a6a h l k=AB):
 ∃v' h' hl',k v' h'=AB/\RH P h' hl'/\ ∀S,Sd P S-> ∀K:AV->List a0f->Prop,K v'.to hl'->a2p S hl l K:=by
 unfold a6a at hk;obtain⟨o,ao,h1,h2,hk⟩:=r.gets hk;cases o with
 |var cs=>cases h2;obtain⟨cs',h',hl',hk,r',h3⟩:=a3r r hk;obtain⟨ds,h4,hk⟩:=b1o hk;obtain⟨h'',hk,hr⟩:=r'.sets hk;refine⟨_,_,_,hk,hr .gone rfl,fun S hS K hK=> ?_⟩;simp only[a2p,h1];refine h3 S hS _ ?_;simp only[h4];exact hK
 |_=>exact absurd hk AA
theorem b6e {S:Sig}{v:AV}{vs:List AV}{K:List AV->List a0f->Prop}(hv: ∀cs,v≠ .agg cs)(hp: ∀l,v≠ .ptr l 0)(h:a2m S hl v fun v' h'=>a1w S h' vs fun r' h''=>K (v'::r') h''):a1w S hl (v::vs) K:=by
 cases v
 case ptr l off=>
  cases off with
  |zero=>exact absurd rfl (hp l)
  |succ off=>exact h
 all_goals first|exact h|exact absurd rfl (hv _)
theorem b2g {vs:List CA}: ∀{h:CH} {hl:List a0f} (_:RH P h hl) {k:List CA->CH->Bool},a3k h vs k=AB->
 ∃vs' h' hl',k vs' h'=AB/\RH P h' hl'/\ ∀S,Sd P S-> ∀K:List AV->List a0f->Prop,K (CA.toL vs') hl'->a1w S hl (CA.toL vs) K:=by
 induction vs with
 |nil=>intro h hl r k hk;simp only[a3k] at hk;exact⟨[],_,_,hk,r,fun S _ K hK=>hK⟩
 |cons v vs ih=>
  intro h hl r k hk;simp only[a3k] at hk;split at hk
  ·obtain⟨cs',h',hl',hk,r',h1⟩:=a3r r hk;obtain⟨vs',h'',hl'',hk,r'',h2⟩:=ih r' hk;exact⟨.agg cs'::vs',_,_,hk,r'',fun S hS K hK=>h1 S hS _ (h2 S hS _ hK)⟩
  ·obtain⟨v',h',hl',hk,r',h1⟩:=a7x r hk;obtain⟨vs',h'',hl'',hk,r'',h2⟩:=ih r' hk;exact⟨v'::vs',_,_,hk,r'',fun S hS K hK=>h1 S hS _ (h2 S hS _ hK)⟩
  ·rename_i hne hne2;obtain⟨v',h',hl',hk,r',h1⟩:=a9h r hk;obtain⟨vs',h'',hl'',hk,r'',h2⟩:=ih r' hk;refine⟨v'::vs',_,_,hk,r'',fun S hS K hK=>b6e (fun cs e=> ?_) (fun l e=> ?_) (h1 S hS _ (h2 S hS _ hK))⟩
   ·cases v<;>first|exact (hne _ rfl).elim|cases e
   ·cases v<;>first|(simp only[CA.to,AV.ptr.injEq] at e;obtain⟨rfl,rfl⟩:=e;exact (hne2 _ rfl).elim)|cases e
theorem c4s (r:RH P h hl){v:CA}{k:List CD->CH->Bool}(hk:b9i h v k=AB):
 ∃ds h' hl',k ds h'=AB/\RH P h' hl'/\ ∀S,Sd P S-> ∀K:List DV->List a0f->Prop,K (CD.toL ds) hl'->b0p S hl v.to K:=by
 unfold b9i at hk;obtain⟨vs',h',hl',hk,r',h1⟩:=a3r r hk;obtain⟨ds,h2,hk⟩:=b1o hk;refine⟨ds,h',hl',hk,r',fun S hS K hK=> ?_⟩;unfold b0p;rw[CA.cells_to];refine h1 S hS _ ?_;simp only[h2];exact hK
theorem b9a {rs:List (List CA)}: ∀{h:CH} {hl:List a0f} (_:RH P h hl) {k:List (List CD)->CH->Bool},a7s h rs k=AB->
 ∃ds h' hl',k ds h'=AB/\RH P h' hl'/\ ∀S,Sd P S-> ∀K:List (List DV)->List a0f->Prop,K (CD.toR ds) hl'->a4s S hl (rs.map CA.toL) K:=by
 induction rs with
 |nil=>intro h hl r k hk;simp only[a7s] at hk;exact⟨[],_,_,hk,r,fun S _ K hK=>hK⟩
 |cons v vs ih=>intro h hl r k hk;simp only[a7s] at hk;obtain⟨v',h',hl',hk,r',h1⟩:=a3r r hk;obtain⟨ds,h2,hk⟩:=b1o hk;obtain⟨vs',h'',hl'',hk,r'',h3⟩:=ih r' hk;refine⟨ds::vs',_,_,hk,r'',fun S hS K hK=>h1 S hS _ ?_⟩;simp only[h2];exact h3 S hS _ hK
theorem a9a {k:AG}{x:Int}(h:d3z k x=AB):k.wrap x=x:=by
 have gen: ∀k:AG,xeq (k.wrap x) x=AB->k.wrap x=x:=fun k h=>by rw[a6m] at h;exact of_decide_eq_true h
 cases k with
 |i64=>
  have hx: -9223372036854775808<=x/\x<9223372036854775808:=by
   cases x with
   |ofNat n=>have h1:n<9223372036854775808:=AF h;simp only[AI];omega
   |negSucc n=>have h1:n<9223372036854775808:=AF h;omega
  have e1:(2:Int)^64=18446744073709551616:=by decide
  have e2:(2:Int)^(64-1)=9223372036854775808:=by decide
  simp only[IntKind.wrap,IntKind.bits,IntKind.signed,e1,e2,Bool.true_and,decide_eq_true_eq];split<;>omega
 |_=>exact gen _ h
end
theorem b9m (a b:Int):BF a b=decide (a=b):=by rw[Int.beq'_eq_beq];rfl
section
variable {P:Ao} {t:TS} {ts:List AV} {h:CH} {hl:List a0f}
theorem d1g {op:Aw}{kd:AG}{x y:IX}{k:CD->Bool}(hk:a8y op kd x y k=AB):
 ∃c,k c=AB/\ ∀S,Sd P S-> ∀K:DV->Prop,K c.to->d0v S op kd x y K:=by
 cases op
 case add=>
  cases x<;>cases y<;>
  ·simp only[a8y,b5a] at hk;obtain⟨h1,hk⟩:=a0e hk;refine⟨_,hk,?_⟩;rintro S ⟨A,ro,E,rfl⟩ K hK;exact And.intro (a9a h1) hK
 case sub=>
  cases x<;>cases y<;>
  ·simp only[a8y,b5a] at hk;obtain⟨h1,hk⟩:=a0e hk;refine⟨_,hk,?_⟩;rintro S ⟨A,ro,E,rfl⟩ K hK;exact And.intro (a9a h1) hK
 case mul=>
  simp only[a8y,b5a] at hk;obtain⟨h1,hk⟩:=a0e hk;refine⟨_,hk,?_⟩;rintro S ⟨A,ro,E,rfl⟩ K hK;exact And.intro (a9a h1) hK
 case quo=>
  simp only[a8y,b5a] at hk;obtain⟨h0,hk⟩:=a0e hk;obtain⟨h1,hk⟩:=a0e hk;refine⟨_,hk,?_⟩;rintro S ⟨A,ro,E,rfl⟩ K hK;rw[a6m] at h0;exact And.intro (show y.val≠0 from by simpa using h0) (And.intro (a9a h1) hK)
 case rem=>
  simp only[a8y,b5a] at hk;obtain⟨h0,hk⟩:=a0e hk;refine⟨_,hk,?_⟩;rintro S ⟨A,ro,E,rfl⟩ K hK;rw[a6m] at h0;exact And.intro (show y.val≠0 from by simpa using h0) hK
 case eql=>
  simp only[a8y,c4k] at hk;refine⟨_,hk,?_⟩;rintro S ⟨A,ro,E,rfl⟩ K hK;rw[a6m] at hK;cases x<;>cases y<;>first
   |(simp only[d0v,b9m];exact hK)
   |(simp only[d0v];exact hK)
 case neq=>
  simp only[a8y,c4k] at hk;refine⟨.bool (!(decide (x.val=y.val))),?_,?_⟩
  ·rw[<-a6m];split at hk<;>(rename_i e;rw[e];exact hk)
  rintro S ⟨A,ro,E,rfl⟩ K hK;cases x<;>cases y<;>first
   |(simp only[d0v,b9m];exact hK)
   |(simp only[d0v];exact hK)
 case lss=>
  simp only[a8y,c4k,b2c] at hk;refine⟨_,hk,?_⟩;rintro S ⟨A,ro,E,rfl⟩ K hK;exact hK
 case gtr=>
  simp only[a8y,c4k,b2c] at hk;refine⟨_,hk,?_⟩;rintro S ⟨A,ro,E,rfl⟩ K hK;exact hK
 case leq=>
  simp only[a8y,c4k,c6m] at hk;refine⟨_,hk,?_⟩;rintro S ⟨A,ro,E,rfl⟩ K hK;exact hK
 case geq=>
  simp only[a8y,c4k,c6m] at hk;refine⟨_,hk,?_⟩;rintro S ⟨A,ro,E,rfl⟩ K hK;exact hK
 all_goals exact absurd hk AA
theorem d9l {ks:List AG}: ∀{xs ys:List CA} {k:Bool->Bool},e3k ks xs ys k=AB-> ∃b,k b=AB/\ ∀S,Sd P S->d9q S ks (CA.toL xs) (CA.toL ys)=AM b:=by
 induction ks with
 |nil=>
  intro xs ys k hk;unfold e3k at hk;cases xs with
  |cons=>exact absurd hk AA
  |nil=>
   cases ys with
   |cons=>exact absurd hk AA
   |nil=>exact⟨AB,hk,fun S _=>rfl⟩
 |cons kd ks ih=>
  intro xs ys k hk;unfold e3k at hk;simp only at hk;split at hk
  ·rename_i k1 x xs;split at hk
   ·rename_i k2 y ys;obtain⟨h1,hk⟩:=a0e hk;obtain⟨h2,hk⟩:=a0e hk;obtain⟨b,hk,h3⟩:=ih hk;refine⟨decide (x.val=y.val)&&b,?_,?_⟩
    ·rw[a6m] at hk;cases e:decide (x.val=y.val)<;>rw[e] at hk<;>simpa using hk
    ·rintro S ⟨A,ro,E,rfl⟩;have e3:=h3 (Af P A ro E) ⟨A,ro,E,rfl⟩;simp only[CA.toL,CA.to,CD.to,d9q,a3y h1] at e3⊢;have ek:k1=k2:=(a3y h1).symm.trans (a3y h2);subst ek;simp only[if_true,e3];rfl
   ·exact absurd hk AA
  ·exact absurd hk AA
theorem d9a (a b:Bool):g2e a b=(a==b):=by cases a<;>cases b<;>rfl
theorem d3a {ks:List CK}: ∀{xs ys:List CA} {k:Bool->Bool},c3v ks xs ys k=AB-> ∃b,k b=AB/\ ∀S,Sd P S->c6a S ks (CA.toL xs) (CA.toL ys)=AM b:=by
 induction ks with
 |nil=>
  intro xs ys k hk;unfold c3v at hk;cases xs with
  |cons=>exact absurd hk AA
  |nil=>
   cases ys with
   |cons=>exact absurd hk AA
   |nil=>exact⟨AB,hk,fun S _=>rfl⟩
 |cons kd ks ih=>
  intro xs ys k hk;unfold c3v at hk;simp only at hk;split at hk
  ·rename_i x xs;split at hk
   ·rename_i y ys;split at hk
    ·rename_i kd;split at hk
     ·rename_i k1 x;split at hk
      ·rename_i k2 y;obtain⟨h1,hk⟩:=a0e hk;obtain⟨h2,hk⟩:=a0e hk;obtain⟨b,hk,h3⟩:=ih hk;refine⟨decide (x.val=y.val)&&b,?_,?_⟩
       ·rw[a6m] at hk;cases e:decide (x.val=y.val)<;>rw[e] at hk<;>simpa using hk
       ·rintro S ⟨A,ro,E,rfl⟩;have e3:=h3 (Af P A ro E) ⟨A,ro,E,rfl⟩;simp only[CA.toL,CA.to,CD.to,c6a,a3y h1] at e3⊢;have ek:k1=k2:=(a3y h1).symm.trans (a3y h2);subst ek;simp only[if_true,e3];rfl
      ·exact absurd hk AA
     ·exact absurd hk AA
    ·split at hk
     ·rename_i x;split at hk
      ·rename_i y;obtain⟨b,hk,h3⟩:=ih hk;refine⟨(x==y)&&b,?_,?_⟩
       ·rw[d9a] at hk;cases e:(x==y)<;>rw[e] at hk<;>simpa using hk
       ·rintro S ⟨A,ro,E,rfl⟩;have e3:=h3 (Af P A ro E) ⟨A,ro,E,rfl⟩;simp only[CA.toL,CA.to,CD.to,c6a] at e3⊢;simp only[e3];rfl
      ·exact absurd hk AA
     ·exact absurd hk AA
   ·exact absurd hk AA
  ·exact absurd hk AA
theorem b3u {ks:List AG}: ∀{xs:List CA} {k:List KC->Bool},a8w ks xs k=AB-> ∃kc,k kc=AB/\ ∀S,Sd P S-> ∀K:List KC->Prop,K kc->a4f S ks (CA.toL xs) K:=by
 induction ks with
 |nil=>
  intro xs k hk;unfold a8w at hk;cases xs with
  |cons=>exact absurd hk AA
  |nil=>exact⟨[],hk,fun S _ K hK=>hK⟩
 |cons kd ks ih=>
  intro xs k hk;unfold a8w at hk;split at hk
  ·rename_i k1 x xs;obtain⟨h1,hk⟩:=a0e hk;obtain⟨h2,hk⟩:=a0e hk;obtain⟨kc,hk,h3⟩:=ih hk;refine⟨_,hk,?_⟩;rintro S ⟨A,ro,E,rfl⟩ K hK;simp only[CA.toL,CA.to,CD.to,a4f,a3y h1,if_true];have ek:=a3y h1;subst ek;exact And.intro (a9a h2) (h3 _ ⟨A,ro,E,rfl⟩ _ hK)
  ·exact absurd hk AA
theorem a4j {wide:Bool}{ks:List AG}{v:CA}{k:List KC->Bool}(hk:a6w wide ks v k=AB): ∃kc,k kc=AB/\ ∀S,Sd P S-> ∀K:List KC->Prop,K kc->a2z S wide ks v.to K:=by
 unfold a6w at hk;split at hk
 ·cases wide with
  |false=>exact absurd hk AA
  |true=>obtain⟨kc,hk,h1⟩:=b3u (P:=P) hk;exact⟨kc,hk,fun S hS K hK=>h1 S hS K hK⟩
 ·rename_i hne;cases wide with
  |true=>exact absurd hk AA
  |false=>
   obtain⟨kc,hk,h1⟩:=b3u (P:=P) hk;refine⟨kc,hk,fun S hS K hK=> ?_⟩;have:=h1 S hS K hK;cases v<;>first|exact this|exact (hne _ rfl).elim
theorem b1i {a:List AG}: ∀{b:List AG},d4u a b=AB->a=b:=by
 induction a with
 |nil=>intro b h;cases b with
  |nil=>rfl
  |cons=>exact absurd h AA
 |cons x a ih=>
  intro b h;cases b with
  |nil=>exact absurd h AA
  |cons y b=>
   simp only[d4u] at h;split at h
   ·rename_i e;rw[a3y e,ih h]
   ·exact absurd h AA
theorem c2y {a:List UInt8}: ∀{b:List UInt8},b6r a b=decide (a=b):=by
 induction a with
 |nil=>intro b;cases b<;>simp[b6r]
 |cons x a ih=>
  intro b;cases b with
  |nil=>simp[b6r]
  |cons y b=>
   simp only[b6r];by_cases e:x=y
   ·subst e;rw[show AC x.toNat x.toNat=AB from BA _];simp only[ih];simp
   ·have:AC x.toNat y.toNat=AE:=by rw[Bool.eq_false_iff];intro c;exact e (UInt8.toNat_inj.1 (AD c))
    rw[this];simp[e]
theorem d5m (a b:Bool):bEq a b=decide (a=b):=by cases a<;>cases b<;>rfl
theorem d2g (a b:KC):d6u a b=decide (a=b):=by cases a<;>cases b<;>simp[d6u,a6m,d5m,c2y]
theorem b2e {a:List KC}: ∀{b:List KC},d0y a b=decide (a=b):=by
 induction a with
 |nil=>intro b;cases b<;>simp[d0y]
 |cons x a ih=>
  intro b;cases b with
  |nil=>simp[d0y]
  |cons y b=>
   simp only[d0y,d2g];by_cases e:x=y
   ·simp[e,ih]
   ·simp[e]
theorem c1g {es:List (List KC×Int)}{kc:List KC}{k:Option Int->Bool}(hk:c7a es kc k=AB):k (b6n es kc)=AB:=by
 induction es with
 |nil=>exact hk
 |cons e es ih=>
  obtain⟨k',v⟩:=e;simp only[c7a,b2e] at hk;simp only[b6n];by_cases c:kc=k'
  ·rw[if_pos c];simpa [c] using hk
  ·rw[if_neg c];exact ih (by simpa [c] using hk)
theorem c9f {kc:List KC}{ks:List (List KC)}: ∀{vs:List CA} {k:Option CA->Bool},c2u kc ks vs k=AB-> ∃r,k r=AB/\b1j kc ks (CA.toL vs)=r.map CA.to:=by
 induction ks with
 |nil=>intro vs k hk;exact⟨AP,hk,by simp[b1j]⟩
 |cons k' ks ih=>
  intro vs k hk;cases vs with
  |nil=>exact⟨AP,hk,by simp[b1j,CA.toL]⟩
  |cons v vs=>
   simp only[c2u,b2e] at hk;simp only[b1j,CA.toL];by_cases c:kc=k'
   ·rw[if_pos c.symm];exact⟨AM v,by simpa [c] using hk,rfl⟩
   ·rw[if_neg (Ai c)];exact ih (by simpa [c] using hk)
theorem d3g {kc:List KC}{x:CA}{ks:List (List KC)}: ∀{vs:List CA} {k:Option (List CA)->Bool},d2k kc x ks vs k=AB-> ∃r,k r=AB/\c7m kc x.to ks (CA.toL vs)=r.map CA.toL:=by
 induction ks with
 |nil=>intro vs k hk;exact⟨AP,hk,by simp[c7m]⟩
 |cons k' ks ih=>
  intro vs k hk;cases vs with
  |nil=>exact⟨AP,hk,by simp[c7m,CA.toL]⟩
  |cons v vs=>
   simp only[d2k,b2e] at hk;simp only[c7m,CA.toL];by_cases c:kc=k'
   ·rw[if_pos c.symm];exact⟨AM (x::vs),by simpa [c] using hk,rfl⟩
   ·rw[if_neg (Ai c)];have hd:decide (kc=k')=AE:=by simp[c]
    rw[hd] at hk;obtain⟨r,h1,h2⟩:=ih (vs:=vs) hk;rw[h2];cases r with
    |none=>exact⟨AP,h1,rfl⟩
    |some l=>exact⟨AM (v::l),h1,rfl⟩
theorem CA.toL_get {l:List CA}{i:Nat}{v:CA}(h:l[i]? =AM v):a1a (CA.toL l) i=AM v.to:=by rw[a0i,CA.toL_eq,AZ,h];rfl
theorem c9r (r:RT t ts){ps:List (Nat×Nat×a0h)}: ∀{cs:List CA} {k:List CA->Bool},c3j t cs ps k=AB-> ∃cs',b2r ts (CA.toL cs) ps=AM (CA.toL cs')/\k cs'=AB:=by
 induction ps with
 |nil=>intro cs k hk;exact⟨cs,rfl,hk⟩
 |cons p ps ih=>
  obtain⟨off,sz,x⟩:=p;intro cs k hk;simp only[c3j] at hk;obtain⟨v,h1,hk⟩:=a0d r hk;have hk:=a8k hk;obtain⟨h2,hk⟩:=a0e hk;obtain⟨h3,hk⟩:=a5x hk;obtain⟨c,h4,hk⟩:=b5j CA.to hk;obtain⟨cs',h5,hk⟩:=ih hk;refine⟨cs',?_,hk⟩;have h2':AC (a3q (CA.toL v.cells)) sz=AB:=by rw[a0u,CA.toL_len];simpa using h2
  simp only[b2r,h1,CA.cells_to,h2',h3,Am,if_true];rw[CA.toL_eq,CA.toL_eq,h4];rw[<-CA.toL_eq];exact h5
theorem b8b (r:RT t ts){sz:Nat}{ps:List (Nat×a0h)}: ∀{rs:List (List CA)} {k:List (List CA)->Bool},b6y t sz rs ps k=AB-> ∃rs',a8q ts sz (rs.map CA.toL) ps=AM (rs'.map CA.toL)/\k rs'=AB:=by
 induction ps with
 |nil=>intro cs k hk;exact⟨cs,rfl,hk⟩
 |cons p ps ih=>
  obtain⟨i,x⟩:=p;intro rs k hk;simp only[b6y] at hk;obtain⟨v,h1,hk⟩:=a0d r hk;have hk:=a8k hk;obtain⟨h2,hk⟩:=a0e hk;obtain⟨h3,hk⟩:=a5x hk;obtain⟨h4,hk⟩:=c0d hk;obtain⟨rs',h5,hk⟩:=ih hk;refine⟨rs',?_,hk⟩;have h2':AC (a3q (CA.toL v.cells)) sz=AB:=by rw[a0u,CA.toL_len];simpa using h2
  have h6:a1a (rs.map CA.toL) i=AM (CA.toL rs[i]):=by rw[a0i];simp[h4]
  simp only[a8q,h1,CA.cells_to,h2',h3,Am,if_true,h6];rw[a0l,<-Ap];exact h5
theorem b0q {row:List CD}{off:Nat}{agg:Option Nat}{k:CA->Bool}(hk:c1i row off agg k=AB): ∃v,k v=AB/\ ∀K:AV->Prop,K v.to->a8i (CD.toL row) off agg K:=by
 cases agg with
 |none=>
  obtain⟨x,h1,hk⟩:=a5k hk;refine⟨_,hk,fun K hK=> ?_⟩;have:a1a (CD.toL row) off=AM x.to:=by rw[a0i,CD.toL_eq,AZ,h1];rfl
  simp only[a8i,this];exact hK
 |some m=>obtain⟨c,h1,hk⟩:=b4l CD.to hk;obtain⟨cs,h2,hk⟩:=c4e hk;refine⟨_,hk,fun K hK=> ?_⟩;simp only[a8i];rw[CD.toL_eq,h1,<-CD.toL_eq];simp only[h2];exact hK
theorem b1k {rows:List (List CD)}{i:Nat}{k:List CD->Bool}(hk:d9x rows i k=AB): ∃row,i<rows.length/\rowAt (CD.toR rows) i=CD.toL row/\k row=AB:=by obtain⟨row,h1,hk⟩:=a5k hk;refine⟨row,(AH.1 h1).1,?_,hk⟩;rw[a1k,CD.toR_eq,AZ,h1];rfl
theorem b8j (r:RH P h hl){p:CA}{agg:Option Nat}{k:CA->Bool}(hk:c3r h p agg k=AB): ∃v,k v=AB/\ ∀S,Sd P S-> ∀K:AV->Prop,K v.to->a8s S hl p.to agg K:=by
 unfold c3r at hk;split at hk
 ·rename_i l off;obtain⟨o,ao,h1,h2,hk⟩:=r.gets hk;cases o with
  |var cs=>
   cases h2;cases agg with
   |none=>obtain⟨v,h3,hk⟩:=a5k hk;refine⟨v,hk,fun S _ K hK=> ?_⟩;simp only[CA.to,a8s,h1,CA.toL_get h3];exact hK
   |some n=>obtain⟨c,h3,hk⟩:=b4l CA.to hk;refine⟨_,hk,fun S _ K hK=> ?_⟩;simp only[CA.to,a8s,h1];rw[CA.toL_eq,h3,<-CA.toL_eq];exact hK
  |_=>exact absurd hk AA
 ·rename_i l sz i off;obtain⟨o,ao,h1,h2,hk⟩:=r.gets hk;cases o with
  |arr sz' n e=>cases h2;obtain⟨h3,hk⟩:=a0e hk;obtain⟨h4,hk⟩:=a0e hk;obtain⟨row,h5,h6,hk⟩:=b1k hk;obtain⟨v,hk,h7⟩:=b0q hk;refine⟨v,hk,?_⟩;rintro S ⟨A,ro,E,rfl⟩ K hK;simp only[CA.to,a8s,h1,h3,if_true,h6];exact And.intro (AF h4) (h7 K hK)
  |frz sz' n e=>cases h2;obtain⟨h3,hk⟩:=a0e hk;obtain⟨h4,hk⟩:=a0e hk;obtain⟨row,h5,h6,hk⟩:=b1k hk;obtain⟨v,hk,h7⟩:=b0q hk;refine⟨v,hk,?_⟩;rintro S ⟨A,ro,E,rfl⟩ K hK;simp only[CA.to,a8s,h1,h3,if_true,h6];exact And.intro (AF h4) (h7 K hK)
  |_=>exact absurd hk AA
 ·obtain⟨v,hk,h7⟩:=b0q hk;exact⟨v,hk,fun S _ K hK=>h7 K hK⟩
 ·exact absurd hk AA
theorem b7v {v:CA}{sz:Nat}(h:AC (0+v.cells.length) sz=AB)(h2:b5z (CA.toL v.cells)=AB):(AC (a3q v.to.cells) sz&&b5z v.to.cells)=AB:=by rw[CA.cells_to,a0u,CA.toL_len,h2];simpa using h
theorem c4g (r:RH P h hl){p v:CA}{sz:Nat}{k:CH->Bool}(hk:b8w h p v sz k=AB): ∃h' hl',k h'=AB/\RH P h' hl'/\ ∀S,Sd P S-> ∀K:List a0f->Prop,K hl'->a6o S hl p.to v.to sz K:=by
 unfold b8w at hk;split at hk
 ·rename_i l off;have hk:=a8k hk;obtain⟨h2,hk⟩:=a0e hk;obtain⟨h3,hk⟩:=a5x hk;obtain⟨o,ao,h1,h4,hk⟩:=r.gets hk;cases o with
  |var cs=>cases h4;obtain⟨c,h5,hk⟩:=b5j CA.to hk;obtain⟨h',hk,hr⟩:=r.sets hk;refine⟨h',_,hk,hr (.var (CA.toL c)) rfl,fun S _ K hK=> ?_⟩;simp only[CA.to,a6o,b7v h2 h3,if_true,h1];rw[CA.cells_to,CA.toL_eq,CA.toL_eq,h5,<-CA.toL_eq];exact hK
  |_=>exact absurd hk AA
 ·rename_i l sz' i off;have hk:=a8k hk;obtain⟨h2,hk⟩:=a0e hk;obtain⟨h3,hk⟩:=a5x hk;obtain⟨o0,ao0,h01,h04,hk⟩:=r.gets hk;cases o0 with
  |arr _ _ _=>
   cases h04;obtain⟨new,h',hl',hk,r',hd⟩:=c4s r hk;obtain⟨o,ao,h1,h4,hk⟩:=r'.gets hk;cases o with
   |arr sz'' n e=>cases h4;obtain⟨h5,hk⟩:=a0e hk;obtain⟨h6,hk⟩:=a0e hk;obtain⟨row,h7,h8,hk⟩:=b1k hk;obtain⟨c,h9,hk⟩:=b5j CD.to hk;obtain⟨h10,hk⟩:=c0d hk;obtain⟨h'',hk,hr⟩:=r'.sets hk;refine⟨h'',_,hk,hr (.arr sz'' n (rowAt (CD.toR (e.set i c)))) rfl,?_⟩;rintro S ⟨A,ro,E,rfl⟩ K hK;simp only[CA.to,a6o,b7v h2 h3,if_true,h01,h9m];refine hd _ ⟨A,ro,E,rfl⟩ _ ?_;simp only[h1,h5,if_true,h8];refine And.intro (AF h6) ?_;rw[CD.toL_eq,CD.toL_eq,h9,<-CD.toL_eq];rw[CD.toR_eq,Ap,c6p _ _ _ (by simpa using h7),<-CD.toR_eq] at hK;exact hK
   |_=>exact absurd hk AA
  |_=>exact absurd hk AA
 ·exact absurd hk AA
end
theorem CA.free_to (v:CA):v.to.free=v.free:=by
 cases v with
 |fn f us cs=>cases us<;>cases cs<;>rfl
 |_=>rfl
theorem c8s {vs:List CA}{k:Unit->Bool}(h:c2w vs k=AB):a3z.frees1 (CA.toL vs)=AB/\k ()=AB:=by
 induction vs with
 |nil=>exact⟨rfl,h⟩
 |cons v l ih=>
  simp only[c2w] at h;split at h
  ·rename_i e;simp only[CA.toL,a3z.frees1,CA.free_to,e];exact ih h
  ·exact absurd h AA
theorem a7o {vs:List CA}{k:Unit->Bool}(h:a7k vs k=AB):a3z (CA.toL vs)=AB/\k ()=AB:=by
 induction vs with
 |nil=>exact⟨rfl,h⟩
 |cons v l ih=>
  unfold a7k at h;simp only at h;split at h
  ·rename_i cs;obtain⟨h1,h⟩:=c8s h;obtain⟨h2,h⟩:=ih h;exact⟨by simp only[CA.toL,CA.to,a3z,h1,h2,if_true],h⟩
  ·rename_i hne;split at h
   ·rename_i e;obtain⟨h2,h⟩:=ih h;refine⟨?_,h⟩;have e':=CA.free_to v;rw[e] at e';cases v<;>first|exact (hne _ rfl).elim|(simp only[CA.toL,CA.to] at e'⊢;simp only[a3z,e',h2,if_true])
   ·exact absurd h AA
theorem CA.isPtr_to (v:CA):v.to.isPtr=v.isPtr:=by cases v<;>rfl
mutual
theorem d1f:(v:CA)-> ∀{k:CA->Bool},e9q v k=AB-> ∃v',k v'=AB/\v'.to=v.to.norm
 | .d (.int kd n),k,h=>⟨.d (.int kd (.v n.val)),h,rfl⟩
 | .d (.bool b),k,h=>⟨_,h,rfl⟩
 | .d (.str l),k,h=>⟨_,h,rfl⟩
 | .d .nil,k,h=>⟨_,h,rfl⟩
 | .d (.sl a b c),k,h=>⟨_,h,rfl⟩
 | .d (.raw v),k,h=>⟨_,h,rfl⟩
 | .any,k,h=>⟨_,h,rfl⟩
 | .und,k,h=>⟨_,h,rfl⟩
 | .agg cs,k,h=>by obtain⟨v',h1,h2⟩:=a1p cs (k:=fun cs=>k (.agg cs)) h;exact⟨_,h1,by simp only[CA.to,BC,h2]⟩
 | .tuple cs,k,h=>by obtain⟨v',h1,h2⟩:=a1p cs (k:=fun cs=>k (.tuple cs)) h;exact⟨_,h1,by simp only[CA.to,BC,h2]⟩
 | .ptr ..,k,h=>⟨_,h,rfl⟩
 | .aptr ..,k,h=>⟨_,h,rfl⟩
 | .dptr ..,k,h=>⟨_,h,rfl⟩
 | .dfs ..,k,h=>⟨_,h,rfl⟩
 | .msl ..,k,h=>⟨_,h,rfl⟩
 | .vsl ..,k,h=>⟨_,h,rfl⟩
 | .map _,k,h=>⟨_,h,rfl⟩
 | .fn f us cs,k,h=>by obtain⟨u',h1,h2⟩:=a1p us (k:=fun us=>a8f cs fun cs=>k (.fn f us cs)) h;obtain⟨c',h3,h4⟩:=a1p cs (k:=fun cs=>k (.fn f u' cs)) h1;exact⟨_,h3,by simp only[CA.to,BC,h2,h4]⟩
 | .ge _,k,h=>⟨_,h,rfl⟩
 | .yl _,k,h=>⟨_,h,rfl⟩
theorem a1p:(vs:List CA)-> ∀{k:List CA->Bool},a8f vs k=AB-> ∃vs',k vs'=AB/\CA.toL vs'=A8 (CA.toL vs)
 |[],k,h=>⟨[],h,rfl⟩
 |v::vs,k,h=>by obtain⟨v',h1,h2⟩:=d1f v (k:=fun v=>a8f vs fun r=>k (v::r)) h;obtain⟨vs',h3,h4⟩:=a1p vs (k:=fun r=>k (v'::r)) h1;exact⟨_,h3,by simp only[CA.toL,A8,h2,h4]⟩
end
theorem a8n {l m:Nat}{v:CA}{k:CA->Bool}(h:c3e l m v k=AB): ∃v',k v'=AB/\v'.to=if (if AE=AB then AX l m else AC l m)=AB then .any else v.to:=by
 unfold c3e at h;cases e:AC l m with
 |false=>rw[e] at h;exact⟨v,h,by simp⟩
 |true=>rw[e] at h;exact⟨.any,h,by simp[CA.to]⟩
mutual
theorem b3g (l:Nat):(v:CA)-> ∀{k:CA->Bool},c7q l v k=AB-> ∃v',k v'=AB/\v'.to=v.to.forget l AE
 | .d _,k,h=>⟨_,h,rfl⟩
 | .any,k,h=>⟨_,h,rfl⟩
 | .und,k,h=>⟨_,h,rfl⟩
 | .agg cs,k,h=>by obtain⟨v',h1,h2⟩:=a2b l cs (k:=fun cs=>k (.agg cs)) h;exact⟨_,h1,by simp only[CA.to,A5,h2]⟩
 | .tuple cs,k,h=>by obtain⟨v',h1,h2⟩:=a2b l cs (k:=fun cs=>k (.tuple cs)) h;exact⟨_,h1,by simp only[CA.to,A5,h2]⟩
 | .ptr m off,k,h=>by obtain⟨v',h1,h2⟩:=a8n (v:= .ptr m off) h;exact⟨v',h1,h2⟩
 | .aptr m sz i off,k,h=>by obtain⟨v',h1,h2⟩:=a8n (v:= .aptr m sz i off) h;exact⟨v',h1,h2⟩
 | .dptr ..,k,h=>⟨_,h,rfl⟩
 | .dfs ..,k,h=>⟨_,h,rfl⟩
 | .msl m sz s n f,k,h=>by obtain⟨v',h1,h2⟩:=a8n (v:= .msl m sz s n f) h;exact⟨v',h1,h2⟩
 | .vsl m off n,k,h=>by obtain⟨v',h1,h2⟩:=a8n (v:= .vsl m off n) h;exact⟨v',h1,h2⟩
 | .map m,k,h=>by obtain⟨v',h1,h2⟩:=a8n (v:= .map m) h;exact⟨v',h1,h2⟩
 | .fn f us cs,k,h=>by obtain⟨u',h1,h2⟩:=a2b l us (k:=fun us=>a8d l cs fun cs=>k (.fn f us cs)) h;obtain⟨c',h3,h4⟩:=a2b l cs (k:=fun cs=>k (.fn f u' cs)) h1;exact⟨_,h3,by simp only[CA.to,A5,h2,h4]⟩
 | .ge _,k,h=>⟨_,h,rfl⟩
 | .yl m,k,h=>by obtain⟨v',h1,h2⟩:=a8n (v:= .yl m) h;exact⟨v',h1,h2⟩
theorem a2b (l:Nat):(vs:List CA)-> ∀{k:List CA->Bool},a8d l vs k=AB-> ∃vs',k vs'=AB/\CA.toL vs'=An l AE (CA.toL vs)
 |[],k,h=>⟨[],h,rfl⟩
 |v::vs,k,h=>by obtain⟨v',h1,h2⟩:=b3g l v (k:=fun v=>a8d l vs fun r=>k (v::r)) h;obtain⟨vs',h3,h4⟩:=a2b l vs (k:=fun r=>k (v'::r)) h1;exact⟨_,h3,by simp only[CA.toL,An,h2,h4]⟩
end
section
variable {P:Ao} {t:TS} {ts:List AV} {h:CH} {hl:List a0f}
theorem a9k (l:Nat){t:TS}: ∀{k:TS->Bool},a4w l t k=AB-> ∃t',k t'=AB/\ ∀i v',t'.get? i=AM v'-> ∃v,t.get? i=AM v/\v'.to=v.to.forget l AE:=by
 induction t with
 |leaf=>intro k h;exact⟨.leaf,h,fun i v' h=>by simp[BT.get?] at h⟩
 |node v a b ia ib=>
  intro k h;obtain⟨v',h1,h2⟩:=b3g l v (k:=fun v=>a4w l a fun tl=>a4w l b fun tr=>k (.node v tl tr)) h;obtain⟨a',h3,h4⟩:=ia (k:=fun tl=>a4w l b fun tr=>k (.node v' tl tr)) h1;obtain⟨b',h5,h6⟩:=ib h3;refine⟨_,h5,fun i u hi=> ?_⟩;cases i with
  |zero=>simp only[BT.get?,Option.some.injEq] at hi⊢;subst hi;exact⟨v,rfl,h2⟩
  |succ j=>
   simp only[BT.get?] at hi⊢;split at hi
   ·rename_i e;rw[if_pos e];exact h4 _ _ hi
   ·rename_i e;rw[if_neg e];exact h6 _ _ hi
theorem b9v (r:RT t ts){l:Nat}{k:TS->Bool}(hk:a4w l t k=AB): ∃t',k t'=AB/\RT t' (An l AE ts):=by obtain⟨t',h1,h2⟩:=a9k l hk;refine⟨t',h1,fun i v' hv=> ?_⟩;obtain⟨v,h3,h4⟩:=h2 i v' hv;rw[As,AZ,r i v h3,h4];rfl
theorem c8l {pg:List Nat}: ∀{t:TS} {ts:List AV} (_:RT t ts) {k:TS->Bool},a6k pg t k=AB-> ∃t',k t'=AB/\RT t' (ts.map (a3g pg)):=by
 induction pg with
 |nil=>intro t ts r k hk;refine⟨t,hk,?_⟩;simpa [a3g] using r
 |cons l pg ih=>intro t ts r k hk;simp only[a6k] at hk;obtain⟨t',hk,r'⟩:=b9v r hk;obtain⟨t'',hk,r''⟩:=ih r' hk;refine⟨t'',hk,?_⟩;rw[As,List.map_map] at r'';exact r''
theorem b4b (l:Nat){t:BT b0h}: ∀{k:BT b0h->Bool},a1l l t k=AB->
 ∃t',k t'=AB/\ ∀i v',t'.get? i=AM v'-> ∃v,t.get? i=AM v/\ ∀ao,v.R P ao->v'.R P (ao.forget l AE):=by
 induction t with
 |leaf=>intro k h;exact⟨.leaf,h,fun i v' h=>by simp[BT.get?] at h⟩
 |node v a b ia ib=>
  intro k h;have hv: ∃v',(∀ao,v.R P ao->v'.R P (ao.forget l AE))/\(a1l l a fun tl=>a1l l b fun tr=>k (.node v' tl tr))=AB:=by
   have h':c1f l v (fun v=>a1l l a fun tl=>a1l l b fun tr=>k (.node v tl tr))=AB:=h;cases v with
   |var cs=>obtain⟨c',h1,h2⟩:=a2b l cs (k:=fun cs=>a1l l a fun tl=>a1l l b fun tr=>k (.node (.var cs) tl tr)) h';exact⟨_,fun ao hR=>by cases hR;simp only[b0h.R,a0f.forget,h2],h1⟩
   |arr=>exact⟨_,fun ao hR=>by cases hR;rfl,h'⟩
   |frz=>exact⟨_,fun ao hR=>by cases hR;rfl,h'⟩
   |map=>exact⟨_,fun ao hR=>by cases hR;rfl,h'⟩
   |gone=>exact⟨_,fun ao hR=>by cases hR;rfl,h'⟩
   |mapv p q r s=>obtain⟨c',h1,h2⟩:=a2b l s (k:=fun cs=>a1l l a fun tl=>a1l l b fun tr=>k (.node (.mapv p q r cs) tl tr)) h';exact⟨_,fun ao hR=>by cases hR;simp only[b0h.R,a0f.forget,h2],h1⟩
   |loop s ts ps A x y=>obtain⟨t',h1,h2⟩:=a9k l (k:=fun ts=>a1l l a fun tl=>a1l l b fun tr=>k (.node (.loop s ts ps A x y) tl tr)) h';refine⟨_,fun ao hR=> ?_,h1⟩;obtain⟨tsl,h3,rfl⟩:=hR;refine⟨An l AE tsl,fun i v' hv=> ?_,rfl⟩;obtain⟨v,h5,h6⟩:=h2 i v' hv;rw[As,AZ,h3 i v h5,h6];rfl
  obtain⟨v',h2,h1⟩:=hv;obtain⟨a',h3,h4⟩:=ia (k:=fun tl=>a1l l b fun tr=>k (.node v' tl tr)) h1;obtain⟨b',h5,h6⟩:=ib h3;refine⟨_,h5,fun i u hi=> ?_⟩;cases i with
  |zero=>simp only[BT.get?,Option.some.injEq] at hi⊢;subst hi;exact⟨v,rfl,h2⟩
  |succ j=>
   simp only[BT.get?] at hi⊢;split at hi
   ·rename_i e;rw[if_pos e];exact h4 _ _ hi
   ·rename_i e;rw[if_neg e];exact h6 _ _ hi
theorem b8t (r:RH P h hl){l:Nat}{k:CH->Bool}(hk:c1o l h k=AB): ∃h',k h'=AB/\RH P h' (a2n l AE hl):=by obtain⟨n,t⟩:=h;obtain⟨t',h1,h2⟩:=b4b (P:=P) l (k:=fun t=>k ⟨n,t⟩) hk;refine⟨_,h1,⟨by rw[a4i,Az];exact r.len,fun i o' ho=> ?_⟩⟩;obtain⟨o,h3,h4⟩:=h2 i o' ho;obtain⟨ao,h5,h6⟩:=r.get i o h3;exact⟨_,by rw[a3s,h5];rfl,h4 ao h6⟩
theorem a7j {l:Nat}{mv:List Nat}:b6p l mv=AB↔l∈mv:=by
 induction mv with
 |nil=>simp[b6p]
 |cons m r ih=>
  simp only[b6p];split
  ·rename_i e;simp[AD e]
  ·rename_i e;rw[ih,AS];refine⟨.inr,fun h=>h.resolve_left fun c=> ?_⟩;subst c;rw[BA] at e;cases e
theorem d1k {base:Nat}{pg:List Nat}: ∀{mv:List Nat} {k:List Nat->Bool},a9x base pg mv k=AB-> ∃mv',k mv'=AB/\(∀m,m∈mv->m∈mv')/\ ∀m,m∈pg->m<base->m∈mv':=by
 induction pg with
 |nil=>intro mv k hk;exact⟨mv,hk,fun _ h=>h,by simp⟩
 |cons l pg ih=>
  intro mv k hk;simp only[a9x] at hk;split at hk
  ·split at hk
   ·rename_i e;obtain⟨mv',h1,h2,h3⟩:=ih hk;refine⟨mv',h1,h2,fun m hm hb=> ?_⟩;rcases AS.1 hm with rfl|hm
    ·exact h2 _ (a7j.1 e)
    ·exact h3 m hm hb
   ·obtain⟨mv',h1,h2,h3⟩:=ih hk;refine⟨mv',h1,fun m hm=>h2 m (by simp[hm]),fun m hm hb=> ?_⟩;rcases AS.1 hm with rfl|hm
    ·exact h2 _ (by simp)
    ·exact h3 m hm hb
  ·rename_i e;obtain⟨mv',h1,h2,h3⟩:=ih hk;refine⟨mv',h1,h2,fun m hm hb=> ?_⟩;rcases AS.1 hm with rfl|hm
   ·have:AO m base=AB:=BD▸hb;rw[this] at e;cases e
   ·exact h3 m hm hb
theorem a2w {v:CA}{k:IX->Bool}(hk:a9z v k=AB): ∃n,v= .d (.int .i64 n)/\k n=AB:=by
 unfold a9z at hk;split at hk
 ·exact⟨_,rfl,hk⟩
 ·exact absurd hk AA
theorem a8a {v:CA}{k:Bool->Bool}(hk:b9d v k=AB): ∃n,v= .d (.bool n)/\k n=AB:=by
 unfold b9d at hk;split at hk
 ·exact⟨_,rfl,hk⟩
 ·exact absurd hk AA
theorem a3e {n:IX}{k:Nat->Bool}(hk:c3s n k=AB):k n.val.toNat=AB:=by
 unfold c3s at hk;split at hk
 ·rename_i e;rw[e];exact hk
 ·rename_i e;rw[e];exact hk
theorem a2v (r:RT t ts){x:Option a0h}{d:IX}{k:IX->Bool}(hk:c2t t x d k=AB): ∃n,k n=AB/\ ∀K:IX->Prop,K n->b0u ts x d K:=by
 cases x with
 |none=>exact⟨d,hk,fun K hK=>hK⟩
 |some o=>obtain⟨v,h1,hk⟩:=a0d r hk;obtain⟨n,rfl,hk⟩:=a2w hk;exact⟨n,hk,fun K hK=>by simp only[b0u,h1];exact hK⟩
theorem a6b {s:Option Nat}{lo:IX}{k:Option Nat->Bool}(hk:a7g s lo k=AB): ∃s',k s'=AB/\ ∀S,Sd P S->a6q S s lo=s':=by
 cases lo with
 |l n=>
  cases n with
  |ofNat m=>
   cases m with
   |zero=>exact⟨s,hk,fun S _=>rfl⟩
   |succ m=>
    cases s with
    |none=>refine⟨_,hk,?_⟩;rintro S ⟨A,ro,E,rfl⟩;rfl
    |some u=>simp only[a7g,a3j] at hk;refine⟨_,hk,?_⟩;rintro S ⟨A,ro,E,rfl⟩;rfl
  |negSucc m=>exact absurd hk AA
 |v n=>
  simp only[a7g] at hk;have hk:=a3e hk;cases s with
  |none=>refine⟨_,hk,?_⟩;rintro S ⟨A,ro,E,rfl⟩;rfl
  |some u=>simp only[a3j] at hk;refine⟨_,hk,?_⟩;rintro S ⟨A,ro,E,rfl⟩;rfl
theorem b0v {A:A4}{ro:Option Nat}{E:BE}(rows:List (List CD))(lo:IX):shiftL (Af P A ro E) (rowAt (CD.toR rows)) lo=rowAt (CD.toR (rows.drop lo.val.toNat)):=by
 have gen:rowAt (CD.toR (rows.drop lo.val.toNat))=(Af P A ro E).shift (rowAt (CD.toR rows)) (nat (Af P A ro E) lo):=by rw[CD.toR_eq,Al,b3q,<-CD.toR_eq,a0o];rfl
 unfold shiftL;split
 ·rename_i h;rfl
 ·exact gen.symm
theorem a1v {a b:Int}{k:Bool}(h:a0w (xle a b) k=AB):a<=b/\k=AB:=by obtain⟨h1,h2⟩:=a0e h;rw[c6m] at h1;exact⟨of_decide_eq_true h1,h2⟩
theorem b3a {a b:Int}{k:Bool}(h:a0w (xeq a b) k=AB):a=b/\k=AB:=by obtain⟨h1,h2⟩:=a0e h;rw[a6m] at h1;exact⟨of_decide_eq_true h1,h2⟩
theorem b4n (r:RT t ts){sz:Nat}{x:CA}{lo hi mx:Option a0h}{k:CA->Bool}(hk:a8j t sz x lo hi mx k=AB):
 ∃v,k v=AB/\ ∀S,Sd P S-> ∀K:AV->Prop,K v.to->a1d S ts sz x.to lo hi mx K:=by
 unfold a8j at hk;split at hk
 ·rename_i l sz' s n f;obtain⟨h1,hk⟩:=a0e hk;obtain⟨lo',hk,hlo⟩:=a2v r hk;obtain⟨hi',hk,hhi⟩:=a2v r hk;obtain⟨h2,hk⟩:=a1v hk;obtain⟨h3,hk⟩:=a1v hk;obtain⟨h4,hk⟩:=a1v hk;have hk:=a3e hk;have hk:=a3e hk;simp only[a3j] at hk;split at hk
  ·split at hk
   ·obtain⟨h5,hk⟩:=b3a hk;obtain⟨s',hk,h6⟩:=a6b (P:=P) hk;refine⟨_,hk,?_⟩;rintro S ⟨A,ro,E,rfl⟩ K hK;simp only[CA.to,a1d,h1,if_true];refine hlo _ (hhi _ (And.intro h2 (And.intro h3 (And.intro h4 (And.intro h5 ?_)))));rw[h6 _ ⟨A,ro,E,rfl⟩,a0o,a0o];exact hK
   ·obtain⟨s',hk,h6⟩:=a6b (P:=P) hk;refine⟨_,hk,?_⟩;rintro S ⟨A,ro,E,rfl⟩ K hK;simp only[CA.to,a1d,h1,if_true];refine hlo _ (hhi _ (And.intro h2 (And.intro h3 (And.intro h4 ?_))));rw[h6 _ ⟨A,ro,E,rfl⟩,a0o,a0o];exact hK
  ·obtain⟨v,h7,hk⟩:=a0d r hk;obtain⟨m',rfl,hk⟩:=a2w hk;obtain⟨h5,hk⟩:=b3a hk;obtain⟨s',hk,h6⟩:=a6b (P:=P) hk;refine⟨_,hk,?_⟩;rintro S ⟨A,ro,E,rfl⟩ K hK;simp only[CA.to,a1d,h1,if_true,h7];refine hlo _ (hhi _ (And.intro h2 (And.intro h3 (And.intro h4 (And.intro h5 ?_)))));rw[h6 _ ⟨A,ro,E,rfl⟩,a0o,a0o];exact hK
 ·rename_i sz' n e;obtain⟨h1,hk⟩:=a0e hk;obtain⟨lo',hk,hlo⟩:=a2v r hk;obtain⟨hi',hk,hhi⟩:=a2v r hk;obtain⟨h2,hk⟩:=a1v hk;obtain⟨h3,hk⟩:=a1v hk;obtain⟨h4,hk⟩:=a1v hk;have hk:=a3e hk;have hk:=a3e hk;simp only[a3j] at hk;have hk:=c2z hk;split at hk
  ·refine⟨_,hk,?_⟩;rintro S ⟨A,ro,E,rfl⟩ K hK;simp only[CA.to,CD.to,a1d,h1,if_true];refine hlo _ (hhi _ (And.intro h2 (And.intro h3 (And.intro h4 ?_))));rw[b0v,a0o,a0o];exact hK
  ·obtain⟨v,h7,hk⟩:=a0d r hk;obtain⟨m',rfl,hk⟩:=a2w hk;obtain⟨h5,hk⟩:=b3a hk;refine⟨_,hk,?_⟩;rintro S ⟨A,ro,E,rfl⟩ K hK;simp only[CA.to,CD.to,a1d,h1,if_true,h7];refine hlo _ (hhi _ (And.intro h2 (And.intro h3 (And.intro h4 (And.intro h5 ?_)))));rw[b0v,a0o,a0o];exact hK
 ·obtain⟨lo',hk,hlo⟩:=a2v r hk;obtain⟨hi',hk,hhi⟩:=a2v r hk;obtain⟨h2,hk⟩:=b3a hk;obtain⟨h3,hk⟩:=b3a hk;split at hk
  ·refine⟨_,hk,?_⟩;rintro S ⟨A,ro,E,rfl⟩ K hK;simp only[CA.to,CD.to,a1d];exact hlo _ (hhi _ (And.intro h2 (And.intro h3 hK)))
  ·obtain⟨v,h7,hk⟩:=a0d r hk;obtain⟨m',rfl,hk⟩:=a2w hk;obtain⟨h5,hk⟩:=b3a hk;refine⟨_,hk,?_⟩;rintro S ⟨A,ro,E,rfl⟩ K hK;simp only[CA.to,CD.to,a1d,h7];exact hlo _ (hhi _ (And.intro h2 (And.intro h3 (And.intro h5 hK))))
 ·exact absurd hk AA
end
section
variable {P:Ao} {t:TS} {ts:List AV} {h:CH} {hl:List a0f}
theorem b5x {i:IX}{n:Nat}{k:Nat->Bool}(hk:e0d i n k=AB):k i.val.toNat=AB/\ ∀S,Sd P S-> ∀K:Nat->Prop,K i.val.toNat->idx S i n K:=by
 unfold e0d at hk;split at hk
 ·rename_i m e;obtain⟨h1,hk⟩:=a0e hk;have h2:m<n:=AF h1;refine⟨by rw[e];exact hk,?_⟩;rintro S ⟨A,ro,E,rfl⟩ K hK;refine And.intro (show 0<=i.val/\i.val<n from ?_) (by rw[a0o];exact hK);rw[e];simp only[AI];omega
 ·exact absurd hk AA
def E0:BE:=⟨default,fun _=>False,a2j,0,[]⟩
theorem b4s {sz:Nat}{x:CA}{i:IX}{k:CA->Bool}(hk:a9e sz x i k=AB): ∃v,k v=AB/\ ∀S,Sd P S-> ∀K:AV->Prop,K v.to->a2l S sz x.to i K:=by
 unfold a9e at hk;split at hk
 ·obtain⟨h1,hk⟩:=a0e hk;obtain⟨hk,h2⟩:=b5x (P:=P) hk;have hk:=a6x (P:=P) (A:={}) (ro:=AP) (E:=E0) hk;refine⟨_,hk,?_⟩;rintro S ⟨A,ro,E,rfl⟩ K hK;simp only[CA.to,a2l,h1,if_true];exact h2 _ ⟨A,ro,E,rfl⟩ _ hK
 ·obtain⟨h1,hk⟩:=a0e hk;obtain⟨hk,h2⟩:=b5x (P:=P) hk;obtain⟨row,h3,h4,hk⟩:=b1k hk;refine⟨_,hk,?_⟩;rintro S ⟨A,ro,E,rfl⟩ K hK;simp only[CA.to,CD.to,a2l,h1,if_true];refine h2 _ ⟨A,ro,E,rfl⟩ _ ?_;rw[h4];exact hK
 ·obtain⟨h1,hk⟩:=a0e hk;obtain⟨hk,h2⟩:=b5x (P:=P) hk;obtain⟨row,h3,h4,hk⟩:=b1k hk;refine⟨_,hk,?_⟩;rintro S ⟨A,ro,E,rfl⟩ K hK;simp only[CA.to,a2l,h1,if_true];refine h2 _ ⟨A,ro,E,rfl⟩ _ ?_;rw[h4];exact hK
 ·exact absurd hk AA
theorem c6o {S:Sig}{sz:Nat}{v:AV}{K:Nat->Nat->(Nat->List DV)->Prop}(hv:v≠ .d .nil)(hk:b3s S hl v K):a8b S sz hl v K:=by
 unfold a8b;split
 ·exact (hv rfl).elim
 ·exact hk.elim
 ·exact hk
theorem CA.to_nil {v:CA}(h:v.to= .d .nil):v= .d .nil:=by
 cases v with
 |d x=>cases x<;>first|rfl|cases h
 |_=>cases h
theorem b2d (r:RH P h hl){sz:Nat}{v:CA}{k:Nat->Nat->List (List CD)->Bool}(hk:b6h sz h v k=AB):
 ∃sz' n rows,k sz' n rows=AB/\ ∀S,Sd P S-> ∀K:Nat->Nat->(Nat->List DV)->Prop,K sz' n (rowAt (CD.toR rows))->a8b S sz hl v.to K:=by
 unfold b6h at hk;split at hk
 ·exact⟨_,_,_,hk,fun S _ K hK=>hK⟩
 ·rename_i hne;obtain⟨sz',n,rows,hk,hv⟩:=b0k r hk;exact⟨_,_,_,hk,fun S hS K hK=>c6o (fun e=>hne (CA.to_nil e)) (hv S hS K hK)⟩
theorem a7z {A:A4}{ro:Option Nat}{E:BE}{e e2:List (List CD)}{n:Nat}(hn:n<=e.length):
 rowAt (CD.toR (e.take n++e2))=(Af P A ro E).app n (rowAt (CD.toR e)) (rowAt (CD.toR e2)):=by
 rw[CD.toR_eq,Ab,Ak,c9i _ _ _ (by simpa using hn),<-CD.toR_eq,<-CD.toR_eq];rfl
theorem b4x {A:A4}{ro:Option Nat}{E:BE}{e new:List (List CD)}{i m:Nat}(h1:i+m<=e.length)(h2:m<=new.length):
 rowAt (CD.toR (e.take i++new.take m++e.drop (i+m)))=(Af P A ro E).put i m (rowAt (CD.toR e)) (rowAt (CD.toR new)):=by
 rw[CD.toR_eq,Ab,Ab,Ak,Ak,Al,c8z _ _ _ _ (by simpa using h1) (by simpa using h2),<-CD.toR_eq,<-CD.toR_eq];rfl
theorem a7t {a b:Nat}{k:Bool}(h:a0w (AX a b) k=AB):a<=b/\k=AB:=by obtain⟨h1,h2⟩:=a0e h;exact⟨AF h1,h2⟩
theorem a9m {a b:Nat}{k:Bool}(h:a0w (AO a b) k=AB):a<b/\k=AB:=by obtain⟨h1,h2⟩:=a0e h;exact⟨AF h1,h2⟩
theorem a6p (r:RH P h hl){sz:Nat}{x y:CA}{mu:Bool}{k:CA->CH->List Nat->Bool}(hk:a2c h sz x y mu k=AB):
 ∃v h' hl' pg,k v h' pg=AB/\RH P h' hl'/\ ∀S,Sd P S-> ∀K:AV->List a0f->List Nat->Prop,K v.to hl' pg->a2g S hl sz x.to y.to mu K:=by
 unfold a2c at hk;obtain⟨sz2,m,e2,hk,hv⟩:=b2d r hk;obtain⟨h1,hk⟩:=a0e hk;split at hk
 ·obtain⟨h2,hk⟩:=a7t hk;cases mu with
  |true=>obtain⟨h',hk,hr⟩:=r.adds hk;refine⟨_,_,_,_,hk,hr _ rfl,?_⟩;rintro S ⟨A,ro,E,rfl⟩ K hK;refine hv _ ⟨A,ro,E,rfl⟩ _ ?_;simp only[CA.to,CD.to,h1,if_true];exact And.intro h2 hK
  |false=>refine⟨_,_,_,_,hk,r,?_⟩;rintro S ⟨A,ro,E,rfl⟩ K hK;refine hv _ ⟨A,ro,E,rfl⟩ _ ?_;simp only[CA.to,CD.to,h1,if_true];exact And.intro h2 hK
 ·rename_i sz' n e;obtain⟨h2,hk⟩:=a0e hk;rw[a3j] at hk;obtain⟨h3,hk⟩:=a7t hk;obtain⟨h4,hk⟩:=a9m hk;obtain⟨h5,hk⟩:=a7f hk;cases mu with
  |true=>obtain⟨h',hk,hr⟩:=r.adds hk;refine⟨_,_,_,_,hk,hr _ rfl,?_⟩;rintro S ⟨A,ro,E,rfl⟩ K hK;refine hv _ ⟨A,ro,E,rfl⟩ _ ?_;simp only[CA.to,h1,h2,if_true];rw[a7z (P:=P) (A:=A) (ro:=ro) (E:=E) h5] at hK;exact And.intro h3 (And.intro h4 hK)
  |false=>refine⟨_,_,_,_,hk,r,?_⟩;rintro S ⟨A,ro,E,rfl⟩ K hK;refine hv _ ⟨A,ro,E,rfl⟩ _ ?_;simp only[CA.to,h1,h2,if_true];simp only[CA.to,CD.to] at hK;rw[a7z (P:=P) (A:=A) (ro:=ro) (E:=E) h5] at hK;exact And.intro h3 (And.intro h4 hK)
 ·rename_i l sz' n;obtain⟨h2,hk⟩:=a0e hk;obtain⟨o,ao,h3,hR,hk⟩:=r.gets hk;cases o with
  |arr sz'' n' e=>cases hR;obtain⟨h4,hk⟩:=a0e hk;obtain⟨h5,hk⟩:=a0e hk;rw[a3j] at hk;obtain⟨h6,hk⟩:=a7t hk;obtain⟨h7,hk⟩:=a7f hk;obtain⟨h',hk,hr⟩:=r.sets hk;obtain⟨h'',hk,hr'⟩:=b8t (hr _ rfl) hk;refine⟨_,_,_,_,hk,hr',?_⟩;rintro S ⟨A,ro,E,rfl⟩ K hK;refine hv _ ⟨A,ro,E,rfl⟩ _ ?_;simp only[CA.to,h1,h2,h3,h4,if_true];rw[a7z (P:=P) (A:=A) (ro:=ro) (E:=E) h7] at hK;exact And.intro (AD h5) (And.intro h6 hK)
  |_=>exact absurd hk AA
 ·rename_i l sz' s n;obtain⟨h2,hk⟩:=a0e hk;obtain⟨sz3,n3,e,hk,hv2⟩:=b0k r hk;rw[a3j] at hk;obtain⟨h3,hk⟩:=a7t hk;obtain⟨h4,hk⟩:=a9m hk;obtain⟨h5,hk⟩:=a7f hk;cases mu with
  |true=>obtain⟨h',hk,hr⟩:=r.adds hk;refine⟨_,_,_,_,hk,hr _ rfl,?_⟩;rintro S ⟨A,ro,E,rfl⟩ K hK;refine hv _ ⟨A,ro,E,rfl⟩ _ ?_;simp only[CA.to,h1,h2,if_true];refine hv2 _ ⟨A,ro,E,rfl⟩ _ ?_;rw[a7z (P:=P) (A:=A) (ro:=ro) (E:=E) h5] at hK;exact And.intro h3 (And.intro h4 hK)
  |false=>refine⟨_,_,_,_,hk,r,?_⟩;rintro S ⟨A,ro,E,rfl⟩ K hK;refine hv _ ⟨A,ro,E,rfl⟩ _ ?_;simp only[CA.to,h1,h2,if_true];refine hv2 _ ⟨A,ro,E,rfl⟩ _ ?_;simp only[CA.to,CD.to] at hK;rw[a7z (P:=P) (A:=A) (ro:=ro) (E:=E) h5] at hK;exact And.intro h3 (And.intro h4 hK)
 ·exact absurd hk AA
theorem b5i (r:RH P h hl){sz:Nat}{x y:CA}{k:CA->CH->Bool}(hk:a8m h sz x y k=AB):
 ∃v h' hl',k v h'=AB/\RH P h' hl'/\ ∀S,Sd P S-> ∀K:AV->List a0f->Prop,K v.to hl'->a4o S hl sz x.to y.to K:=by
 unfold a8m at hk;obtain⟨sz2,m,e2,hk,hv⟩:=b2d r hk;obtain⟨h1,hk⟩:=a0e hk;split at hk
 ·rename_i l sz' s n;obtain⟨h2,hk⟩:=a0e hk;obtain⟨o,ao,h3,hR,hk⟩:=r.gets hk;cases o with
  |arr sz'' n' e=>cases hR;obtain⟨h4,hk⟩:=a0e hk;have hk:=a6x (P:=P) (A:={}) (ro:=AP) (E:=E0) hk;obtain⟨h6,hk⟩:=a7t hk;obtain⟨h7,h8,hk⟩:=b9z hk;obtain⟨h',hk,hr⟩:=r.sets hk;rw[a3j] at hk;refine⟨_,_,_,hk,hr _ rfl,?_⟩;rintro S ⟨A,ro,E,rfl⟩ K hK;refine hv _ ⟨A,ro,E,rfl⟩ _ ?_;simp only[CA.to,h1,h2,h3,h4,if_true];rw[b4x (P:=P) (A:=A) (ro:=ro) (E:=E) h7 h8] at hK;exact And.intro h6 hK
  |_=>exact absurd hk AA
 ·exact absurd hk AA
theorem b2z (s:Option Nat):c0o s=c2c s:=by cases s<;>rfl
theorem b5o (a b:Nat):e5l a b=min a b:=by
 unfold e5l;split
 ·rename_i e;have:=AF e;omega
 ·rename_i e;have: ¬a<=b:=fun c=>by rw[Nat.ble_eq_true_of_le c] at e;cases e
  omega
theorem c8a {n:Nat}: ∀{e:List (List CD)} {k:List CA->Bool},c3p e n k=AB-> ∃cs,cs.length=n/\(∀i,i<n-> ∃x,rowAt (CD.toR e) i=[x]/\(CA.toL cs)[i]? =AM (.d x))/\k cs=AB:=by
 induction n with
 |zero=>intro e k hk;simp only[c3p] at hk;exact⟨[],rfl,fun i hi=>by omega,hk⟩
 |succ n ih=>
  intro e k hk;cases e with
  |nil=>exact absurd hk AA
  |cons row e=>
   match row,hk with
   |[],hk=>exact absurd hk AA
   |[x],hk=>
    obtain⟨cs,h1,h2,hk⟩:=ih (e:=e) (k:=fun l=>k (.d x::l)) hk;refine⟨_,by simp[h1],fun i hi=> ?_,hk⟩;cases i with
    |zero=>exact⟨x.to,rfl,rfl⟩
    |succ i=>obtain⟨y,h3,h4⟩:=h2 i (by omega);exact⟨y,h3,by simpa [CA.toL] using h4⟩
   |_::_::_,hk=>exact absurd hk AA
theorem d3n {n:Nat}: ∀{e:Nat->List DV} {l:List AV},l.length=n->(∀i,i<n-> ∃x,e i=[x]/\l[i]? =AM (.d x))->b2m e n=AM l:=by
 induction n with
 |zero=>intro e l h1 h2;simp[b2m];exact (List.length_eq_zero_iff.1 h1)
 |succ n ih=>
  intro e l h1 h2;obtain⟨x,h3,h4⟩:=h2 n (by omega);have h5:=ih (l:=l.take n) (e:=e) (by simp[h1]) (fun i hi=>by obtain⟨y,h6,h7⟩:=h2 i (by omega);exact⟨y,h6,by rw[AQ hi];exact h7⟩);simp only[b2m,h5,h3,a0r];congr 1;refine Ax fun i=> ?_;by_cases c:i<n
  ·rw[AJ (by simp[h1];omega),AQ c]
  ·by_cases d:i=n
   ·subst d;rw[AK (by rw[Ay];omega),Ay,h1,show i-min i (i+1)=0 by omega,h4];rfl
   ·rw[Au (by simp[h1];omega),Au (by omega)]
theorem b7m (r:RH P h hl){sz:Nat}{x y:CA}{k:CA->CH->Bool}(hk:b1r h sz x y k=AB):
 ∃v h' hl',k v h'=AB/\RH P h' hl'/\ ∀S,Sd P S-> ∀K:AV->List a0f->Prop,K v.to hl'->a5z S hl sz x.to y.to K:=by
 unfold b1r at hk;obtain⟨sz2,m,e2,hk,hv⟩:=b2d r hk;obtain⟨h1,hk⟩:=a0e hk;split at hk
 ·rename_i l sz' s n f;obtain⟨h2,hk⟩:=a0e hk;obtain⟨o,ao,h3,hR,hk⟩:=r.gets hk;cases o with
  |arr sz'' n' e=>cases hR;obtain⟨h4,hk⟩:=a0e hk;have hk:=a6x (P:=P) (A:={}) (ro:=AP) (E:=E0) hk;obtain⟨h6,hk⟩:=a7t hk;rw[a3j] at hk;obtain⟨h7,h8,hk⟩:=b9z hk;obtain⟨h',hk,hr⟩:=r.sets hk;refine⟨_,_,_,hk,hr _ rfl,?_⟩;rintro S ⟨A,ro,E,rfl⟩ K hK;refine hv _ ⟨A,ro,E,rfl⟩ _ ?_;simp only[CA.to,h1,h2,h3,h4,if_true];rw[b4x (P:=P) (A:=A) (ro:=ro) (E:=E) h7 h8,b2z] at hK;simp only[CA.to,CD.to,b5o] at hK;exact And.intro h6 hK
  |_=>exact absurd hk AA
 ·obtain⟨h2,hk⟩:=a0e hk;obtain⟨o,ao,h3,hR,hk⟩:=r.gets hk;cases o with
  |var cs=>cases hR;simp only[a3j] at hk;obtain⟨new,h4,h5,hk⟩:=c8a hk;obtain⟨c,h6,hk⟩:=b5j CA.to hk;obtain⟨h',hk,hr⟩:=r.sets hk;refine⟨_,_,_,hk,hr _ rfl,?_⟩;rintro S ⟨A,ro,E,rfl⟩ K hK;refine hv _ ⟨A,ro,E,rfl⟩ _ ?_;have h7:b2m (rowAt (CD.toR e2)) ((Af P A ro E).nmin _ m)=AM (CA.toL new):=d3n (by rw[CA.toL_len,h4,b5o];rfl) (fun i hi=>h5 i (by rw[b5o];exact hi));simp only[CA.to,h1,h2,h3,if_true,h7];rw[CA.toL_eq,CA.toL_eq,h6,<-CA.toL_eq];simp only[CA.to,CD.to,b5o] at hK;exact hK
  |_=>exact absurd hk AA
 ·exact absurd hk AA
end
def MV (base:Nat)(mvA mv:List Nat):Prop:= ∀m,m<base->m∈mvA->m∈mv
structure XOk (P:Ao)(X:XS):Prop where
 pcall: ∀{own:Bool} {f:Ad} {args:List CA} {k:CA->Bool},X.pcall own f args k=AB-> ∃r,k r=AB/\a0j P own f (CA.toL args) r.to
 call: ∀{f:Ad} {args:List CA} {h:CH} {hl:List a0f} {k:List Nat->CA->CH->Bool},RH P h hl->X.call f args h k=AB->
  ∃pg v h' hl',k pg v h'=AB/\RH P h' hl'/\ ∀K:List Nat->AV->List a0f->Prop,K pg v.to hl'->a1h P f (CA.toL args) hl K
 yld: ∀{l:Nat} {args:List CA} {h:CH} {hl:List a0f} {k:List Nat->CA->CH->Bool},RH P h hl->X.yld l args h k=AB->
  ∃pg v h' hl',k pg v h'=AB/\RH P h' hl'/\ ∀K:List Nat->AV->List a0f->Prop,K pg v.to hl'->b5d P l (CA.toL args) hl K
 loop: ∀{A:A4} {base:Nat} {top:Bool} {c:a0c} {k:Lv->TS->CH->List Nat->Bool} {t:TS} {ts:List AV} {h:CH} {hl:List a0f} {mv mvA:List Nat},
  RT t ts->RH P h hl->MV base mvA mv->X.loop A base top c k t h mv=AB->
  ∃lv t' ts' h' hl' mv' mvA',k lv t' h' mv'=AB/\RT t' ts'/\RH P h' hl'/\MV base mvA' mv'/\
   ∀(ro:Option Nat) (E:BE) (Q:Lv->St->Prop),(top=AB->ro=AP)->Q lv ⟨ts',hl',mvA'⟩-> ∃m,b4o (Af P A ro E) m c Q ⟨ts,hl,mvA⟩
def a0p (P:Ao)(o:IOp)(ts:List AV)(hl:List a0f)(k:CA->CH->List Nat->Bool):Prop:=
 ∃v h' hl' pg,k v h' pg=AB/\RH P h' hl'/\ ∀S,Sd P S-> ∀(mv:List Nat) (K:AV->List a0f->List Nat->Prop),K v.to hl' pg->a0a S o ⟨ts,hl,mv⟩ K
section
variable {P:Ao} {X:XS} {t:TS} {ts:List AV} {h:CH} {hl:List a0f} {k:CA->CH->List Nat->Bool}
theorem f2b (r:RT t ts)(rh:RH P h hl){x:a0h}(hk:f3i x X t h k=AB):a0p P (.mv x) ts hl k:=by obtain⟨v,h1,hk⟩:=a0d r hk;exact⟨v,h,hl,[],hk,rh,fun S _ mv K hK=>by simp only[a0a,h1];exact hK⟩
theorem d0q (rh:RH P h hl){sz:Nat}(hk:c1m sz X t h k=AB):a0p P (.newnil sz) ts hl k:=by obtain⟨h',hk,hr⟩:=rh.adds hk;refine⟨_,_,_,_,hk,hr _ rfl,fun S _ mv K hK=> ?_⟩;exact hK
theorem d7y (rh:RH P h hl){sz:Nat}(hk:d5r sz X t h k=AB):a0p P (.bnew sz) ts hl k:=by obtain⟨h',hk,hr⟩:=rh.adds hk;refine⟨_,_,_,_,hk,hr _ rfl,fun S _ mv K hK=> ?_⟩;exact hK
theorem d7n (r:RT t ts)(rh:RH P h hl){c a b:a0h}(hk:d6c c a b X t h k=AB):a0p P (.pick c a b) ts hl k:=by
 obtain⟨v,h1,hk⟩:=a0d r hk;obtain⟨n,rfl,hk⟩:=a8a hk;cases n with
 |true=>obtain⟨v,h2,hk⟩:=a0d r hk;exact⟨v,h,hl,[],hk,rh,fun S _ mv K hK=>by simp only[a0a,h1,CA.to,CD.to,e0h,h2];exact hK⟩
 |false=>obtain⟨v,h2,hk⟩:=a0d r hk;exact⟨v,h,hl,[],hk,rh,fun S _ mv K hK=>by simp only[a0a,h1,CA.to,CD.to,e0h,h2];exact hK⟩
theorem d1m (rh:RH P h hl){zs:List DV}(hk:c7c zs X t h k=AB):a0p P (.alloc zs) ts hl k:=by obtain⟨cs,ez,hk2⟩:=a5s hk;clear hk;subst ez;obtain⟨ds,h1,hk⟩:=c4e hk2;obtain⟨h',hk,hr⟩:=rh.adds hk;refine⟨_,_,_,_,hk,hr _ rfl,fun S _ mv K hK=> ?_⟩;simp only[a0a,h1];exact hK
theorem e0v (r:RT t ts)(rh:RH P h hl){x:a0h}(hk:e4a x X t h k=AB):a0p P (.box x) ts hl k:=by obtain⟨v,h1,hk⟩:=a0d r hk;obtain⟨h2,hk⟩:=a5x hk;obtain⟨h',hk,hr⟩:=rh.adds hk;refine⟨_,_,_,_,hk,hr _ rfl,fun S _ mv K hK=> ?_⟩;simp only[a0a,h1,CA.cells_to,h2,if_true];exact hK
theorem d3d (r:RT t ts)(rh:RH P h hl){zs:List DV}{ps:List (Nat×Nat×a0h)}(hk:c6y zs ps X t h k=AB):a0p P (.build zs ps) ts hl k:=by obtain⟨cs,ez,hk2⟩:=a5s hk;clear hk;subst ez;obtain⟨ds,h1,hk⟩:=c4e hk2;obtain⟨cs',h2,hk⟩:=c9r r hk;refine⟨_,_,_,_,hk,rh,fun S _ mv K hK=> ?_⟩;simp only[a0a,h1,h2];exact hK
theorem c7k (r:RT t ts)(rh:RH P h hl){sz len:Nat}{zs:List DV}{ps:List (Nat×a0h)}{mu:Bool}(hk:c2k sz len zs ps mu X t h k=AB):a0p P (.bslice sz len zs ps mu) ts hl k:=by
 obtain⟨cs,ez,hk2⟩:=a5s hk;clear hk;subst ez;obtain⟨ds,h1,hk⟩:=c4e hk2;have hk:=b1q hk;obtain⟨rs,h2,hk⟩:=b8b r hk;obtain⟨rows,h',hl',hk,rh',h3⟩:=b9a rh hk;have h2':a8q ts sz (b8q (b3y .d (CD.toL cs)) len) ps=AM (rs.map CA.toL):=by rw[a7i,h1];simpa using h2
 cases mu with
 |true=>obtain⟨h'',hk,hr⟩:=rh'.adds hk;refine⟨_,_,_,_,hk,hr _ rfl,fun S hS mv K hK=> ?_⟩;simp only[a0a,h2',if_true];exact h3 S hS _ hK
 |false=>refine⟨_,_,_,_,hk,rh',fun S hS mv K hK=> ?_⟩;simp only[a0a,h2'];exact h3 S hS _ hK
theorem d4f {rs:List (List CA)}: ∀{k:List (List CD)->Bool},e1q rs k=AB-> ∃rows,d9t (rs.map CA.toL)=AM (CD.toR rows)/\k rows=AB:=by
 induction rs with
 |nil=>intro k hk;exact⟨[],rfl,hk⟩
 |cons r rs ih=>intro k hk;obtain⟨ds,h1,hk⟩:=b1o hk;obtain⟨rows,h2,hk⟩:=ih hk;refine⟨ds::rows,?_,hk⟩;simp only[Ag,d9t,h1,h2];rfl
theorem c4z (r:RT t ts)(rh:RH P h hl){sz len:Nat}{zs:List DV}{ps:List (Nat×a0h)}(hk:b8p sz len zs ps X t h k=AB):a0p P (.bsliceP sz len zs ps) ts hl k:=by
 obtain⟨cs,ez,hk2⟩:=a5s hk;clear hk;subst ez;obtain⟨ds,h1,hk⟩:=c4e hk2;have hk:=b1q hk;obtain⟨rs,h2,hk⟩:=b8b r hk;obtain⟨rows,h3,hk⟩:=d4f hk;have h2':a8q ts sz (b8q (b3y .d (CD.toL cs)) len) ps=AM (rs.map CA.toL):=by rw[a7i,h1];simpa using h2
 refine⟨_,_,_,_,hk,rh,fun S hS mv K hK=> ?_⟩;simp only[a0a,h2',h3];exact hK
theorem d8o (r:RT t ts)(rh:RH P h hl){agg:Option Nat}{x:a0h}(hk:d4z agg x X t h k=AB):a0p P (.load agg x) ts hl k:=by obtain⟨v,h1,hk⟩:=a0d r hk;obtain⟨u,hk,h2⟩:=b8j rh hk;refine⟨_,_,_,_,hk,rh,fun S hS mv K hK=> ?_⟩;simp only[a0a,h1];exact h2 S hS _ hK
theorem d2y (r:RT t ts)(rh:RH P h hl){sz:Nat}{a x:a0h}(hk:c6r sz a x X t h k=AB):a0p P (.store sz a x) ts hl k:=by obtain⟨p,h1,hk⟩:=a0d r hk;obtain⟨v,h2,hk⟩:=a0d r hk;obtain⟨h',hl',hk,rh',h3⟩:=c4g rh hk;refine⟨_,_,_,_,hk,rh',fun S hS mv K hK=> ?_⟩;simp only[a0a,h1,h2];exact h3 S hS _ hK
theorem c7v (r:RT t ts)(rh:RH P h hl){x:a0h}(hk:c3k x X t h k=AB):a0p P (.nilchk x) ts hl k:=by obtain⟨v,h1,hk⟩:=a0d r hk;obtain⟨h2,hk⟩:=a0e hk;refine⟨_,_,_,_,hk,rh,fun S hS mv K hK=> ?_⟩;simp only[a0a,h1,CA.isPtr_to,h2,if_true];exact hK
theorem f1u (r:RT t ts)(rh:RH P h hl){op:Aw}{x y:a0h}(hk:f2y op x y X t h k=AB):a0p P (.bw op x y) ts hl k:=by
 obtain⟨v,h1,hk⟩:=a0d r hk;obtain⟨u,h2,hk⟩:=a0d r hk;split at hk
 ·split at hk
  ·split at hk
   ·exact absurd hk AA
   ·rename_i n ecl;split at hk
    ·obtain⟨h3,hk⟩:=a1v hk;rw[b5a] at hk;refine⟨_,_,_,_,hk,rh,?_⟩;rintro S ⟨A,ro,E,rfl⟩ mv K hK;simp only[a0a,h1,h2,CA.to,CD.to,bwI,ecl];exact⟨h3,hK⟩
    ·split at hk
     ·obtain⟨h3,hk2⟩:=a0e hk;rw[b5a] at hk2;have e:=a3y h3;refine⟨_,_,_,_,hk2,rh,?_⟩;rintro S ⟨A,ro,E,rfl⟩ mv K hK;simp only[a0a,h1,h2,CA.to,CD.to,bwI,ecl,if_pos e];exact hK
     ·exact absurd hk AA
  ·exact absurd hk AA
 ·exact absurd hk AA
theorem e3q (r:RT t ts)(rh:RH P h hl){op:Aw}{x y:a0h}(hk:e3f op x y X t h k=AB):a0p P (.bin op x y) ts hl k:=by
 obtain⟨v,h1,hk⟩:=a0d r hk;obtain⟨u,h2,hk⟩:=a0d r hk;split at hk
 ·split at hk
  ·obtain⟨h3,hk⟩:=a0e hk;obtain⟨c,hk,h4⟩:=d1g (P:=P) hk;refine⟨_,_,_,_,hk,rh,fun S hS mv K hK=> ?_⟩;have e:=a3y h3;subst e;simp only[a0a,h1,h2,CA.to,CD.to,if_true];exact h4 S hS _ hK
  ·split at hk
   ·obtain⟨h3,hk⟩:=a0e hk;obtain⟨h4,hk⟩:=a1v hk;refine⟨_,_,_,_,hk,rh,?_⟩;rintro S ⟨A,ro,E,rfl⟩ mv K hK;have e:=a3y h3;subst e;simp only[a0a,h1,h2,CA.to,CD.to];exact And.intro h4 hK
   ·exact absurd hk AA
  ·exact absurd hk AA
 ·exact absurd hk AA
theorem d7j (r:RT t ts)(rh:RH P h hl){op:Aw}{x y:a0h}(hk:d5u op x y X t h k=AB):a0p P (.binb op x y) ts hl k:=by
 obtain⟨v,h1,hk⟩:=a0d r hk;obtain⟨a,rfl,hk⟩:=a8a hk;obtain⟨v,h2,hk⟩:=a0d r hk;obtain⟨b,rfl,hk⟩:=a8a hk;cases op
 case eql=>
  cases a<;>cases b<;>
  ·refine⟨_,_,_,_,hk,rh,?_⟩;rintro S ⟨A,ro,E,rfl⟩ mv K hK;simp only[a0a,h1,h2,CA.to,CD.to];exact hK
 case neq=>
  cases a<;>cases b<;>
  ·refine⟨_,_,_,_,hk,rh,?_⟩;rintro S ⟨A,ro,E,rfl⟩ mv K hK;simp only[a0a,h1,h2,CA.to,CD.to];exact hK
 all_goals exact absurd hk AA
theorem e2e (r:RT t ts)(rh:RH P h hl){neg:Bool}{ks:List AG}{x y:a0h}(hk:e2x neg ks x y X t h k=AB):a0p P (.aeq neg ks x y) ts hl k:=by
 obtain⟨v,h1,hk⟩:=a0d r hk;obtain⟨u,h2,hk⟩:=a0d r hk;split at hk
 ·split at hk
  ·obtain⟨b,hk,h3⟩:=d9l (P:=P) hk;cases neg<;>cases b<;>
   ·refine⟨_,_,_,_,hk,rh,?_⟩;rintro S ⟨A,ro,E,rfl⟩ mv K hK;simp only[a0a,h1,h2,CA.to,h3 _ ⟨A,ro,E,rfl⟩];exact hK
  ·exact absurd hk AA
 ·exact absurd hk AA
theorem d6p (r:RT t ts)(rh:RH P h hl){neg:Bool}{ks:List CK}{x y:a0h}(hk:d5b neg ks x y X t h k=AB):a0p P (.aeqw neg ks x y) ts hl k:=by
 obtain⟨v,h1,hk⟩:=a0d r hk;obtain⟨u,h2,hk⟩:=a0d r hk;split at hk
 ·split at hk
  ·obtain⟨b,hk,h3⟩:=d3a (P:=P) hk;cases neg<;>cases b<;>
   ·refine⟨_,_,_,_,hk,rh,?_⟩;rintro S ⟨A,ro,E,rfl⟩ mv K hK;simp only[a0a,h1,h2,CA.to,h3 _ ⟨A,ro,E,rfl⟩];exact hK
  ·exact absurd hk AA
 ·exact absurd hk AA
theorem f1n (r:RT t ts)(rh:RH P h hl){op:UnOp}{x:a0h}(hk:g1j op x X t h k=AB):a0p P (.un op x) ts hl k:=by
 obtain⟨v,h1,hk⟩:=a0d r hk;split at hk
 ·obtain⟨b,rfl,hk⟩:=a8a hk;cases b<;>
  ·refine⟨_,_,_,_,hk,rh,?_⟩;rintro S ⟨A,ro,E,rfl⟩ mv K hK;simp only[a0a,h1,CA.to,CD.to];exact hK
 ·split at hk
  ·rw[b5a] at hk;obtain⟨h3,hk⟩:=a0e hk;refine⟨_,_,_,_,hk,rh,?_⟩;rintro S ⟨A,ro,E,rfl⟩ mv K hK;simp only[a0a,h1,CA.to,CD.to];exact And.intro (a9a h3) hK
  ·exact absurd hk AA
 ·exact absurd hk AA
theorem d9m (r:RT t ts)(rh:RH P h hl){kd:AG}{x:a0h}(hk:d5v kd x X t h k=AB):a0p P (.conv kd x) ts hl k:=by
 obtain⟨v,h1,hk⟩:=a0d r hk;split at hk
 ·rw[b5a] at hk;refine⟨_,_,_,_,hk,rh,?_⟩;rintro S ⟨A,ro,E,rfl⟩ mv K hK;simp only[a0a,h1,CA.to,CD.to];exact hK
 ·exact absurd hk AA
theorem d8q (r:RT t ts)(rh:RH P h hl){f:Ad}{a b:List a0h}(hk:d5h f a b X t h k=AB):a0p P (.mkfn f a b) ts hl k:=by obtain⟨us,h1,hk⟩:=b0d r hk;obtain⟨cs,h2,hk⟩:=b0d r hk;refine⟨_,_,_,_,hk,rh,fun S _ mv K hK=> ?_⟩;simp only[a0a,h1,h2];exact hK
theorem d4g (rh:RH P h hl){wide:Bool}{ks:List AG}(hk:d0g wide ks X t h k=AB):a0p P (.mkmap wide ks) ts hl k:=by obtain⟨h',hk,hr⟩:=rh.adds hk;refine⟨_,_,_,_,hk,hr _ rfl,fun S _ mv K hK=> ?_⟩;exact hK
theorem c8c (rh:RH P h hl){wide:Bool}{ks:List AG}(hk:c2j wide ks X t h k=AB):a0p P (.mkmapv wide ks) ts hl k:=by obtain⟨h',hk,hr⟩:=rh.adds hk;refine⟨_,_,_,_,hk,hr _ rfl,fun S _ mv K hK=> ?_⟩;exact hK
theorem b5k {A:A4}{ro:Option Nat}{E:BE}(zs:List CD)(n:Nat):rowAt (CD.toR (AY n zs))=(Af P A ro E).rep n (CD.toL zs):=by rw[CD.toR_eq,List.map_replicate,d0k];rfl
theorem c5q (r:RT t ts)(rh:RH P h hl){sz:Nat}{zs:List DV}{b:Nat}{n:a0h}(hk:b6o sz zs b n X t h k=AB):a0p P (.mkslice sz zs b n) ts hl k:=by obtain⟨cs,ez,hk2⟩:=a5s hk;clear hk;subst ez;obtain⟨v,h1,hk⟩:=a0d r hk2;obtain⟨n',rfl,hk⟩:=a2w hk;obtain⟨h2,hk⟩:=a1v hk;obtain⟨h3,hk⟩:=a1v hk;have hk:=a3e hk;have hk:=b1q hk;obtain⟨h',hk,hr⟩:=rh.adds hk;refine⟨_,_,_,_,hk,hr _ rfl,?_⟩;rintro S ⟨A,ro,E,rfl⟩ mv K hK;simp only[a0a,h1,CA.to,CD.to,a9r];refine And.intro h2 (And.intro h3 ?_);rw[a0o];rw[b5k (P:=P) (A:=A) (ro:=ro) (E:=E)] at hK;exact hK
theorem d3u (r:RT t ts)(rh:RH P h hl){sz:Nat}{x:a0h}{lo hi mx:Option a0h}(hk:c7r sz x lo hi mx X t h k=AB):a0p P (.slice sz x lo hi mx) ts hl k:=by obtain⟨v,h1,hk⟩:=a0d r hk;obtain⟨u,hk,h2⟩:=b4n (P:=P) r hk;refine⟨_,_,_,_,hk,rh,fun S hS mv K hK=> ?_⟩;simp only[a0a,h1];exact h2 S hS _ hK
theorem d2u (r:RT t ts)(rh:RH P h hl){n:Nat}{x:a0h}{lo hi:Option a0h}(hk:d0j n x lo hi X t h k=AB):a0p P (.slarr n x lo hi) ts hl k:=by
 obtain⟨v,h1,hk⟩:=a0d r hk;split at hk
 ·obtain⟨lo',hk,hlo⟩:=a2v r hk;obtain⟨hi',hk,hhi⟩:=a2v r hk;obtain⟨h2,hk⟩:=a1v hk;obtain⟨h3,hk⟩:=a1v hk;obtain⟨h4,hk⟩:=a1v hk;have hk:=a3e hk;have hk:=a3e hk;rw[a3j] at hk;split at hk
  ·rename_i e;refine⟨_,_,_,_,hk,rh,?_⟩;rintro S ⟨A,ro,E,rfl⟩ mv K hK;have e':(Af P A ro E).nsub (nat (Af P A ro E) hi') (nat (Af P A ro E) lo')=0:=by rw[a0o,a0o];exact e
   simp only[a0a,h1,CA.to];refine hlo _ (hhi _ (And.intro h2 (And.intro h3 (And.intro h4 ?_))));rw[e'];exact hK
  ·rename_i m e;refine⟨_,_,_,_,hk,rh,?_⟩;rintro S ⟨A,ro,E,rfl⟩ mv K hK;have e':(Af P A ro E).nsub (nat (Af P A ro E) hi') (nat (Af P A ro E) lo')=m+1:=by rw[a0o,a0o];exact e
   simp only[a0a,h1,CA.to];refine hlo _ (hhi _ (And.intro h2 (And.intro h3 (And.intro h4 ?_))));rw[e',a0o];exact hK
 ·exact absurd hk AA
theorem d2c (r:RT t ts)(rh:RH P h hl){off:Nat}{x:a0h}(hk:c6l off x X t h k=AB):a0p P (.faddr off x) ts hl k:=by
 obtain⟨v,h1,hk⟩:=a0d r hk;split at hk
 ·rw[a3j] at hk;exact⟨_,_,_,_,hk,rh,fun S _ mv K hK=>by simp only[a0a,h1,CA.to];exact hK⟩
 ·rw[a3j] at hk;exact⟨_,_,_,_,hk,rh,fun S _ mv K hK=>by simp only[a0a,h1,CA.to];exact hK⟩
 ·rw[a3j] at hk;exact⟨_,_,_,_,hk,rh,fun S _ mv K hK=>by simp only[a0a,h1,CA.to];exact hK⟩
 ·exact absurd hk AA
theorem d2h (r:RT t ts)(rh:RH P h hl){off:Nat}{agg:Option Nat}{x:a0h}(hk:c6v off agg x X t h k=AB):a0p P (.field off agg x) ts hl k:=by
 obtain⟨v,h1,hk⟩:=a0d r hk;split at hk
 ·cases agg with
  |none=>obtain⟨v,h2,hk⟩:=a5k hk;exact⟨_,_,_,_,hk,rh,fun S _ mv K hK=>by simp only[a0a,h1,CA.to,CA.toL_get h2];exact hK⟩
  |some n=>obtain⟨c,h2,hk⟩:=b4l CA.to hk;refine⟨_,_,_,_,hk,rh,fun S _ mv K hK=> ?_⟩;simp only[a0a,h1,CA.to];rw[CA.toL_eq,h2,<-CA.toL_eq];exact hK
 ·exact absurd hk AA
theorem d3s (r:RT t ts)(rh:RH P h hl){sz:Nat}{x i:a0h}(hk:c9b sz x i X t h k=AB):a0p P (.iaddr sz x i) ts hl k:=by obtain⟨v,h1,hk⟩:=a0d r hk;obtain⟨n,rfl,hk⟩:=a2w hk;obtain⟨u,h2,hk⟩:=a0d r hk;obtain⟨w,hk,h3⟩:=b4s (P:=P) hk;refine⟨_,_,_,_,hk,rh,fun S hS mv K hK=> ?_⟩;simp only[a0a,h1,CA.to,CD.to,a9r,h2];exact h3 S hS _ hK
theorem c8r (r:RT t ts)(rh:RH P h hl){n sz:Nat}{x i:a0h}(hk:c2m n sz x i X t h k=AB):a0p P (.iaddrA n sz x i) ts hl k:=by
 obtain⟨v,h1,hk⟩:=a0d r hk;obtain⟨i',rfl,hk⟩:=a2w hk;obtain⟨u,h2,hk⟩:=a0d r hk;split at hk
 ·cases i' with
  |l i'=>
   cases i' with
   |ofNat m=>
    obtain⟨h3,hk⟩:=a0e hk;rw[a3j] at hk;refine⟨_,_,_,_,hk,rh,fun S _ mv K hK=> ?_⟩;have h4:BF (Ar m) (Ar m)=AB:=by rw[b9m];simp
    have e:(Ar m).toNat=m:=rfl;simp only[a0a,h1,CA.to,CD.to,a9r,h2,e,h3,h4,Am,if_true];exact hK
   |negSucc m=>exact absurd hk AA
  |v i'=>
   cases i' with
   |ofNat m=>obtain⟨h3,hk⟩:=a0e hk;rw[a3j] at hk;refine⟨_,_,_,_,hk,rh,?_⟩;rintro S ⟨A,ro,E,rfl⟩ mv K hK;have h4:m<n:=AF h3;simp only[a0a,h1,CA.to,CD.to,a9r,h2];exact⟨⟨Int.natCast_nonneg m,Int.ofNat_lt.2 h4⟩,hK⟩
   |negSucc m=>exact absurd hk AA
 ·exact absurd hk AA
theorem b1z {a b k:Bool}(h:a0w (match a with|true=>b|false=>AW b) k=AB):a=b/\k=AB:=by obtain⟨h1,h2⟩:=a0e h;exact⟨(by cases a<;>cases b<;>first|rfl|cases h1),h2⟩
theorem c9q (r:RT t ts)(rh:RH P h hl){wide:Bool}{ks:List AG}{ok:Bool}{m kx:a0h}(hk:c2a wide ks ok m kx X t h k=AB):a0p P (.lookup wide ks ok m kx) ts hl k:=by
 obtain⟨v,h1,hk⟩:=a0d r hk;split at hk
 ·obtain⟨o,ao,h2,hR,hk⟩:=rh.gets hk;cases o with
  |map wide' ks' n es=>
   cases hR;obtain⟨h3,hk⟩:=b1z hk;obtain⟨h4,hk⟩:=a0e hk;have h4:=b1i h4;obtain⟨u,h5,hk⟩:=a0d r hk;obtain⟨kc,hk,h6⟩:=a4j (P:=P) hk;have hk:=c1g hk;split at hk
   ·rename_i e;cases ok with
    |true=>refine⟨_,_,_,_,hk,rh,?_⟩;rintro S ⟨A,ro,E,rfl⟩ mv K hK;simp only[a0a,h1,CA.to,h2,h3,h4,and_self,if_true,h5];subst h3 h4;refine h6 _ ⟨A,ro,E,rfl⟩ _ ?_;simp only[Af,e];exact hK
    |false=>refine⟨_,_,_,_,hk,rh,?_⟩;rintro S ⟨A,ro,E,rfl⟩ mv K hK;simp only[a0a,h1,CA.to,h2,h3,h4,and_self,if_true,h5];subst h3 h4;refine h6 _ ⟨A,ro,E,rfl⟩ _ ?_;simp only[Af,e];exact hK
   ·rename_i e;cases ok with
    |true=>refine⟨_,_,_,_,hk,rh,?_⟩;rintro S ⟨A,ro,E,rfl⟩ mv K hK;simp only[a0a,h1,CA.to,h2,h3,h4,and_self,if_true,h5];subst h3 h4;refine h6 _ ⟨A,ro,E,rfl⟩ _ ?_;simp only[Af,e];exact hK
    |false=>refine⟨_,_,_,_,hk,rh,?_⟩;rintro S ⟨A,ro,E,rfl⟩ mv K hK;simp only[a0a,h1,CA.to,h2,h3,h4,and_self,if_true,h5];subst h3 h4;refine h6 _ ⟨A,ro,E,rfl⟩ _ ?_;simp only[Af,e];exact hK
  |_=>exact absurd hk AA
 ·exact absurd hk AA
theorem c8m (r:RT t ts)(rh:RH P h hl){wide:Bool}{ks:List AG}{m kx x:a0h}(hk:c2h wide ks m kx x X t h k=AB):a0p P (.mapupd wide ks m kx x) ts hl k:=by
 obtain⟨v,h1,hk⟩:=a0d r hk;split at hk
 ·obtain⟨o,ao,h2,hR,hk⟩:=rh.gets hk;cases o with
  |map wide' ks' n es=>
   cases hR;obtain⟨h3,hk⟩:=b1z hk;obtain⟨h4,hk⟩:=a0e hk;have h4:=b1i h4;obtain⟨u,h5,hk⟩:=a0d r hk;obtain⟨kc,hk,h6⟩:=a4j (P:=P) hk;obtain⟨w,h7,hk⟩:=a0d r hk;obtain⟨x',rfl,hk⟩:=a2w hk;have hk:=c1g hk;have hm: ∀(A:A4) (ro:Option Nat) (E:BE),(Af P A ro E).mset (b6n es) kc x'.val=b6n ((kc,x'.val)::es):=fun _ _ _=>rfl;split at hk
   ·rename_i e;obtain⟨h',hk,hr⟩:=rh.sets hk;refine⟨_,_,_,_,hk,hr _ rfl,?_⟩;rintro S ⟨A,ro,E,rfl⟩ mv K hK;have hc:(Af P A ro E).mcnt (b6n es) kc n=n:=by simp only[Af,e];rfl
    simp only[a0a,h1,CA.to,h2,h3,h4,and_self,if_true,h5,h7];subst h3 h4;refine h6 _ ⟨A,ro,E,rfl⟩ _ ?_;simp only[CD.to,a9r,hm,hc];exact hK
   ·rename_i e;rw[a3j] at hk;obtain⟨h',hk,hr⟩:=rh.sets hk;refine⟨_,_,_,_,hk,hr _ rfl,?_⟩;rintro S ⟨A,ro,E,rfl⟩ mv K hK;have hc:(Af P A ro E).mcnt (b6n es) kc n=n+1:=by simp only[Af,e];rfl
    simp only[a0a,h1,CA.to,h2,h3,h4,and_self,if_true,h5,h7];subst h3 h4;refine h6 _ ⟨A,ro,E,rfl⟩ _ ?_;simp only[CD.to,a9r,hm,hc];exact hK
  |_=>exact absurd hk AA
 ·exact absurd hk AA
theorem c4r (r:RT t ts)(rh:RH P h hl){wide:Bool}{ks:List AG}{ok:Bool}{z:AV}{m kx:a0h}(hk:b8n wide ks ok z m kx X t h k=AB):a0p P (.lookupv wide ks ok z m kx) ts hl k:=by
 obtain⟨z,ez,hk2⟩:=d0c hk;clear hk;subst ez;obtain⟨v,h1,hk⟩:=a0d r hk2;split at hk
 ·obtain⟨o,ao,h2,hR,hk⟩:=rh.gets hk;cases o with
  |mapv wide' ks' keys vals=>
   cases hR;obtain⟨h3,hk⟩:=b1z hk;obtain⟨h4,hk⟩:=a0e hk;have h4:=b1i h4;obtain⟨u,h5,hk⟩:=a0d r hk;obtain⟨kc,hk,h6⟩:=a4j (P:=P) hk;obtain⟨q,hk,e⟩:=c9f hk;cases q with
   |some q=>
    cases ok with
    |true=>refine⟨_,_,_,_,hk,rh,fun S hS mv K hK=> ?_⟩;simp only[a0a,h1,CA.to,h2,h3,h4,and_self,if_true,h5];subst h3 h4;refine h6 _ hS _ ?_;simp only[e];exact hK
    |false=>refine⟨_,_,_,_,hk,rh,fun S hS mv K hK=> ?_⟩;simp only[a0a,h1,CA.to,h2,h3,h4,and_self,if_true,h5];subst h3 h4;refine h6 _ hS _ ?_;simp only[e];exact hK
   |none=>
    cases ok with
    |true=>refine⟨_,_,_,_,hk,rh,fun S hS mv K hK=> ?_⟩;simp only[a0a,h1,CA.to,h2,h3,h4,and_self,if_true,h5];subst h3 h4;refine h6 _ hS _ ?_;simp only[e];exact hK
    |false=>refine⟨_,_,_,_,hk,rh,fun S hS mv K hK=> ?_⟩;simp only[a0a,h1,CA.to,h2,h3,h4,and_self,if_true,h5];subst h3 h4;refine h6 _ hS _ ?_;simp only[e];exact hK
  |_=>exact absurd hk AA
 ·exact absurd hk AA
theorem c5r (r:RT t ts)(rh:RH P h hl){wide:Bool}{ks:List AG}{m kx x:a0h}(hk:b6k wide ks m kx x X t h k=AB):a0p P (.mapupdv wide ks m kx x) ts hl k:=by
 obtain⟨v,h1,hk⟩:=a0d r hk;split at hk
 ·obtain⟨o,ao,h2,hR,hk⟩:=rh.gets hk;cases o with
  |mapv wide' ks' keys vals=>
   cases hR;obtain⟨h3,hk⟩:=b1z hk;obtain⟨h4,hk⟩:=a0e hk;have h4:=b1i h4;obtain⟨u,h5,hk⟩:=a0d r hk;obtain⟨kc,hk,h6⟩:=a4j (P:=P) hk;obtain⟨w,h7,hk⟩:=a0d r hk;obtain⟨q,hk,e⟩:=d3g hk;cases q with
   |some q=>obtain⟨h',hk,hr⟩:=rh.sets hk;refine⟨_,_,_,_,hk,hr _ rfl,fun S hS mv K hK=> ?_⟩;simp only[a0a,h1,CA.to,h2,h3,h4,and_self,if_true,h5,h7];subst h3 h4;refine h6 _ hS _ ?_;simp only[e];exact hK
   |none=>have hk:=a5i hk;have hk:=a5i hk;obtain⟨h',hk,hr⟩:=rh.sets hk;refine⟨_,_,_,_,hk,hr _ rfl,fun S hS mv K hK=> ?_⟩;simp only[a0a,h1,CA.to,h2,h3,h4,and_self,if_true,h5,h7];subst h3 h4;refine h6 _ hS _ ?_;simp only[e];simpa only[CA.to,e,Option.map_none,a0r,CA.toL_eq,Ab,Ag,Aq] using hK
  |_=>exact absurd hk AA
 ·exact absurd hk AA
theorem c4u (r:RT t ts)(rh:RH P h hl){x:a0h}{i:Nat}(hk:b6i x i X t h k=AB):a0p P (.extract x i) ts hl k:=by
 obtain⟨v,h1,hk⟩:=a0d r hk;split at hk
 ·obtain⟨v,h2,hk⟩:=a5k hk;exact⟨_,_,_,_,hk,rh,fun S _ mv K hK=>by simp only[a0a,h1,CA.to,CA.toL_get h2];exact hK⟩
 ·exact absurd hk AA
theorem e2r {v:CA}{cs:List AV}(h:v.to= .agg cs): ∃ds,v= .agg ds:=by cases v<;>simp[CA.to] at h;exact⟨_,rfl⟩
theorem e3o {v:CA}{l o:Nat}(h:v.to= .ptr l o):v= .ptr l o:=by cases v<;>simp[CA.to] at h;obtain⟨rfl,rfl⟩:=h;rfl
theorem c0m (r:RT t ts)(rh:RH P h hl){x:a0h}{i:Nat}(hk:b2x x i X t h k=AB):a0p P (.extractF x i) ts hl k:=by
 obtain⟨v,h1,hk⟩:=a0d r hk;split at hk
 ·obtain⟨v,h2,hk⟩:=a5k hk;have h2:=CA.toL_get h2;split at hk
  ·obtain⟨cs',h',hl',hk,rh',h3⟩:=a3r rh hk;refine⟨_,_,_,_,hk,rh',fun S hS mv K hK=> ?_⟩;simp only[a0a,h1,CA.to,h2];exact h3 S hS _ hK
  ·obtain⟨v',h',hl',hk,rh',h3⟩:=a7x rh hk;refine⟨_,_,_,_,hk,rh',fun S hS mv K hK=> ?_⟩;simp only[a0a,h1,CA.to,h2];exact h3 S hS _ hK
  ·rename_i v hne hne2;obtain⟨v',h',hl',hk,rh',h3⟩:=a9h rh hk;refine⟨_,_,_,_,hk,rh',fun S hS mv K hK=> ?_⟩;simp only[a0a,h1,CA.to,h2];split
   ·rename_i cs e;injection e with e
    obtain⟨ds,rfl⟩:=e2r e;exact absurd rfl (hne ds)
   ·rename_i l e;injection e with e
    have:=e3o e;exact absurd this (hne2 l)
   ·rename_i u _ _ e;injection e with e
    subst e;exact h3 S hS _ hK
   ·rename_i e;cases e
 ·exact absurd hk AA
theorem c4c (r:RT t ts)(rh:RH P h hl){sz b:Nat}{x y:a0h}(hk:b7u sz b x y X t h k=AB):a0p P (.appendP sz b x y) ts hl k:=by
 obtain⟨v,h1,hk⟩:=a0d r hk;obtain⟨u,h2,hk⟩:=a0d r hk;split at hk
 ·split at hk
  ·exact⟨_,_,_,_,hk,rh,fun S _ mv K hK=>by simp only[a0a,h1,h2,CA.to,CD.to];exact hK⟩
  ·obtain⟨h3,hk⟩:=a0e hk;obtain⟨h4,hk⟩:=a7t hk;refine⟨_,_,_,_,hk,rh,?_⟩;rintro S ⟨A,ro,E,rfl⟩ mv K hK;simp only[a0a,h1,h2,CA.to,CD.to,if_pos h3];exact⟨h4,hK⟩
  ·exact absurd hk AA
 ·exact absurd hk AA
theorem d2q {kc:List KC}{ks:List (List KC)}: ∀{n:Nat} {k:Option Nat->Bool},d1y kc ks n k=AB->k (c9t kc ks n)=AB:=by
 induction ks with
 |nil=>intro n k hk;exact hk
 |cons k' ks ih=>
  intro n k hk;unfold d1y at hk;cases e:d0y kc k' with
  |true=>
   rw[e] at hk;have:kc=k':=by rw[b2e] at e;exact of_decide_eq_true e
   rw[c9t,if_pos this.symm];exact hk
  |false=>
   rw[e] at hk;have: ¬kc=k':=by rw[b2e] at e;exact of_decide_eq_false e
   rw[c9t,if_neg (fun h=>this h.symm)];exact ih hk
theorem c6t (r:RT t ts)(rh:RH P h hl){wide:Bool}{ks:List AG}{z:AV}{m kx:a0h}(hk:c3h wide ks z m kx X t h k=AB):a0p P (.mapent wide ks z m kx) ts hl k:=by
 obtain⟨z,ez,hk2⟩:=d0c hk;clear hk;subst ez;obtain⟨v,h1,hk⟩:=a0d r hk2;split at hk
 ·obtain⟨o,ao,h2,hR,hk⟩:=rh.gets hk;cases o with
  |mapv wide' ks' keys vals=>
   cases hR;obtain⟨h3,hk⟩:=b1z hk;obtain⟨h4,hk⟩:=a0e hk;have h4:=b1i h4;obtain⟨u,h5,hk⟩:=a0d r hk;obtain⟨kc,hk,h6⟩:=a4j (P:=P) hk;have hk:=d2q hk;cases e:c9t kc keys 0 with
   |some i=>rw[e] at hk;obtain⟨y,h7,hk⟩:=a5k hk;have h7:=CA.toL_get h7;refine⟨_,_,_,_,hk,rh,?_⟩;rintro S ⟨A,ro,E,rfl⟩ mv K hK;simp only[a0a,h1,CA.to,h2,h3,h4,and_self,if_true,h5];subst h3 h4;refine h6 _ ⟨A,ro,E,rfl⟩ _ ?_;simp only[e,h7];exact hK
   |none=>
    rw[e] at hk;have hk:=a8k hk;have hk:=a5i hk;have hk:=a5i hk;obtain⟨h',hk,hr⟩:=rh.sets hk;refine⟨_,_,_,_,hk,hr _ rfl,?_⟩;rintro S ⟨A,ro,E,rfl⟩ mv K hK;simp only[a0a,h1,CA.to,h2,h3,h4,and_self,if_true,h5];subst h3 h4;refine h6 _ ⟨A,ro,E,rfl⟩ _ ?_;simp only[e];have hn:(Af P A ro E).ofNat (a3q keys)=Ar (A6+keys.length):=by rw[a0u,show A6+keys.length=keys.length from A9 _];rfl
    rw[hn];simpa only[CA.to,CA.toL,CD.to,a0r,CA.toL_eq,Ab,Ag,Aq] using hK
  |_=>exact absurd hk AA
 ·exact absurd hk AA
theorem d3t (r:RT t ts)(rh:RH P h hl){m s x:a0h}(hk:c8x m s x X t h k=AB):a0p P (.entst m s x) ts hl k:=by
 obtain⟨v,h1,hk⟩:=a0d r hk;split at hk
 ·obtain⟨o,ao,h2,hR,hk⟩:=rh.gets hk;cases o with
  |mapv wide ks keys vals=>
   cases hR;obtain⟨u,h5,hk⟩:=a0d r hk;obtain⟨n,rfl,hk⟩:=a2w hk;have hk:=a8k hk;obtain⟨hk,h6⟩:=b5x (P:=P) hk;obtain⟨y,h7,hk⟩:=a0d r hk;have hk:=c0d hk;obtain⟨h',hk,hr⟩:=rh.sets hk.2;refine⟨_,_,_,_,hk,hr _ rfl,fun S hS mv K hK=> ?_⟩;simp only[a0a,h1,CA.to,h2,h5,CD.to,a9r,h7];have hn:a3q (CA.toL vals)=A6+vals.length:=by rw[a0u,CA.toL_eq,Az];exact (A9 _).symm
   rw[hn];refine h6 S hS _ ?_;simpa only[CA.to,a0l,CA.toL_eq,Ap] using hK
  |_=>exact absurd hk AA
 ·exact absurd hk AA
end
section
variable {P:Ao} {X:XS} {t:TS} {ts:List AV} {h:CH} {hl:List a0f} {k:CA->CH->List Nat->Bool}
theorem d1t (v:CA):d9s v.to=(c6k v).to:=by
 cases v with
 |d x=>
  cases x with
  |raw u=>
   cases u with
   |func c us vs=>
    cases c with
    |func f=>simp only[c6k,d9s,CA.to,CD.to];show (if (AC us.size 0&&AC vs.size 0)=AB then _ else _)=CA.to (match AC us.size 0 with|true=>_|false=>_);cases AC us.size 0<;>cases AC vs.size 0<;>rfl
    |_=>rfl
   |_=>rfl
  |_=>rfl
 |_=>rfl
theorem d9b (x:XOk P X)(r:RT t ts)(rh:RH P h hl){f:a0h}{args:List a0h}{m:Mode}(hk:d5y f args m X t h k=AB):a0p P (.call f args m) ts hl k:=by
 obtain⟨v,h1,hk⟩:=a0d r hk;have h1:d9s (BG ts f)=(c6k v).to:=by rw[h1,d1t]
 revert h1 hk;generalize c6k v=v;intro hk h1;split at hk
 ·rename_i g first cap
  obtain⟨as,h2,hk⟩:=b0d r hk;have hk:=a5i hk;have hk:=a5i hk;have e:a2u (CA.toL first) (a2u (CA.toL as) (CA.toL cap))=CA.toL (first++(as++cap)):=by rw[a0r,a0r,CA.toL_eq,CA.toL_eq,CA.toL_eq,CA.toL_eq];simp
  cases m with
  |borrow=>obtain⟨vs,hk,h3⟩:=d0b rh hk;obtain⟨h4,hk⟩:=a7o hk;obtain⟨ws,hk,h5⟩:=a1p _ hk;obtain⟨u,hk,h6⟩:=x.pcall hk;refine⟨_,_,_,_,hk,rh,?_⟩;rintro S ⟨A,ro,E,rfl⟩ mv K hK;simp only[a0a,h1,CA.to,h2,e];refine h3 _ ⟨A,ro,E,rfl⟩ _ ?_;simp only[h4,if_true];rw[<-h5];exact⟨_,h6,hK⟩
  |share=>obtain⟨vs,h',hl',hk,rh',h3⟩:=b2g rh hk;obtain⟨h4,hk⟩:=a7o hk;obtain⟨ws,hk,h5⟩:=a1p _ hk;obtain⟨u,hk,h6⟩:=x.pcall hk;refine⟨_,_,_,_,hk,rh',?_⟩;rintro S ⟨A,ro,E,rfl⟩ mv K hK;simp only[a0a,h1,CA.to,h2,e];refine h3 _ ⟨A,ro,E,rfl⟩ _ ?_;simp only[h4,if_true];rw[<-h5];exact⟨_,h6,hK⟩
  |data=>obtain⟨h4,hk⟩:=a7o hk;obtain⟨ws,hk,h5⟩:=a1p _ hk;obtain⟨u,hk,h6⟩:=x.pcall hk;refine⟨_,_,_,_,hk,rh,?_⟩;rintro S ⟨A,ro,E,rfl⟩ mv K hK;simp only[a0a,h1,CA.to,h2,e,h4,if_true];rw[<-h5];exact⟨_,h6,hK⟩
  |raw=>obtain⟨ws,hk,h5⟩:=a1p _ hk;obtain⟨pg,u,h',hl',hk,rh',h6⟩:=x.call rh hk;refine⟨_,_,_,_,hk,rh',?_⟩;rintro S ⟨A,ro,E,rfl⟩ mv K hK;simp only[a0a,h1,CA.to,h2,e];rw[<-h5];exact h6 (fun pg v h''=>K v h'' pg) hK
  |fresh=>exact absurd hk AA
 ·rename_i l;split at hk
  ·obtain⟨as,h2,hk⟩:=b0d r hk;obtain⟨ws,hk,h5⟩:=a1p _ hk;obtain⟨pg,u,h',hl',hk,rh',h6⟩:=x.yld rh hk;refine⟨_,_,_,_,hk,rh',?_⟩;rintro S ⟨A,ro,E,rfl⟩ mv K hK;simp only[a0a,h1,CA.to,h2,if_true];rw[<-h5];exact h6 (fun pg v h''=>K v h'' pg) hK
  ·exact absurd hk AA
 ·exact absurd hk AA
theorem e2d (r:RT t ts)(rh:RH P h hl){x:a0h}(hk:e2a x X t h k=AB):a0p P (.len x) ts hl k:=by
 obtain⟨v,h1,hk⟩:=a0d r hk;split at hk<;>first
  |exact absurd hk AA
  |(refine⟨_,_,_,_,hk,rh,?_⟩
    rintro S ⟨A,ro,E,rfl⟩ mv K hK;simp only[a0a,h1,CA.to,CD.to];exact hK)
theorem d8a (r:RT t ts)(rh:RH P h hl){x:a0h}(hk:d4x x X t h k=AB):a0p P (.lenm x) ts hl k:=by
 obtain⟨v,h1,hk⟩:=a0d r hk;split at hk
 ·obtain⟨o,ao,h2,hR,hk⟩:=rh.gets hk;cases o with
  |map wide' ks' n es=>cases hR;refine⟨_,_,_,_,hk,rh,?_⟩;rintro S ⟨A,ro,E,rfl⟩ mv K hK;simp only[a0a,h1,CA.to,h2];exact hK
  |_=>exact absurd hk AA
 ·exact absurd hk AA
theorem e1a (r:RT t ts)(rh:RH P h hl){x:a0h}(hk:e1w x X t h k=AB):a0p P (.cap x) ts hl k:=by
 obtain⟨v,h1,hk⟩:=a0d r hk;split at hk
 ·obtain⟨o,ao,h2,hR,hk⟩:=rh.gets hk;cases o with
  |arr sz' n' e=>
   cases hR;obtain⟨h3,hk⟩:=a0e hk;split at hk
   ·refine⟨_,_,_,_,hk,rh,?_⟩;rintro S ⟨A,ro,E,rfl⟩ mv K hK;simp only[a0a,h1,CA.to,h2,h3,if_true];exact hK
   ·split at hk
    ·refine⟨_,_,_,_,hk,rh,?_⟩;rintro S ⟨A,ro,E,rfl⟩ mv K hK;simp only[a0a,h1,CA.to,h2,h3,if_true];exact hK
    ·rw[a3j] at hk;refine⟨_,_,_,_,hk,rh,?_⟩;rintro S ⟨A,ro,E,rfl⟩ mv K hK;simp only[a0a,h1,CA.to,h2,h3,if_true];exact hK
  |_=>exact absurd hk AA
 ·exact absurd hk AA
theorem e2v (r:RT t ts)(rh:RH P h hl){x y:a0h}(hk:e3l x y X t h k=AB):a0p P (.min x y) ts hl k:=by
 obtain⟨v,h1,hk⟩:=a0d r hk;obtain⟨u,h2,hk⟩:=a0d r hk;split at hk
 ·split at hk
  ·obtain⟨h3,hk⟩:=a0e hk;have e:=a3y h3;split at hk
   ·rename_i c;rw[b2c] at c;refine⟨_,_,_,_,hk,rh,?_⟩;rintro S ⟨A,ro,E,rfl⟩ mv K hK;simp only[a0a,h1,h2,CA.to,CD.to,e,if_true];simp only[Af,c,if_true];rw[e] at hK;exact hK
   ·rename_i c;rw[b2c] at c;refine⟨_,_,_,_,hk,rh,?_⟩;rintro S ⟨A,ro,E,rfl⟩ mv K hK;simp only[a0a,h1,h2,CA.to,CD.to,e,if_true];simp only[Af,c];rw[e] at hK;exact hK
  ·exact absurd hk AA
 ·exact absurd hk AA
theorem e1v (r:RT t ts)(rh:RH P h hl){x y:a0h}(hk:e1f x y X t h k=AB):a0p P (.max x y) ts hl k:=by
 obtain⟨v,h1,hk⟩:=a0d r hk;obtain⟨u,h2,hk⟩:=a0d r hk;split at hk
 ·split at hk
  ·obtain⟨h3,hk⟩:=a0e hk;have e:=a3y h3;split at hk
   ·rename_i c;rw[b2c] at c;refine⟨_,_,_,_,hk,rh,?_⟩;rintro S ⟨A,ro,E,rfl⟩ mv K hK;simp only[a0a,h1,h2,CA.to,CD.to,e,if_true];simp only[Af,c,if_true];rw[e] at hK;exact hK
   ·rename_i c;rw[b2c] at c;refine⟨_,_,_,_,hk,rh,?_⟩;rintro S ⟨A,ro,E,rfl⟩ mv K hK;simp only[a0a,h1,h2,CA.to,CD.to,e,if_true];simp only[Af,c];rw[e] at hK;exact hK
  ·exact absurd hk AA
 ·exact absurd hk AA
theorem c8j (r:RT t ts)(rh:RH P h hl){sz b:Nat}{x y:a0h}{mu:Bool}(hk:c2g sz b x y mu X t h k=AB):a0p P (.append sz b x y mu) ts hl k:=by obtain⟨v,h1,hk⟩:=a0d r hk;obtain⟨u,h2,hk⟩:=a0d r hk;obtain⟨w,h',hl',pg,hk,rh',h3⟩:=a6p rh hk;refine⟨_,_,_,_,hk,rh',fun S hS mv K hK=> ?_⟩;simp only[a0a,h1,h2];exact h3 S hS _ hK
theorem d8d (r:RT t ts)(rh:RH P h hl){sz:Nat}{x y:a0h}(hk:d5o sz x y X t h k=AB):a0p P (.copy sz x y) ts hl k:=by obtain⟨v,h1,hk⟩:=a0d r hk;obtain⟨u,h2,hk⟩:=a0d r hk;obtain⟨w,h',hl',hk,rh',h3⟩:=b7m rh hk;refine⟨_,_,_,_,hk,rh',fun S hS mv K hK=> ?_⟩;simp only[a0a,h1,h2];exact h3 S hS _ hK
theorem b9k (r:RT t ts)(rh:RH P h hl){sz:Nat}{x y:a0h}(hk:b3i sz x y X t h k=AB):a0p P (.appendIn sz x y) ts hl k:=by obtain⟨v,h1,hk⟩:=a0d r hk;obtain⟨u,h2,hk⟩:=a0d r hk;obtain⟨w,h',hl',hk,rh',h3⟩:=b5i rh hk;refine⟨_,_,_,_,hk,rh',fun S hS mv K hK=> ?_⟩;simp only[a0a,h1,h2];exact h3 S hS _ hK
theorem d1q (r:RT t ts)(rh:RH P h hl){sz:Nat}{zs:List DV}{x:a0h}(hk:c6w sz zs x X t h k=AB):a0p P (.clear sz zs x) ts hl k:=by
 obtain⟨cs,ez,hk2⟩:=a5s hk;clear hk;subst ez;obtain⟨v,h1,hk⟩:=a0d r hk2;split at hk
 ·obtain⟨h2,hk⟩:=a0e hk;obtain⟨o,ao,h3,hR,hk⟩:=rh.gets hk;cases o with
  |arr sz'' n' e=>cases hR;obtain⟨h4,hk⟩:=a0e hk;have hk:=a6x (P:=P) (A:={}) (ro:=AP) (E:=E0) hk;obtain⟨h6,hk⟩:=a7t hk;have hk:=b1q hk;obtain⟨h7,h8,hk⟩:=b9z hk;obtain⟨h',hk,hr⟩:=rh.sets hk;refine⟨_,_,_,_,hk,hr _ rfl,?_⟩;rintro S ⟨A,ro,E,rfl⟩ mv K hK;simp only[a0a,h1,CA.to,h2,h3,h4,if_true];rw[b4x (P:=P) (A:=A) (ro:=ro) (E:=E) h7 h8,b2z,b5k (P:=P) (A:=A) (ro:=ro) (E:=E)] at hK;exact And.intro h6 hK
  |_=>exact absurd hk AA
 ·exact absurd hk AA
theorem d3v (r:RT t ts)(rh:RH P h hl){neg:Bool}{x:a0h}(hk:c7u neg x X t h k=AB):a0p P (.isnil neg x) ts hl k:=by
 obtain⟨v,h1,hk⟩:=a0d r hk;split at hk
 ·cases neg<;>
  ·refine⟨_,_,_,_,hk,rh,?_⟩;rintro S ⟨A,ro,E,rfl⟩ mv K hK;simp only[a0a,h1,CA.to,CD.to];exact hK
 ·obtain⟨h2,hk⟩:=a9m hk;refine⟨_,_,_,_,hk,rh,?_⟩;rintro S ⟨A,ro,E,rfl⟩ mv K hK;simp only[a0a,h1,CA.to,CD.to];exact And.intro h2 hK
 ·obtain⟨h2,hk⟩:=a9m hk;refine⟨_,_,_,_,hk,rh,?_⟩;rintro S ⟨A,ro,E,rfl⟩ mv K hK;simp only[a0a,h1,CA.to];exact And.intro h2 hK
 ·obtain⟨h2,hk⟩:=a9m hk;refine⟨_,_,_,_,hk,rh,?_⟩;rintro S ⟨A,ro,E,rfl⟩ mv K hK;simp only[a0a,h1,CA.to];exact And.intro h2 hK
 ·exact absurd hk AA
theorem c9a (r:RT t ts)(rh:RH P h hl){sz:Nat}{x:a0h}{lo hi:Option a0h}(hk:c1r sz x lo hi X t h k=AB):a0p P (.slicex sz x lo hi) ts hl k:=by
 obtain⟨v,h1,hk⟩:=a0d r hk;split at hk
 ·obtain⟨h2,hk⟩:=a0e hk;obtain⟨o,ao,h3,hR,hk⟩:=rh.gets hk;cases o with
  |arr sz'' n' e=>cases hR;obtain⟨h4,hk⟩:=a0e hk;obtain⟨lo',hk,hlo⟩:=a2v r hk;obtain⟨hi',hk,hhi⟩:=a2v r hk;obtain⟨h5,hk⟩:=a1v hk;obtain⟨h6,hk⟩:=a1v hk;have hk:=a3e hk;have hk:=a6x (P:=P) (A:={}) (ro:=AP) (E:=E0) hk;obtain⟨h7,hk⟩:=a7t hk;have hk:=a3e hk;rw[a3j] at hk;obtain⟨s',hk,h8⟩:=a6b (P:=P) hk;refine⟨_,_,_,_,hk,rh,?_⟩;rintro S ⟨A,ro,E,rfl⟩ mv K hK;simp only[a0a,h1,CA.to,h2,h3,h4,if_true];refine hlo _ (hhi _ (And.intro h5 (And.intro h6 ?_)));rw[h8 _ ⟨A,ro,E,rfl⟩,a0o,a0o];exact And.intro h7 hK
  |_=>exact absurd hk AA
 ·exact absurd hk AA
theorem d8y (r:RT t ts)(rh:RH P h hl){l:List UInt8}{x:a0h}(hk:d5k l x X t h k=AB):a0p P (.idxs l x) ts hl k:=by
 obtain⟨v,h1,hk⟩:=a0d r hk;split at hk
 ·rename_i i;have hk:=a3e hk;obtain⟨h2,hk⟩:=a1v hk;obtain⟨b,h3,hk⟩:=a5k hk;rw[a3j] at hk;refine⟨_,_,_,_,hk,rh,?_⟩;rintro S ⟨A,ro,E,rfl⟩ mv K hK;have hlt:=(AH.1 h3).1;simp only[a0a,h1,CA.to,CD.to];refine And.intro (show (0:Int)<=_/\_<((a3q l:Nat):Int) from⟨h2,by rw[a0u];simp only[AI] at h2;omega⟩) ?_;have e:(Af P A ro E).sidx l (IX.val ‹IX›)=((b.toNat:Nat):Int):=by simp only[Af,List.getD_eq_getElem?_getD,h3,Option.getD_some]
  rw[e];exact hK
 ·exact absurd hk AA
theorem b2f (r:RT t ts){sz sz' n:Nat}{lo hi mx:Option a0h}{k:Unit->Bool}(hk:b4a t sz sz' n lo hi mx k=AB):k ()=AB/\ ∀S,Sd P S-> ∀K:Prop,K->a4h S ts sz sz' n lo hi mx K:=by obtain⟨h1,hk⟩:=a0e hk;obtain⟨lo',hk,hlo⟩:=a2v r hk;obtain⟨hi',hk,hhi⟩:=a2v r hk;obtain⟨mx',hk,hmx⟩:=a2v r hk;obtain⟨h2,hk⟩:=a1v hk;obtain⟨h3,hk⟩:=a1v hk;obtain⟨h4,hk⟩:=a1v hk;obtain⟨h5,hk⟩:=a1v hk;refine⟨hk,?_⟩;rintro S ⟨A,ro,E,rfl⟩ K hK;simp only[a4h,h1,if_true];exact hlo _ (hhi _ (hmx _ (And.intro h2 (And.intro h3 (And.intro h4 (And.intro h5 hK))))))
theorem d2n (r:RT t ts)(rh:RH P h hl){sz:Nat}{x:a0h}{lo hi mx:Option a0h}(hk:c7e sz x lo hi mx X t h k=AB):a0p P (.slchk sz x lo hi mx) ts hl k:=by
 obtain⟨v,h1,hk⟩:=a0d r hk;split at hk
 ·obtain⟨hk,h2⟩:=b2f (P:=P) r hk;refine⟨_,_,_,_,hk,rh,fun S hS mv K hK=> ?_⟩;simp only[a0a,h1,CA.to];exact h2 S hS _ hK
 ·obtain⟨hk,h2⟩:=b2f (P:=P) r hk;refine⟨_,_,_,_,hk,rh,fun S hS mv K hK=> ?_⟩;simp only[a0a,h1,CA.to,CD.to];exact h2 S hS _ hK
 ·exact absurd hk AA
theorem e1e (r:RT t ts)(rh:RH P h hl){x y:a0h}(hk:e0z x y X t h k=AB):a0p P (.ovl x y) ts hl k:=by
 obtain⟨v,h1,hk⟩:=a0d r hk;obtain⟨u,h2,hk⟩:=a0d r hk;split at hk
 ·split at hk
  ·split at hk
   ·exact absurd hk AA
   ·rename_i hne;obtain⟨h3,hk⟩:=a9m hk;obtain⟨h4,hk⟩:=a9m hk;obtain⟨o,ao,h5,hR,hk⟩:=rh.gets hk;cases o with
    |arr sz n e=>
     cases hR;obtain⟨o',ao',h6,hR',hk⟩:=rh.gets hk;cases o' with
     |arr sz' n' e'=>cases hR';obtain⟨h7,hk⟩:=a0e hk;obtain⟨h8,hk⟩:=a0e hk;obtain⟨h9,hk⟩:=a9m hk;refine⟨_,_,_,_,hk,rh,?_⟩;rintro S ⟨A,ro,E,rfl⟩ mv K hK;have e1:=AD h7;have e2:=AD h8;subst e1 e2;simp only[a0a,h1,h2,CA.to,hne];refine And.intro h3 (And.intro h4 ?_);simp only[h5,h6];exact And.intro h9 hK
     |_=>exact absurd hk AA
    |_=>exact absurd hk AA
  ·exact absurd hk AA
 ·exact absurd hk AA
theorem b6a {v:CA}(h:a8t v=AB):a4d v.to=AB:=by
 unfold a8t at h;split at h
 ·rfl
 ·have:=AD h;subst this;rfl
 ·have:=AD h;subst this;rfl
 ·have:=AD h;subst this;rfl
 ·cases h
theorem b6x {v:CA}(h:a8t v=AE):a4d v.to=AE:=by
 unfold a8t at h;split at h
 ·cases h
 ·rename_i n _;cases n with
  |zero=>cases h
  |succ n=>rfl
 ·rename_i n _;cases n with
  |zero=>cases h
  |succ n=>rfl
 ·rename_i n _;cases n with
  |zero=>cases h
  |succ n=>rfl
 ·rename_i h1 h2 h3 h4;cases v with
  |d x=>cases x<;>first|rfl|exact (h1 rfl).elim|exact (h2 _ _ _ rfl).elim
  |dfs=>exact (h3 _ _ _ rfl).elim
  |msl=>exact (h4 _ _ _ _ _ rfl).elim
  |_=>rfl
theorem d1j {v:CA}(h:c6n v=AE):v.to≠ .d .nil:=by intro e;rw[CA.to_nil e] at h;cases h
theorem d6z {v:CA}{s:Nat}{e:Nat->List DV}(h:v.to= .dfs s 0 e):d1e v=AB:=by cases v<;>simp[CA.to] at h;obtain⟨_,rfl,_⟩:=h;rfl
theorem c5f (r:RT t ts)(rh:RH P h hl){sz b:Nat}{x y:a0h}{mu:Bool}(hk:b6u sz b x y mu X t h k=AB):a0p P (.appendN sz b x y mu) ts hl k:=by
 obtain⟨v,h1,hk⟩:=a0d r hk;obtain⟨u,h2,hk⟩:=a0d r hk;have gen: ¬((v.to= .d .nil\/d1e v=AB)/\a4d u.to=AB)->a2c h sz v u mu k=AB->a0p P (.appendN sz b x y mu) ts hl k:=by
  intro hne hk;obtain⟨w,h',hl',pg,hk,rh',h3⟩:=a6p rh hk;refine⟨_,_,_,_,hk,rh',fun S hS mv K hK=> ?_⟩;simp only[a0a,h1,h2];split
  ·rename_i e1 e2;exact (hne ⟨.inl e1,e2⟩).elim
  ·rename_i e1 e2;exact (hne ⟨.inr (d6z e1),e2⟩).elim
  ·exact h3 S hS _ hK
 split at hk
 ·rename_i e;split at hk
  ·rename_i e2;have hv:v.to= .d .nil:=by
    unfold c6n at e;split at e
    ·rfl
    ·cases e
   refine⟨_,_,_,_,hk,rh,fun S hS mv K hK=> ?_⟩;simp only[a0a,h1,h2,hv,b6a e2];exact hK
  ·rename_i e2;exact gen (fun c=>by rw[b6x e2] at c;cases c.2) hk
 ·rename_i e;split at hk
  ·rename_i e3;split at hk
   ·rename_i e2;obtain⟨s0,r0,rfl⟩: ∃s r,v= .dfs s 0 r:=by
     unfold d1e at e3;split at e3
     ·rename_i a b c;have:=AD e3;subst this;exact⟨_,_,rfl⟩
     ·cases e3
    refine⟨_,_,_,_,hk,rh,fun S hS mv K hK=> ?_⟩;simp only[a0a,h1,h2,CA.to,b6a e2];exact hK
   ·rename_i e2;exact gen (fun c=>by rw[b6x e2] at c;cases c.2) hk
  ·rename_i e3;exact gen (fun c=>by
    rcases c.1 with c|c
    ·exact d1j e c
    ·rw[e3] at c;cases c) hk
theorem c4m (rh:RH P h hl){sz:Nat}(hk:b8i sz X t h k=AB):a0p P (.bslice0 sz) ts hl k:=
 ⟨_,_,_,_,hk,rh,fun S _ mv K hK=>by simp only[a0a];exact hK⟩
theorem a5v (x:XOk P X)(r:RT t ts)(rh:RH P h hl){o:IOp}(hk:c0a X o t h k=AB):a0p P o ts hl k:=by
 cases o with
 |mv=>exact f2b (X:=X) r rh hk
 |newnil=>exact d0q (X:=X) (t:=t) rh hk
 |bnew=>exact d7y (X:=X) (t:=t) rh hk
 |pick=>exact d7n (X:=X) r rh hk
 |alloc=>exact d1m (X:=X) (t:=t) rh hk
 |box=>exact e0v (X:=X) r rh hk
 |build=>exact d3d (X:=X) r rh hk
 |bslice=>exact c7k (X:=X) r rh hk
 |load=>exact d8o (X:=X) r rh hk
 |store=>exact d2y (X:=X) r rh hk
 |nilchk=>exact c7v (X:=X) r rh hk
 |bin=>exact e3q (X:=X) r rh hk
 |binb=>exact d7j (X:=X) r rh hk
 |aeq=>exact e2e (X:=X) r rh hk
 |un=>exact f1n (X:=X) r rh hk
 |conv=>exact d9m (X:=X) r rh hk
 |mkfn=>exact d8q (X:=X) r rh hk
 |mkmap=>exact d4g (X:=X) (t:=t) rh hk
 |mkslice=>exact c5q (X:=X) r rh hk
 |slice=>exact d3u (X:=X) r rh hk
 |slarr=>exact d2u (X:=X) r rh hk
 |faddr=>exact d2c (X:=X) r rh hk
 |field=>exact d2h (X:=X) r rh hk
 |iaddr=>exact d3s (X:=X) r rh hk
 |iaddrA=>exact c8r (X:=X) r rh hk
 |lookup=>exact c9q (X:=X) r rh hk
 |mapupd=>exact c8m (X:=X) r rh hk
 |extract=>exact c4u (X:=X) r rh hk
 |call=>exact d9b x r rh hk
 |len=>exact e2d (X:=X) r rh hk
 |lenm=>exact d8a (X:=X) r rh hk
 |cap=>exact e1a (X:=X) r rh hk
 |min=>exact e2v (X:=X) r rh hk
 |append=>exact c8j (X:=X) r rh hk
 |copy=>exact d8d (X:=X) r rh hk
 |bad=>exact absurd hk AA
 |appendIn=>exact b9k (X:=X) r rh hk
 |clear=>exact d1q (X:=X) r rh hk
 |isnil=>exact d3v (X:=X) r rh hk
 |slicex=>exact c9a (X:=X) r rh hk
 |idxs=>exact d8y (X:=X) r rh hk
 |slchk=>exact d2n (X:=X) r rh hk
 |ovl=>exact e1e (X:=X) r rh hk
 |appendN=>exact c5f (X:=X) r rh hk
 |bw=>exact f1u (X:=X) r rh hk
 |max=>exact e1v (X:=X) r rh hk
 |aeqw=>exact d6p (X:=X) r rh hk
 |mkmapv=>exact c8c (X:=X) (t:=t) rh hk
 |lookupv=>exact c4r (X:=X) r rh hk
 |mapupdv=>exact c5r (X:=X) r rh hk
 |bsliceP=>exact c4z (X:=X) r rh hk
 |extractF=>exact c0m (X:=X) r rh hk
 |mapent=>exact c6t (X:=X) r rh hk
 |appendP=>exact c4c (X:=X) r rh hk
 |bslice0=>exact c4m (X:=X) (t:=t) rh hk
 |entst=>exact d3t (X:=X) r rh hk
 |bnewv=>exact absurd hk AA
 |appendV=>exact absurd hk AA
 |bnewm=>exact absurd hk AA
end
structure SR (P:Ao)(base:Nat)(t:TS)(h:CH)(mv:List Nat)(st:St):Prop where
 ts:RT t st.ts
 h:RH P h st.h
 mv:MV base st.mv mv
theorem d3l (pg:List Nat): ∀(st:St) (m:Nat),m∈(st.purge pg).mv->m∈pg\/m∈st.mv:=by
 induction pg with
 |nil=>intro st m h;exact .inr h
 |cons l pg ih=>
  intro st m h;rcases ih _ m h with h|h
  ·exact .inl (by simp[h])
  ·rcases AS.1 h with h|h
   ·exact .inl (by simp[h])
   ·exact .inr h
def f7m (g:Option (Nat×Bool))(st:St):Prop:= ∃j want,g=AM (j,want)/\(a1a st.ts j=AM .und\/ ∃b,a1a st.ts j=AM (.d (.bool b))/\b≠want)
def GOn (g:Option (Nat×Bool))(st:St):Prop:=g=AP\/ ∃j want,g=AM (j,want)/\a1a st.ts j=AM (.d (.bool want))
theorem a5q {st:St}{j:Nat}{b:Bool}(h:a1a st.ts j=AM (.d (.bool b))):st.setb j b=st:=by
 obtain⟨ts,hl,mv⟩:=st;simp only[St.setb,St.put,a0l];rw[a0i] at h;congr 1;refine Ax fun i=> ?_;by_cases e:i=j
 ·subst e;have h':ts[i]? =AM (.d (.bool b)):=h;rw[List.getElem?_set,if_pos rfl,if_pos (AH.1 h').1];exact h'.symm
 ·rw[Aa (Ai e)]
section
variable {P:Ao} {X:XS} {base:Nat} {t:TS} {h:CH} {mv:List Nat} {st:St}
theorem d3h (r:RT t st.ts){dst:Option Nat}{v:CA}{k:TS->Bool}(hk:a6h dst v t k=AB): ∃t',RT t' (st.put dst v.to).ts/\k t'=AB:=by
 cases dst with
 |none=>exact⟨t,r,hk⟩
 |some d=>exact r.set (i:=d) hk
theorem e4z (st:St)(dst:Option Nat)(v:AV):(st.put dst v).h=st.h:=by cases dst<;>rfl
theorem d6n (st:St)(dst:Option Nat)(v:AV):(st.put dst v).mv=st.mv:=by cases dst<;>rfl
theorem a2o (r:SR P base t h mv st){dst:Option Nat}{v:CA}{k:TS->Bool}(hk:a6h dst v t k=AB): ∃t',SR P base t' h mv (st.put dst v.to)/\k t'=AB:=by obtain⟨t',h1,h2⟩:=d3h r.ts hk;exact⟨t',⟨h1,by rw[e4z];exact r.h,by rw[d6n];exact r.mv⟩,h2⟩
theorem a3p (r:RT t st.ts)(hm:MV base st.mv mv){h':CH}{hl':List a0f}(rh:RH P h' hl'){pg:List Nat}{k:TS->List Nat->Bool}
 (hk:a6k pg t (fun ts=>a9x base pg mv fun mv=>k ts mv)=AB): ∃t' mv',SR P base t' h' mv' ((st.setH hl').purge pg)/\k t' mv'=AB:=by
 obtain⟨t',hk,r'⟩:=c8l r hk;obtain⟨mv',hk,h1,h2⟩:=d1k hk;have hp:=a1r pg (st.setH hl');refine⟨t',mv',⟨by rw[hp.1];exact r',by rw[hp.2];exact rh,fun m hb hin=> ?_⟩,hk⟩;rcases d3l pg _ m hin with h|h
 ·exact h2 m h hb
 ·exact h1 m (hm m hb h)
theorem c6g (r:RT t st.ts)(hm:MV base st.mv mv){h':CH}{hl':List a0f}(rh:RH P h' hl'){dst:Option Nat}{v:CA}{pg:List Nat}{k:TS->CH->List Nat->Bool}
 (hk:c9g base dst t mv k v h' pg=AB): ∃t' mv',SR P base t' h' mv' (((st.setH hl').purge pg).put dst v.to)/\k t' h' mv'=AB:=by
 unfold c9g at hk;split at hk
 ·obtain⟨t',h1,h2⟩:=a2o (P:=P) (base:=base) (st:=st.setH hl') ⟨r,rh,hm⟩ hk;exact⟨t',mv,h1,h2⟩
 ·obtain⟨t',mv',h1,hk⟩:=a3p r hm rh (k:=fun ts mv=>a6h dst v ts fun ts=>k ts h' mv) hk;obtain⟨t'',h2,hk⟩:=a2o h1 hk;exact⟨t'',mv',h2,hk⟩
theorem e1k (x:XOk P X)(r:SR P base t h mv st){o:a1c}{k:TS->CH->List Nat->Bool}(hk:xop X base o.op o.dst t h mv k=AB):
 ∃t' h' mv' st',k t' h' mv'=AB/\SR P base t' h' mv' st'/\ ∀S,Sd P S-> ∀K:St->Prop,K st'->e0g S o st K:=by
 obtain⟨v,h',hl',pg,hk,rh',h1⟩:=a5v x r.ts r.h hk;obtain⟨t',mv',h2,hk⟩:=c6g r.ts r.mv rh' hk;exact⟨t',h',mv',_,hk,h2,fun S hS K hK=>h1 S hS _ (fun v h pg=>K (((st.setH h).purge pg).put o.dst v)) hK⟩
theorem b0y (r:RT t st.ts){g:Option (Nat×Bool)}{off on:Unit->Bool}(hk:c2o g t off on=AB):(off ()=AB/\f7m g st)\/(on ()=AB/\GOn g st):=by
 cases g with
 |none=>exact .inr ⟨hk,.inl rfl⟩
 |some g=>
  obtain⟨j,want⟩:=g;obtain⟨v,h1,hk⟩:=r.get (i:=j) (k:=xgV want off on) hk;unfold xgV at hk;split at hk
  ·rename_i b;cases b<;>cases want
   ·exact .inr ⟨hk,.inr ⟨j,_,rfl,h1⟩⟩
   ·exact .inl ⟨hk,j,_,rfl,.inr ⟨_,h1,by simp⟩⟩
   ·exact .inl ⟨hk,j,_,rfl,.inr ⟨_,h1,by simp⟩⟩
   ·exact .inr ⟨hk,.inr ⟨j,_,rfl,h1⟩⟩
  ·exact .inl ⟨hk,j,want,rfl,.inl h1⟩
  ·exact absurd hk AA
theorem a7h {o:a1c}{st:St}{off on:St->Prop}(hg:f7m o.guard st)(h:off st):a2t o st off on:=by
 obtain⟨j,want,h1,h2|⟨b,h2,h3⟩⟩:=hg
 ·simp only[a2t,h1,h2];exact h
 ·simp only[a2t,h1,h2];cases b<;>cases want
  ·exact absurd rfl h3
  ·simp only[a5q h2,if_true];exact h
  ·simp only[a5q h2];exact h
  ·exact absurd rfl h3
theorem a5y {o:a1c}{st:St}{off on:St->Prop}(hg:GOn o.guard st)(h:on st):a2t o st off on:=by
 rcases hg with h1|⟨j,want,h1,h2⟩
 ·simp only[a2t,h1];exact h
 ·simp only[a2t,h1,h2];cases want
  ·simp only[a5q h2];exact h
  ·simp only[a5q h2,if_true];exact h
theorem a8h {S:Sig}{o:a1c}{st:St}{K:St->Prop}(h:a2t o st (fun st=>K (st.put o.dst .und)) fun st=>e0g S o st K):c4b S o st K:=by
 obtain⟨dst,g,op⟩:=o;cases g with
 |none=>exact h
 |some g=>
  obtain⟨j,want⟩:=g;simp only[a2t] at h;simp only[c4b];cases e:a1a st.ts j with
  |none=>rw[e] at h;exact h.elim
  |some v=>
   rw[e] at h;cases v with
   |d x=>
    cases x with
    |bool b=>cases b<;>cases want<;>exact h
    |_=>exact h.elim
   |und=>exact h
   |_=>exact h.elim
theorem d3m (x:XOk P X)(r:SR P base t h mv st){o:a1c}{k:TS->CH->List Nat->Bool}(hk:e1m X base o t h mv k=AB):
 ∃t' h' mv' st',k t' h' mv'=AB/\SR P base t' h' mv' st'/\ ∀S,Sd P S-> ∀K:St->Prop,K st'->c4b S o st K:=by
 obtain⟨dst,g,op⟩:=o;rcases b0y (g:=g) r.ts hk with⟨hk,hg⟩|⟨hk,hg⟩
 ·obtain⟨t',h1,hk⟩:=a2o r (v:= .und) hk;exact⟨t',h,mv,_,hk,h1,fun S hS K hK=>a8h (a7h (o:=⟨dst,g,op⟩) hg hK)⟩
 ·obtain⟨t',h',mv',st',hk,h1,h2⟩:=e1k x r (o:=⟨dst,g,op⟩) hk;exact⟨t',h',mv',st',hk,h1,fun S hS K hK=>a8h (a5y (o:=⟨dst,g,op⟩) hg (h2 S hS K hK))⟩
theorem d8v (x:XOk P X){l:List a1c}: ∀{t:TS} {h:CH} {mv:List Nat} {st:St} (_:SR P base t h mv st) {k:TS->CH->List Nat->Bool},f2q X base l t h mv k=AB->
 ∃t' h' mv' st',k t' h' mv'=AB/\SR P base t' h' mv' st'/\ ∀S,Sd P S-> ∀K:St->Prop,K st'->d2r S l st K:=by
 induction l with
 |nil=>intro t h mv st r k hk;exact⟨t,h,mv,st,hk,r,fun S hS K hK=>hK⟩
 |cons o l ih=>intro t h mv st r k hk;obtain⟨t1,h1,mv1,st1,hk,r1,g1⟩:=d3m x r (o:=o) (k:=fun t h mv=>f2q X base l t h mv k) hk;obtain⟨t2,h2,mv2,st2,hk,r2,g2⟩:=ih r1 hk;exact⟨t2,h2,mv2,st2,hk,r2,fun S hS K hK=>g1 S hS _ (g2 S hS K hK)⟩
theorem c7i (r:RT t st.ts){l:Nat}{o:IOp}{k:CA->b0h->Bool}(hk:c6j l o t k=AB):
 ∃v o' ao,k v o'=AB/\o'.R P ao/\ ∀S,Sd P S-> ∀K:AV->a0f->Prop,K v.to ao->a4a S l o st K:=by
 unfold c6j at hk;split at hk
 ·obtain⟨cs,ez,hk⟩:=a5s hk;obtain⟨ds,h1,hk⟩:=c4e hk;refine⟨_,_,_,hk,rfl,fun S _ K hK=> ?_⟩;simp only[a4a,ez,h1];exact hK
 ·obtain⟨v,h1,hk⟩:=a0d r hk;obtain⟨h2,hk⟩:=a5x hk;refine⟨_,_,_,hk,rfl,fun S _ K hK=> ?_⟩;simp only[a4a,h1,CA.cells_to,h2,if_true];exact hK
 ·exact⟨_,_,_,hk,rfl,fun S _ K hK=>hK⟩
 ·exact⟨_,_,_,hk,rfl,fun S _ K hK=>hK⟩
 ·exact⟨_,_,_,hk,rfl,fun S _ K hK=>hK⟩
 ·obtain⟨cs,ez,hk⟩:=a5s hk;obtain⟨v,h1,hk⟩:=a0d r hk;obtain⟨n',rfl,hk⟩:=a2w hk;obtain⟨h2,hk⟩:=a1v hk;obtain⟨h3,hk⟩:=a1v hk;have hk:=a3e hk;have hk:=b1q hk;refine⟨_,_,_,hk,rfl,?_⟩;rintro S ⟨A,ro,E,rfl⟩ K hK;simp only[a4a,h1,CA.to,CD.to,a9r];refine And.intro h2 (And.intro h3 ?_);rw[a0o];rw[b5k (P:=P) (A:=A) (ro:=ro) (E:=E),<-ez] at hK;exact hK
 ·exact absurd hk AA
theorem b5u {u v:Kl}(h:d8k u v=AB):u=v:=by cases u<;>cases v<;>first|rfl|cases h
theorem d7z {u v:Kl}(h:d8k u v=AE):u≠v:=by cases u<;>cases v<;>first|(intro e;cases e;done)|cases h
theorem b5n {ts:List AV}(r:RT t ts){b0:Nat}{d:a0m}{k:Unit->Bool}(hk:d0i b0 d t k=AB):c2n b0 d ts=AB/\k ()=AB:=by
 unfold d0i at hk;split at hk
 ·rename_i e;simp only[c2n,e];exact⟨trivial,hk⟩
 ·rename_i hne;split at hk
  ·rename_i x e;obtain⟨v,h1,hk⟩:=a0d r hk;have key: ∀b:Bool,(match BG ts x with
    | .ptr l _=>a5c b0 l d.av
    | .aptr l _ _ _=>if d.o.op.kl= .r then a5c b0 l d.av else AE
    | .map l=>if d.o.op.kl= .r then a5c b0 l d.av else AE
    | .dptr _ _=>if d.o.op.kl= .r then AB else AE
    |_=>AE)=b->c2n b0 d ts=b:=by
    intro b hb;unfold c2n;split
    ·rename_i e';exact (hne e').elim
    ·simp only[e];exact hb
   split at hk
   ·obtain⟨h2,hk⟩:=a0e hk;exact⟨key _ (by simp only[h1,CA.to,h2]),hk⟩
   ·obtain⟨h3,hk⟩:=a0e hk;obtain⟨h2,hk⟩:=a0e hk;exact⟨key _ (by simp only[h1,CA.to,h2,b5u h3,if_true]),hk⟩
   ·obtain⟨h3,hk⟩:=a0e hk;obtain⟨h2,hk⟩:=a0e hk;exact⟨key _ (by simp only[h1,CA.to,h2,b5u h3,if_true]),hk⟩
   ·obtain⟨h3,hk⟩:=a0e hk;exact⟨key _ (by simp only[h1,CA.to,b5u h3,if_true]),hk⟩
   ·exact absurd hk AA
  ·exact absurd hk AA
end
theorem e7k {a b:List UInt8}(h:b6r a b=AB):a=b:=by rw[c2y] at h;exact of_decide_eq_true h
theorem e1b {a b:Int}(h:xeq a b=AB):a=b:=by rw[a6m] at h;exact of_decide_eq_true h
theorem e4j {a b:Bool}(h:bEq a b=AB):a=b:=by rw[d5m] at h;exact of_decide_eq_true h
theorem d8u {a b:Option Nat}(h:g1y a b=AB):a=b:=by
 cases a<;>cases b<;>first|rfl|(cases h;done)|(exact congrArg AM (AD h))
theorem d7o {a b:IX}(h:f7x a b=AB):a=b:=by
 cases a<;>cases b<;>first|(exact congrArg _ (e1b h))|cases h
theorem a8x {a b:Bool}(h:(match a with|true=>b|false=>AE)=AB):a=AB/\b=AB:=by
 cases a<;>first|exact⟨rfl,h⟩|cases h
mutual
theorem c7p:(x y:CD)->c4v x y=AB->x=y
 | .int kd n,y,h=>by
   cases y<;>first|(simp only[c4v] at h;cases h;done)|(simp only[c4v] at h;obtain⟨h1,h2⟩:=a8x h;rw[a3y h1,d7o h2])
 | .bool b,y,h=>by
   cases y<;>first|(simp only[c4v] at h;cases h;done)|(simp only[c4v] at h;cases b<;>simp_all)
 | .str l,y,h=>by
   cases y<;>first|(simp only[c4v] at h;cases h;done)|(simp only[c4v] at h;rw[e7k h])
 | .nil,y,h=>by
   cases y<;>first|rfl|(simp only[c4v] at h;cases h;done)
 | .sl sz n rows,y,h=>by
   cases y with
   |sl sz' n' rows'=>simp only[c4v] at h;obtain⟨h1,h2⟩:=a8x h;obtain⟨h2,h3⟩:=a8x h2;rw[AD h1,AD h2,b6c rows rows' h3]
   |_=>simp only[c4v] at h;cases h
 | .raw v,y,h=>by simp only[c4v] at h;cases h
theorem c1n:(x y:List CD)->c3y x y=AB->x=y
 |[],y,h=>by cases y<;>first|rfl|(simp only[c3y] at h;cases h;done)
 |x::xs,y,h=>by
  cases y with
  |nil=>simp only[c3y] at h;cases h
  |cons y ys=>simp only[c3y] at h;obtain⟨h1,h2⟩:=a8x h;rw[c7p x y h1,c1n xs ys h2]
theorem b6c:(x y:List (List CD))->b3x x y=AB->x=y
 |[],y,h=>by cases y<;>first|rfl|(simp only[b3x] at h;cases h;done)
 |x::xs,y,h=>by
  cases y with
  |nil=>simp only[b3x] at h;cases h
  |cons y ys=>simp only[b3x] at h;obtain⟨h1,h2⟩:=a8x h;rw[c1n x y h1,b6c xs ys h2]
end
mutual
theorem c8u:(x y:CA)->a9w x y=AB->x=y
 | .d x,y,h=>by
   cases y with
   |d y=>simp only[a9w] at h;rw[c7p x y h]
   |_=>simp only[a9w] at h;cases h
 | .agg xs,y,h=>by
   cases y with
   |agg ys=>simp only[a9w] at h;rw[b0i xs ys h]
   |_=>simp only[a9w] at h;cases h
 | .ptr l o,y,h=>by
   cases y with
   |ptr l' o'=>simp only[a9w] at h;obtain⟨h1,h2⟩:=a8x h;rw[AD h1,AD h2]
   |_=>simp only[a9w] at h;cases h
 | .msl l sz s n f,y,h=>by
   cases y with
   |msl l' sz' s' n' f'=>simp only[a9w] at h;obtain⟨h1,h⟩:=a8x h;obtain⟨h2,h⟩:=a8x h;obtain⟨h3,h⟩:=a8x h;obtain⟨h4,h5⟩:=a8x h;rw[AD h1,AD h2,d8u h3,AD h4,e4j h5]
   |_=>simp only[a9w] at h;cases h
 | .map l,y,h=>by
   cases y with
   |map l'=>simp only[a9w] at h;rw[AD h]
   |_=>simp only[a9w] at h;cases h
 | .fn f us cs,y,h=>by
   cases y with
   |fn f' us' cs'=>simp only[a9w] at h;obtain⟨h1,h⟩:=a8x h;obtain⟨h2,h3⟩:=a8x h;rw[AD h1,b0i us us' h2,b0i cs cs' h3]
   |_=>simp only[a9w] at h;cases h
 | .yl l,y,h=>by
   cases y with
   |yl l'=>simp only[a9w] at h;rw[AD h]
   |_=>simp only[a9w] at h;cases h
 | .any,y,h=>by simp only[a9w] at h;cases h
 | .und,y,h=>by simp only[a9w] at h;cases h
 | .tuple _,y,h=>by simp only[a9w] at h;cases h
 | .aptr ..,y,h=>by simp only[a9w] at h;cases h
 | .dptr ..,y,h=>by simp only[a9w] at h;cases h
 | .dfs ..,y,h=>by simp only[a9w] at h;cases h
 | .vsl ..,y,h=>by simp only[a9w] at h;cases h
 | .ge _,y,h=>by simp only[a9w] at h;cases h
theorem b0i:(x y:List CA)->b6w x y=AB->x=y
 |[],y,h=>by cases y<;>first|rfl|(simp only[b6w] at h;cases h;done)
 |x::xs,y,h=>by
  cases y with
  |nil=>simp only[b6w] at h;cases h
  |cons y ys=>simp only[b6w] at h;obtain⟨h1,h2⟩:=a8x h;rw[c8u x y h1,b0i xs ys h2]
end
section
variable {P:Ao} {X:XS} {base:Nat} {t:TS} {h:CH} {mv:List Nat} {st:St}
theorem b1t (x:XOk P X)(r:SR P base t h mv st){b0:Nat}{k:Unit->Bool}{F:List a0m}:a3f X b0 t h k F=AB->k ()=AB/\ ∀S,Sd P S-> ∀p:Prop,p->a1b S b0 st p F:=by
 induction F with
 |nil=>intro hk;exact⟨hk,fun S _ p hp=>hp⟩
 |cons d F ih=>
  intro hk;simp only[a3f] at hk;cases e:d8k d.o.op.kl .r with
  |false=>rw[e] at hk;obtain⟨h1,h2⟩:=ih hk;exact⟨h1,fun S hS p hp=>by simp only[a1b,if_neg (d7z e)];exact h2 S hS p hp⟩
  |true=>
   rw[e] at hk;have ek:=b5u e;rcases b0y (st:=st) r.ts hk with⟨hk,hg⟩|⟨hk,hg⟩
   ·obtain⟨h1,h2⟩:=ih hk;exact⟨h1,fun S hS p hp=>by simp only[a1b,if_pos ek];exact a7h hg (h2 S hS p hp)⟩
   ·obtain⟨h1,hk⟩:=b5n r.ts hk;obtain⟨v,h',hl',pg,hk,_,h2⟩:=a5v x r.ts r.h hk;cases e2:d.o.dst with
    |none=>simp only[e2] at hk;obtain⟨h3,h4⟩:=ih hk;refine⟨h3,fun S hS p hp=> ?_⟩;simp only[a1b,if_pos ek];refine a5y hg ?_;rw[if_pos h1];refine h2 S hS _ _ ?_;simp only[e2];exact h4 S hS p hp
    |some j=>simp only[e2] at hk;obtain⟨u,h5,hk⟩:=r.ts.get hk;obtain⟨h6,hk⟩:=a0e hk;obtain⟨h3,h4⟩:=ih hk;refine⟨h3,?_⟩;rintro S ⟨A,ro,E,rfl⟩ p hp;simp only[a1b,if_pos ek];refine a5y hg ?_;rw[if_pos h1];refine h2 _ ⟨A,ro,E,rfl⟩ _ _ ?_;simp only[e2];refine And.intro (show v.to=BG st.ts (.t j) from ?_) (h4 _ ⟨A,ro,E,rfl⟩ p hp);simp only[BG,h5,c8u v u h6]
end
mutual
theorem b3e (pg:List Nat):(v:CA)->a9b pg v=a1u pg v.to
 | .agg cs=>by simp only[a9b,CA.to,a1u,a4m pg cs]
 | .tuple cs=>by simp only[a9b,CA.to,a1u,a4m pg cs]
 | .fn f us cs=>by simp only[a9b,CA.to,a1u,a4m pg us,a4m pg cs];cases a6n pg (CA.toL us)<;>rfl
 | .d _=>rfl
 | .any=>rfl
 | .und=>rfl
 | .ptr .. =>rfl
 | .aptr .. =>rfl
 | .dptr .. =>rfl
 | .dfs .. =>rfl
 | .msl .. =>rfl
 | .vsl .. =>rfl
 | .map _=>rfl
 | .ge _=>rfl
 | .yl _=>rfl
theorem a4m (pg:List Nat):(vs:List CA)->a7c pg vs=a6n pg (CA.toL vs)
 |[]=>rfl
 |v::vs=>by simp only[a7c,CA.toL,a6n,b3e pg v,a4m pg vs];cases a1u pg v.to<;>rfl
end
section
variable {P:Ao} {X:XS} {base:Nat} {t:TS} {h:CH} {mv:List Nat} {st:St}
theorem b3m {ts:List AV}(r:RT t ts){pg:List Nat}{l:List Nat}{k:Unit->Bool}(hk:b2a pg t l k=AB):a4g pg ts l=AB/\k ()=AB:=by
 induction l with
 |nil=>exact⟨rfl,hk⟩
 |cons j l ih=>simp only[b2a] at hk;obtain⟨v,h1,hk⟩:=r.get hk;obtain⟨h2,hk⟩:=a0e hk;obtain⟨h3,hk⟩:=ih hk;refine⟨?_,hk⟩;simp only[a4g,h1,<-b3e,h2,if_true,h3]
theorem c8i {ts:List AV}(r:RT t ts){pg:List Nat}{F:List a0m}{k:Unit->Bool}(hk:c3n pg t F k=AB):a7a pg ts F=AB/\k ()=AB:=by
 induction F with
 |nil=>exact⟨rfl,hk⟩
 |cons d F ih=>simp only[c3n] at hk;obtain⟨h1,hk⟩:=b3m r hk;obtain⟨h2,hk⟩:=b3m r hk;obtain⟨h3,hk⟩:=ih hk;exact⟨by simp only[a7a,h1,h2,h3,if_true],hk⟩
theorem e9g (x:XOk P X)(r:SR P base t h mv st){b0:Nat}{F:List a0m}{d:a0m}{k:TS->CH->List Nat->Bool}(hk:xD X base b0 F d t h mv k=AB):
 ∃t' h' mv' st',k t' h' mv'=AB/\SR P base t' h' mv' st'/\ ∀S,Sd P S-> ∀K:St->Prop,K st'->evD S b0 F d st K:=by
 unfold xD at hk;cases e:d.o.op.kl with
 |a=>simp only[e,a3j] at hk;obtain⟨v,o',ao,hk,hR,h1⟩:=c7i (P:=P) (st:=st) r.ts hk;obtain⟨h',hk,hr⟩:=r.h.sets hk;have r1:SR P base t h' mv (st.setH (a2x st.h (b0+d.slot) ao)):=⟨r.ts,hr _ hR,r.mv⟩;obtain⟨t',r2,hk⟩:=a2o r1 hk;exact⟨t',h',mv,_,hk,r2,fun S hS K hK=>by simp only[evD,e];exact h1 S hS _ hK⟩
 |m=>
  simp only[e] at hk;obtain⟨h1,hk⟩:=b5n r.ts hk;obtain⟨v,h',hl',pg,hk,rh',h2⟩:=a5v x r.ts r.h hk;cases pg with
  |nil=>simp only at hk;have r1:SR P base t h' mv (st.setH hl'):=⟨r.ts,rh',r.mv⟩;obtain⟨t',r2,hk⟩:=a2o r1 hk;obtain⟨hk,h3⟩:=b1t x r2 hk;refine⟨t',h',mv,_,hk,r2,fun S hS K hK=> ?_⟩;simp only[evD,e,if_pos h1];exact h2 S hS _ _ (h3 S hS _ hK)
  |cons p pg=>
   simp only at hk;cases e2:d.alone with
   |true=>simp only[e2] at hk;obtain⟨t',mv',r1,hk⟩:=a3p r.ts r.mv rh' (k:=fun ts mv=>a6h d.o.dst v ts fun ts=>k ts h' mv) hk;obtain⟨t'',r2,hk⟩:=a2o r1 hk;refine⟨t'',h',mv',_,hk,r2,fun S hS K hK=> ?_⟩;simp only[evD,e,if_pos h1];refine h2 S hS _ _ ?_;simp only[e2,if_true];exact hK
   |false=>simp only[e2] at hk;obtain⟨h3,hk⟩:=a0e hk;obtain⟨h4,hk⟩:=c8i r.ts hk;obtain⟨t',mv',r1,hk⟩:=a3p r.ts r.mv rh' (k:=fun ts mv=>a6h d.o.dst v ts fun ts=>a3f X b0 ts h' (fun _=>k ts h' mv) (a4b d F)) hk;obtain⟨t'',r2,hk⟩:=a2o r1 hk;obtain⟨hk,h5⟩:=b1t x r2 hk;refine⟨t'',h',mv',_,hk,r2,fun S hS K hK=> ?_⟩;simp only[evD,e,if_pos h1];refine h2 S hS _ _ ?_;simp only[e2,h3,h4,if_true];exact h5 S hS _ hK
 |r=>simp only[e] at hk;obtain⟨h1,hk⟩:=b5n r.ts hk;obtain⟨v,h',hl',pg,hk,_,h2⟩:=a5v x r.ts r.h hk;obtain⟨t',r2,hk⟩:=a2o r hk;exact⟨t',h,mv,_,hk,r2,fun S hS K hK=>by simp only[evD,e,if_pos h1];exact h2 S hS _ _ hK⟩
 |i=>simp only[e] at hk;obtain⟨v,h',hl',pg,hk,_,h2⟩:=a5v x r.ts r.h hk;obtain⟨t',r2,hk⟩:=a2o r hk;exact⟨t',h,mv,_,hk,r2,fun S hS K hK=>by simp only[evD,e];exact h2 S hS _ _ hK⟩
 |p=>simp only[e] at hk;obtain⟨v,h',hl',pg,hk,_,h2⟩:=a5v x r.ts r.h hk;obtain⟨t',r2,hk⟩:=a2o r hk;exact⟨t',h,mv,_,hk,r2,fun S hS K hK=>by simp only[evD,e];exact h2 S hS _ _ hK⟩
theorem e9m (x:XOk P X){b0:Nat}{ds:List a0m}: ∀{F:List a0m} {t:TS} {h:CH} {mv:List Nat} {st:St} (_:SR P base t h mv st) {k:TS->CH->List Nat->Bool},xR X base b0 F ds t h mv k=AB->
 ∃t' h' mv' st',k t' h' mv'=AB/\SR P base t' h' mv' st'/\ ∀S,Sd P S-> ∀K:St->Prop,K st'->evR S b0 F ds st K:=by
 induction ds with
 |nil=>intro F t h mv st r k hk;simp only[xR] at hk;exact⟨t,h,mv,st,hk,r,fun S hS K hK=>hK⟩
 |cons d ds ih=>
  intro F t h mv st r k hk;simp only[xR] at hk;rcases b0y (st:=st) r.ts hk with⟨hk,hg⟩|⟨hk,hg⟩
  ·obtain⟨t',r1,hk⟩:=a2o (v:= .und) r hk;obtain⟨t2,h2,mv2,st2,hk,r2,g2⟩:=ih r1 hk;exact⟨t2,h2,mv2,st2,hk,r2,fun S hS K hK=>by simp only[evR,b1f];exact a7h hg (g2 S hS K hK)⟩
  ·obtain⟨t1,h1,mv1,st1,hk,r1,g1⟩:=e9g x r hk;obtain⟨t2,h2,mv2,st2,hk,r2,g2⟩:=ih r1 hk;exact⟨t2,h2,mv2,st2,hk,r2,fun S hS K hK=>by simp only[evR,b1f];exact a5y hg (g1 S hS _ (g2 S hS K hK))⟩
theorem d3w {n:Nat}: ∀{h:CH} {hl:List a0f} (_:RH P h hl) {k:CH->Bool},c5l n h k=AB-> ∃h',k h'=AB/\RH P h' (a2u hl (b8q (.var []) n)):=by
 induction n with
 |zero=>intro h hl r k hk;simp only[c5l] at hk;exact⟨h,hk,by rw[a0r];simpa [b8q] using r⟩
 |succ n ih=>intro h hl r k hk;simp only[c5l] at hk;obtain⟨h',hk,hr⟩:=r.adds hk;obtain⟨h'',hk,r'⟩:=ih (hr (.var []) rfl) hk;refine⟨h'',hk,?_⟩;rw[a0r,a0r] at r';rw[a0r];simpa [b8q] using r'
theorem c1t {ts:List AV}{hl:List a0f}(r:RT t ts)(rh:RH P h hl){irs:List c5p}: ∀{k:List CA->Bool},b2q t h irs k=AB->
 ∃vs,k vs=AB/\ ∀S,Sd P S-> ∀(mv:List Nat) (K:List AV->Prop),K (CA.toL vs)->c1d S ⟨ts,hl,mv⟩ irs K:=by
 induction irs with
 |nil=>intro k hk;simp only[b2q] at hk;exact⟨[],hk,fun S _ mv K hK=>hK⟩
 |cons ir irs ih=>
  intro k hk;cases ir with
  |t i=>simp only[b2q] at hk;obtain⟨v,h1,hk⟩:=r.get hk;obtain⟨vs,hk,h2⟩:=ih hk;refine⟨v::vs,hk,fun S hS mv K hK=> ?_⟩;simp only[c1d,BG,h1];exact h2 S hS mv _ hK
  |c i ag=>simp only[b2q] at hk;obtain⟨v,h1,hk⟩:=r.get hk;obtain⟨u,hk,h3⟩:=b8j rh hk;obtain⟨vs,hk,h2⟩:=ih hk;refine⟨u::vs,hk,fun S hS mv K hK=> ?_⟩;simp only[c1d,BG,h1];exact h3 S hS _ (h2 S hS mv _ hK)
theorem b0t (vs:List CA):(b7r vs).to=a5t (CA.toL vs):=by
 match vs with
 |[]=>rfl
 |[v]=>rfl
 |_::_::_=>rfl
theorem b7b {c:a0h}{b:Bool}(h:BG st.ts c= .d (.bool b)):st.setc c b=st:=by
 cases c with
 |c v=>rfl
 |t j=>
  simp only[St.setc];refine a5q ?_;simp only[BG] at h;split at h
  ·rename_i v e;rw[e,h]
  ·cases h
theorem c0b {l:Nat}{hl:List a0f}{ts:List AV}{mvA:List Nat}{pg:List Nat}(r:RT t ts)(rh:RH P h hl)(hm:MV base mvA mv){k:Lv->TS->CH->List Nat->Bool}(hk:b5l base l t h pg mv k=AB):
 ∃lv t' h' mv' st',k lv t' h' mv'=AB/\SR P base t' h' mv' st'/\ ∀Q:Lv->St->Prop,Q lv st'->b4r l ts mvA Q pg hl:=by
 unfold b5l at hk;split at hk
 ·exact absurd hk AA
 ·rename_i e;have hni:l∉pg:=fun c=>by rw[a7j.2 c] at e;cases e
  obtain⟨o,ao,h1,hR,hk⟩:=rh.gets hk;cases o with
  |loop s ts0 ps A a b=>
   obtain⟨tsl,h2,rfl⟩:=hR;cases s with
   |ready=>obtain⟨h',hk,hr⟩:=rh.sets hk;obtain⟨t',mv',r1,hk⟩:=a3p (st:=⟨ts,hl,mvA⟩) r hm (hr _ ⟨tsl,h2,rfl⟩) (k:=fun ts mv=>k .normal ts h' mv) hk;exact⟨_,t',h',mv',_,hk,r1,fun Q hQ=>⟨hni,_,_,_,_,h1,hQ⟩⟩
   |done lv=>
    cases lv with
    |ret=>obtain⟨h',hk,hr⟩:=rh.sets hk;obtain⟨t',mv',r1,hk⟩:=a3p (st:=⟨ts,hl,mvA⟩) r hm (hr _ ⟨tsl,h2,rfl⟩) (k:=fun ts mv=>k .ret ts h' mv) hk;exact⟨_,t',h',mv',_,hk,r1,fun Q hQ=>⟨hni,_,_,_,_,h1,hQ⟩⟩
    |exit i=>obtain⟨h',hk,hr⟩:=rh.sets hk;obtain⟨t',mv',r1,hk⟩:=a3p (st:=⟨ts,hl,mvA⟩) r hm (hr _ ⟨tsl,h2,rfl⟩) (k:=fun ts mv=>k (.exit i) ts h' mv) hk;exact⟨_,t',h',mv',_,hk,r1,fun Q hQ=>⟨hni,_,_,_,_,h1,hQ⟩⟩
    |normal=>exact absurd hk AA
   |_=>exact absurd hk AA
  |_=>exact absurd hk AA
def e0n (P:Ao)(base:Nat)(top:Bool)(c:a0c)(k:Lv->TS->CH->List Nat->Bool)(st:St)(A:A4):Prop:=
 ∃lv t' h' mv' st',k lv t' h' mv'=AB/\SR P base t' h' mv' st'/\ ∀(ro:Option Nat) (E:BE) (Q:Lv->St->Prop),(top=AB->ro=AP)->Q lv st'->ev (Af P A ro E) c Q st
theorem a7y (hm:P.follows .mixedOrders=AB)(hok:OkP P)(x:XOk P X){A:A4}{top:Bool}{c:a0c}: ∀{k:Lv->TS->CH->List Nat->Bool} {t:TS} {h:CH} {mv:List Nat} {st:St} (_:SR P base t h mv st),
 b5c X base A top c k t h mv=AB->e0n P base top c k st A:=by
 induction c with
 |skip=>intro k t h mv st r hk;exact⟨_,t,h,mv,st,hk,r,fun ro E Q _ hQ=>hQ⟩
 |ops l=>intro k t h mv st r hk;obtain⟨t',h',mv',st',hk,r',h1⟩:=d8v x r (l:=l) hk;exact⟨_,t',h',mv',st',hk,r',fun ro E Q _ hQ=>h1 _ ⟨A,ro,E,rfl⟩ _ hQ⟩
 |draw n l=>intro k t h mv st r hk;have hk:=r.h.nums (k:=fun n0=>c5l n h fun h'=>xR X base n0 [] l t h' mv (k .normal)) hk;obtain⟨h1,hk,r1⟩:=d3w r.h hk;obtain⟨t',h',mv',st',hk,r',h2⟩:=e9m x (st:=⟨st.ts,a2u st.h (b8q (.var []) n),st.mv⟩) ⟨r.ts,r1,r.mv⟩ hk;exact⟨_,t',h',mv',st',hk,r',fun ro E Q _ hQ=>h2 _ ⟨A,ro,E,rfl⟩ _ hQ⟩
 |seq a b ia ib=>
  intro k t h mv st r hk;obtain⟨lv,t1,h1,mv1,st1,hk,r1,g1⟩:=ia r (k:=d4m (b5c X base A top b k) k) hk;cases lv with
  |normal=>obtain⟨lv,t2,h2,mv2,st2,hk,r2,g2⟩:=ib r1 hk;exact⟨lv,t2,h2,mv2,st2,hk,r2,fun ro E Q hr hQ=>g1 ro E _ hr (g2 ro E Q hr hQ)⟩
  |exit i=>exact⟨_,t1,h1,mv1,st1,hk,r1,fun ro E Q hr hQ=>g1 ro E _ hr hQ⟩
  |ret=>exact⟨_,t1,h1,mv1,st1,hk,r1,fun ro E Q hr hQ=>g1 ro E _ hr hQ⟩
 |cond c a b ia ib=>
  intro k t h mv st r hk;obtain⟨v,h1,hk⟩:=a0d r.ts (o:=c) hk;obtain⟨n,rfl,hk⟩:=a8a hk;cases n with
  |true=>obtain⟨lv,t2,h2,mv2,st2,hk,r2,g2⟩:=ia r hk;refine⟨lv,t2,h2,mv2,st2,hk,r2,fun ro E Q hr hQ=> ?_⟩;simp only[ev,h1,CA.to,CD.to];rw[b7b h1];exact g2 ro E Q hr hQ
  |false=>obtain⟨lv,t2,h2,mv2,st2,hk,r2,g2⟩:=ib r hk;refine⟨lv,t2,h2,mv2,st2,hk,r2,fun ro E Q hr hQ=> ?_⟩;simp only[ev,h1,CA.to,CD.to];rw[b7b h1];exact g2 ro E Q hr hQ
 |block id c ic=>
  intro k t h mv st r hk;obtain⟨lv,t1,h1,mv1,st1,hk,r1,g1⟩:=ic r (k:=c0e id k) hk;cases lv with
  |normal=>exact⟨_,t1,h1,mv1,st1,hk,r1,fun ro E Q hr hQ=>g1 ro E _ hr hQ⟩
  |ret=>exact⟨_,t1,h1,mv1,st1,hk,r1,fun ro E Q hr hQ=>g1 ro E _ hr hQ⟩
  |exit i=>
   simp only[c0e] at hk;cases e:AC i id with
   |true=>rw[e] at hk;exact⟨_,t1,h1,mv1,st1,hk,r1,fun ro E Q hr hQ=>g1 ro E _ hr (by simp only[c3t,e,if_true];exact hQ)⟩
   |false=>rw[e] at hk;exact⟨_,t1,h1,mv1,st1,hk,r1,fun ro E Q hr hQ=>g1 ro E _ hr (by simp only[c3t,e];exact hQ)⟩
 |loop c _=>intro k t h mv st r hk;obtain⟨lv,t',ts',h',hl',mv',mvA',hk,r1,r2,r3,g⟩:=x.loop r.ts r.h r.mv hk;refine⟨lv,t',h',mv',⟨ts',hl',mvA'⟩,hk,⟨r1,r2,r3⟩,fun ro E Q hr hQ=> ?_⟩;obtain⟨m,hg⟩:=g ro E Q hr hQ;exact b2n hm hok hg
 |range f ps a b _ _=>
  intro k t h mv st r hk;obtain⟨htop,hk⟩:=a0e hk;obtain⟨v,h1,hk⟩:=a0d r.ts hk;split at hk
  ·rename_i g first cap
   obtain⟨h',hk,hr⟩:=r.h.adds hk;have hk:=a5i hk;have hk:=a5i hk;obtain⟨ws,hk,h5⟩:=a1p _ hk;obtain⟨pg,u,h2,hl2,hk,rh2,h6⟩:=x.call (hr _ ⟨st.ts,r.ts,rfl⟩) hk;obtain⟨lv,t3,h3,mv3,st3,hk,r3,g3⟩:=c0b r.ts rh2 r.mv hk;refine⟨lv,t3,h3,mv3,st3,hk,r3,fun ro E Q hr hQ=> ?_⟩;have hro:=hr htop;subst hro;refine b9s (f:=f) (ps:=ps) (ia:=a) (ib:=b) h1 ?_;have e:A8 (a2u (CA.toL first) (a2u [.yl (a3q st.h)] (CA.toL cap)))=CA.toL ws:=by rw[h5,a0r,a0r,CA.toL_eq,CA.toL_eq,CA.toL_eq];simp[CA.to]
   rw[e];exact h6 (fun pg _ h2=>b4r (a3q st.h) st.ts st.mv Q pg h2) (g3 Q hQ)
  ·exact absurd hk AA
 |exit id=>intro k t h mv st r hk;exact⟨_,t,h,mv,st,hk,r,fun ro E Q _ hQ=>hQ⟩
 |scope c ic=>intro k t h mv st r hk;obtain⟨htop,hk⟩:=a0e hk;obtain⟨lv,t1,h1,mv1,st1,hk,r1,g1⟩:=ic r hk;exact⟨lv,t1,h1,mv1,st1,hk,r1,fun ro E Q hr hQ=>And.intro (hr htop) (g1 ro E Q hr hQ)⟩
 |label l=>intro k t h mv st r hk;exact⟨_,t,h,mv,st,hk,r,fun ro E Q _ hQ=>hQ⟩
 |ret=>intro k t h mv st r hk;exact⟨_,t,h,mv,st,hk,r,fun ro E Q _ hQ=>hQ⟩
end
def a0q (P:Ao)(f:Nat)(fn:XFn):Prop:=
 ∃(func:Func) (c:Code),P.funcs[f]? =AM func/\func.body=AM c/\func.name≠ "runtime.NumGoroutine" /\comp P fn.A c=AM fn.ic/\b0m P func=AM fn.irs/\func.ntmps=fn.n
def XT.All (p:Nat->XFn->Prop):XT->Prop
 | .leaf=>True
 | .node key fn l r=>p key fn/\l.All p/\r.All p
theorem c9p {p:Nat->XFn->Prop}{T:XT}{f:Nat}{k:XFn->Bool}(hT:T.All p)(hk:T.find f k=AB): ∃fn,p f fn/\k fn=AB:=by
 induction T with
 |leaf=>exact absurd hk AA
 |node key fn l r il ir=>
  simp only[XT.find] at hk;split at hk
  ·rename_i e;exact⟨fn,AD e▸hT.1,hk⟩
  ·split at hk
   ·exact il hT.2.1 hk
   ·exact ir hT.2.2 hk
section
variable {P:Ao}
theorem d4c {args:List CA}: ∀{i:Nat} {t:TS} {pre:List AV} {m:Nat} {k:TS->Bool},pre.length=i->RT t (pre++AY m .und)->c9o args i t k=AB->
 args.length<=m/\ ∃t',RT t' (pre++CA.toL args++AY (m-args.length) .und)/\k t'=AB:=by
 induction args with
 |nil=>intro i t pre m k _ r hk;simp only[c9o] at hk;exact⟨by simp,t,by simpa [CA.toL] using r,hk⟩
 |cons v args ih=>
  intro i t pre m k hi r hk;simp only[c9o] at hk;obtain⟨t',⟨x,h1⟩,h2,h3⟩:=b9h hk;have h4:=r i x h1;have hlt:=(AH.1 h4).1;simp at hlt;cases m with
  |zero=>omega
  |succ m=>
   have r':RT t' ((pre++[v.to])++AY m .und):=by
    intro j u hj;rw[h2] at hj;split at hj
    ·rename_i e;subst e;cases hj;simp[hi]
    ·rename_i e;have:=r j u hj;rw[List.replicate_succ] at this;by_cases c:j<pre.length
     ·rw[AJ c] at this;rw[Ac,AJ c];exact this
     ·rw[AK (by omega)] at this;rw[Ac,AK (by omega)];obtain⟨q,hq⟩: ∃q,j-pre.length=q+1:=⟨j-pre.length-1,by omega⟩;rw[hq] at this⊢;simpa using this
   obtain⟨h5,t'',h6,h7⟩:=ih (i:=i+1) (by simp[hi]) r' h3;refine⟨by simp;omega,t'',?_,h7⟩;have e:m+1-(v::args).length=m-args.length:=by simp
   rw[e];simpa [CA.toL] using h6
theorem c3m {n:Nat}{args:List CA}{k:TS->Bool}(hk:d9e n args k=AB):args.length<=n/\ ∃t,RT t (a9g (CA.toL args) (n-args.length))/\k t=AB:=by
 obtain⟨h1,t,h2,h3⟩:=d4c (pre:=[]) (m:=n) rfl (fun i v hv=>by
  obtain⟨h1,h2⟩:=d7r hv;subst h2;simp[h1,CA.to]) hk
 refine⟨h1,t,?_,h3⟩;rw[a9g,a0r,a7i];simpa using h2
theorem d6x {ps:List Nat}: ∀{args:List CA} {t:TS} {ts:List AV} {k:TS->Bool},RT t ts->e6w ps args t k=AB->ps.length=args.length/\ ∃t',RT t' (b2p ps (CA.toL args) ts)/\k t'=AB:=by
 induction ps with
 |nil=>
  intro args t ts k r hk;cases args with
  |nil=>exact⟨rfl,t,r,hk⟩
  |cons=>exact absurd hk AA
 |cons p ps ih=>
  intro args t ts k r hk;cases args with
  |nil=>exact absurd hk AA
  |cons v args=>simp only[e6w] at hk;obtain⟨t',r',hk⟩:=r.set hk;obtain⟨h1,t'',r'',hk⟩:=ih r' hk;exact⟨by simp[h1],t'',by simpa [CA.toL,b2p] using r'',hk⟩
def c0j:AV->Prop
 | .d (.int ..)=>True
 | .d (.bool _)=>True
 | .d (.str _)=>True
 |_=>False
theorem d3p {vs:List CA}{k:Unit->Bool}(hk:c4j vs k=AB):(∀v,v∈CA.toL vs->c0j v)/\k ()=AB:=by
 induction vs with
 |nil=>exact⟨by simp[CA.toL],hk⟩
 |cons v vs ih=>
  unfold c4j at hk;split at hk
  ·obtain⟨h1,h2⟩:=ih hk;exact⟨by intro u hu;simp only[CA.toL,AS] at hu;rcases hu with rfl|hu;exact trivial;exact h1 u hu,h2⟩
  ·obtain⟨h1,h2⟩:=ih hk;exact⟨by intro u hu;simp only[CA.toL,AS] at hu;rcases hu with rfl|hu;exact trivial;exact h1 u hu,h2⟩
  ·obtain⟨h1,h2⟩:=ih hk;exact⟨by intro u hu;simp only[CA.toL,AS] at hu;rcases hu with rfl|hu;exact trivial;exact h1 u hu,h2⟩
  ·exact absurd hk AA
theorem c7t {w:World}{S:Nat->Prop}{ρ:Rho}{x:AV}{v:Value}(hf:c0j x)(h:VR w S ρ x v):VR w (fun _=>False) ρ x v:=by
 cases h with
 |d h=>
  cases h with
  |int k n=>exact .d (.int k n)
  |bool b=>exact .d (.bool b)
  |str l=>exact .d (.str l)
  |_=>exact hf.elim
 |_=>exact hf.elim
theorem e1d {w:World}{S:Nat->Prop}{ρ:Rho}{xs:List AV}{v:Value}(hf: ∀x,x∈xs->c0j x)(h:VR w S ρ (a5t xs) v):VR w (fun _=>False) ρ (a5t xs) v:=by
 have key: ∀{xs:List AV},(∀x,x∈xs->c0j x)->VR w S ρ (.tuple xs) v->VR w (fun _=>False) ρ (.tuple xs) v:=by
  intro xs hf h;cases h with
  |tuple _ vs hl hv=>exact .tuple _ vs hl fun i x v hx hv'=>c7t (hf x (List.mem_of_getElem? hx)) (hv i x v hx hv')
 match xs,hf,h with
 |[],hf,h=>exact key hf h
 |[x],hf,h=>exact c7t (hf x (by simp)) h
 |_::_::_,hf,h=>exact key hf h
theorem b4e {f:Ad}{args:List AV}{xs:List AV}(hf: ∀x,x∈xs->c0j x)(h:a0j P AE f args (a5t xs)):a0j P AB f args (a5t xs):=by refine⟨h.1,fun w S vs hS hv=>Calls.mono (h.2 w S vs hS hv) fun e w' hR=> ?_⟩;obtain⟨v,S',h1,h2,_,h3⟩:=hR;exact⟨v,fun _=>False,h1,e1d hf h2,fun b hb=>hb.elim,h3⟩
theorem RH.nil:RH P ⟨.zero,.leaf⟩ []:=⟨rfl,fun i o h=>by simp[BT.get?] at h⟩
variable {X:XS} {T:XT}
theorem c9j (hm:P.follows .mixedOrders=AB)(hok:OkP P)(hT:T.All (a0q P))(x:XOk P X){own:Bool}{f:Ad}{args:List CA}{k:CA->Bool}(hk:d5t T X own f args k=AB):
 ∃r,k r=AB/\a0j P own f (CA.toL args) r.to:=by
 obtain⟨fn,⟨func,c,hf,hb,hname,hc,hres,hn⟩,hk⟩:=c9p hT hk;obtain⟨hlen,t,r,hk⟩:=c3m hk;obtain⟨lv,t',h',mv',st',hk,r',g⟩:=a7y hm hok x (base:=0) (st:=⟨a9g (CA.toL args) (fn.n-args.length),[],[]⟩) ⟨r,.nil,fun m hm _=>absurd hm (Nat.not_lt_zero m)⟩ hk;have key: ∀{lv:Lv},(∀i,lv≠ .exit i)->(b2q t' h' fn.irs fun vs=>a3k h' vs fun vs _=>a7k vs (fun _=>e0p own k vs))=AB->
  (∀(E:BE) (Q:Lv->St->Prop),Q lv st'->ev (Af P fn.A AP E) fn.ic Q ⟨a9g (CA.toL args) (fn.n-args.length),[],[]⟩)-> ∃r,k r=AB/\a0j P own f (CA.toL args) r.to:=by
  intro lv hlv hk g;obtain⟨vs,hk,h1⟩:=c1t r'.ts r'.h hk;obtain⟨ws,h2,hl2,hk,_,h3⟩:=b2g r'.h hk;obtain⟨h4,hk⟩:=a7o hk;have hp:a0j P AE f (CA.toL args) (a5t (CA.toL ws)):=by
   refine b1p (n:=fn.n-args.length) hm hok hf hb hname fn.A hc hres (by rw[CA.toL_len,hn];omega) ?_;rintro E Sg-rfl;refine g E _ ?_;have hq:c1d (Af P fn.A AP E) st' fn.irs fun vs=>a1w (Af P fn.A AP E) st'.h vs fun vs' _=>a3z vs'=AB/\a0x (a5t vs') (a5t (CA.toL ws)):=
    h1 _ ⟨fn.A,AP,E,rfl⟩ st'.mv _ (h3 _ ⟨fn.A,AP,E,rfl⟩ _ ⟨h4,a0x.refl _⟩)
   cases lv with
   |exit i=>exact absurd rfl (hlv i)
   |normal=>exact hq
   |ret=>exact hq
  cases own with
  |true=>obtain⟨h5,hk⟩:=d3p hk;exact⟨_,hk,by rw[b0t];exact b4e h5 hp⟩
  |false=>exact⟨_,hk,by rw[b0t];exact hp⟩
 cases lv with
 |exit i=>exact absurd hk AA
 |normal=>exact key (fun i e=>by cases e) hk (fun E Q hQ=>g AP E Q (fun _=>rfl) hQ)
 |ret=>exact key (fun i e=>by cases e) hk (fun E Q hQ=>g AP E Q (fun _=>rfl) hQ)
theorem d0h (hm:P.follows .mixedOrders=AB)(hok:OkP P)(hT:T.All (a0q P))(x:XOk P X){f:Ad}{args:List CA}{h:CH}{hl:List a0f}{k:List Nat->CA->CH->Bool}(rh:RH P h hl)(hk:d4o T X f args h k=AB):
 ∃pg v h' hl',k pg v h'=AB/\RH P h' hl'/\ ∀K:List Nat->AV->List a0f->Prop,K pg v.to hl'->a1h P f (CA.toL args) hl K:=by
 obtain⟨fn,⟨func,c,hf,hb,hname,hc,hres,hn⟩,hk⟩:=c9p hT hk;obtain⟨hlen,t,r,hk⟩:=c3m hk;have hk:=rh.nums (k:=fun n0=>b5c X n0 fn.A AB fn.ic (c1e fn.irs k) t h []) hk;obtain⟨lv,t',h',mv',st',hk,r',g⟩:=a7y hm hok x (base:=a3q hl) (st:=⟨a9g (CA.toL args) (fn.n-args.length),hl,[]⟩) ⟨r,rh,fun m _ hm=>by simp at hm⟩ hk;have key: ∀{lv:Lv},(∀i,lv≠ .exit i)->(b2q t' h' fn.irs fun vs=>k mv' (b7r vs) h')=AB->
  (∀(E:BE) (Q:Lv->St->Prop),Q lv st'->ev (Af P fn.A AP E) fn.ic Q ⟨a9g (CA.toL args) (fn.n-args.length),hl,[]⟩)->
  ∃pg v h' hl',k pg v h'=AB/\RH P h' hl'/\ ∀K:List Nat->AV->List a0f->Prop,K pg v.to hl'->a1h P f (CA.toL args) hl K:=by
  intro lv hlv hk g;obtain⟨vs,hk,h1⟩:=c1t r'.ts r'.h hk;refine⟨mv',_,h',st'.h,hk,r'.h,fun K hK=> ?_⟩;refine b0s (n:=fn.n-args.length) hm hok hf hb hname fn.A hc hres (by rw[CA.toL_len,hn];omega) ?_;rintro E Sg-rfl;refine g E _ ?_;have hq:c1d (Af P fn.A AP E) st' fn.irs fun vs=> ∃pg,(∀l,l<hl.length->l∈st'.mv->l∈pg)/\K pg (a5t vs) st'.h:=
   h1 _ ⟨fn.A,AP,E,rfl⟩ st'.mv _ ⟨mv',fun l hlt hin=>r'.mv l (by rw[a0u];exact hlt) hin,by rw[b0t] at hK;exact hK⟩
  cases lv with
  |exit i=>exact absurd rfl (hlv i)
  |normal=>exact hq
  |ret=>exact hq
 cases lv with
 |exit i=>exact absurd hk AA
 |normal=>exact key (fun i e=>by cases e) hk (fun E Q hQ=>g AP E Q (fun _=>rfl) hQ)
 |ret=>exact key (fun i e=>by cases e) hk (fun E Q hQ=>g AP E Q (fun _=>rfl) hQ)
theorem b8g {l base:Nat}{t:TS}{h:CH}{mv:List Nat}{st:St}{k:List Nat->CA->CH->Bool}{lv:Lv}(hl:l<base)(r:SR P base t h mv st)(hk:b1n l k lv t h mv=AB):
 ∃pg v h' hl',k pg v h'=AB/\RH P h' hl'/\ ∀K:List Nat->AV->List a0f->Prop,K pg v.to hl'->b5b l base K lv st:=by
 unfold b1n at hk;split at hk
 ·exact absurd hk AA
 ·rename_i e;have hni:l∉st.mv:=fun c=>by rw[a7j.2 (r.mv l hl c)] at e;cases e
  obtain⟨o,ao,h1,hR,hk⟩:=r.h.gets hk;cases o with
  |loop s ts0 ps A a b=>
   obtain⟨tsl,h2,rfl⟩:=hR;cases s with
   |busy=>
    cases lv with
    |normal=>obtain⟨h',hk,hr⟩:=r.h.sets hk;exact⟨mv,_,h',_,hk,hr _ ⟨tsl,h2,rfl⟩,fun K hK=>⟨hni,_,_,_,h1,mv,fun m hm hin=>r.mv m hm hin,hK⟩⟩
    |ret=>obtain⟨h',hk,hr⟩:=r.h.sets hk;exact⟨mv,_,h',_,hk,hr _ ⟨tsl,h2,rfl⟩,fun K hK=>⟨hni,_,_,_,h1,mv,fun m hm hin=>r.mv m hm hin,hK⟩⟩
    |exit i=>obtain⟨h',hk,hr⟩:=r.h.sets hk;exact⟨mv,_,h',_,hk,hr _ ⟨tsl,h2,rfl⟩,fun K hK=>⟨hni,_,_,_,h1,mv,fun m hm hin=>r.mv m hm hin,hK⟩⟩
   |_=>exact absurd hk AA
  |_=>exact absurd hk AA
theorem d8z (hm:P.follows .mixedOrders=AB)(hok:OkP P)(x:XOk P X){l:Nat}{args:List CA}{h:CH}{hl:List a0f}{k:List Nat->CA->CH->Bool}(rh:RH P h hl)(hk:g1p X l args h k=AB):
 ∃pg v h' hl',k pg v h'=AB/\RH P h' hl'/\ ∀K:List Nat->AV->List a0f->Prop,K pg v.to hl'->b5d P l (CA.toL args) hl K:=by
 obtain⟨o,ao,h1,hR,hk⟩:=rh.gets hk;have hlt:l<hl.length:=by rw[a0i] at h1;exact (AH.1 h1).1
 cases o with
 |loop s ts0 ps A a b=>
  obtain⟨tsl,h2,rfl⟩:=hR;cases s with
  |ready=>
   obtain⟨hps,t,r,hk⟩:=d6x h2 hk;have hk:=rh.nums (k:=fun n0=>b5c X n0 A AE a (a8p X n0 l A b k) t h []) hk;obtain⟨lv,t1,h1',mv1,st1,hk,r1,g1⟩:=a7y hm hok x (base:=a3q hl) (st:=⟨b2p ps (CA.toL args) tsl,hl,[]⟩) ⟨r,rh,fun m _ hm=>by simp at hm⟩ hk;cases lv with
   |normal=>
    simp only[a8p] at hk;split at hk
    ·exact absurd hk AA
    ·rename_i e;have hni:l∉st1.mv:=fun c=>by rw[a7j.2 (r1.mv l (by rw[a0u];exact hlt) c)] at e;cases e
     obtain⟨o,ao,h3,hR,hk⟩:=r1.h.gets hk;cases o with
     |loop s' ts1 ps1 A1 a1 b1=>
      obtain⟨tsl1,h4,rfl⟩:=hR;cases s' with
      |ready=>obtain⟨h5,hk,hr⟩:=r1.h.sets hk;obtain⟨lv2,t2,h2',mv2,st2,hk,r2,g2⟩:=a7y hm hok x (base:=a3q hl) (st:=⟨st1.ts,a2x st1.h l (.loop .busy tsl1 ps1 _),st1.mv⟩) ⟨r1.ts,hr _ ⟨tsl1,h4,rfl⟩,r1.mv⟩ hk;obtain⟨pg,v,h',hl',hk,rh',g3⟩:=b8g (by rw[a0u];exact hlt) r2 hk;refine⟨pg,v,h',hl',hk,rh',fun K hK=> ?_⟩;refine b9t (A:=A) hm hok h1 (fun ca cb h=>h) (by rw[CA.toL_len];exact hps) ?_;rintro ro E Sg rfl;refine g1 ro E _ (fun h=>by cases h) ⟨rfl,hni,_,_,_,h3,?_⟩;refine g2 ro E _ (fun h=>by cases h) ?_;have:=g3 K hK;rw[a0u] at this;exact this
      |_=>exact absurd hk AA
     |_=>exact absurd hk AA
   |_=>exact absurd hk AA
  |_=>exact absurd hk AA
 |_=>exact absurd hk AA
theorem e3v:XOk P XS0 where
 pcall h:=absurd h AA
 call _ h:=absurd h AA
 yld _ h:=absurd h AA
 loop _ _ _ h:=absurd h AA
theorem e0k (hm:P.follows .mixedOrders=AB)(hok:OkP P)(hT:T.All (a0q P))(x:XOk P X):XOk P (XSs T X) where
 pcall h:=c9j hm hok hT x h
 call rh h:=d0h hm hok hT x rh h
 yld rh h:=d8z hm hok x rh h
 loop:=by
  intro A base top c k t ts h hl mv mvA r rh hmv hk;obtain⟨lv,t1,h1,mv1,st1,hk,r1,g1⟩:=a7y hm hok x (st:=⟨ts,hl,mvA⟩) (k:=d5z X A base top c k) ⟨r,rh,hmv⟩ hk;cases lv with
  |normal=>obtain⟨lv,t',ts',h',hl',mv',mvA',hk,q1,q2,q3,g⟩:=x.loop r1.ts r1.h r1.mv hk;refine⟨lv,t',ts',h',hl',mv',mvA',hk,q1,q2,q3,fun ro E Q hr hQ=> ?_⟩;obtain⟨m,hg⟩:=g ro E Q hr hQ;exact⟨m+1,g1 ro E _ hr hg⟩
  |exit i=>exact⟨_,t1,st1.ts,h1,st1.h,mv1,st1.mv,hk,r1.ts,r1.h,r1.mv,fun ro E Q hr hQ=>⟨1,g1 ro E _ hr hQ⟩⟩
  |ret=>exact⟨_,t1,st1.ts,h1,st1.h,mv1,st1.mv,hk,r1.ts,r1.h,r1.mv,fun ro E Q hr hQ=>⟨1,g1 ro E _ hr hQ⟩⟩
theorem e4i (hm:P.follows .mixedOrders=AB)(hok:OkP P)(hT:T.All (a0q P))(n:Nat):XOk P (XSn T n):=by
 induction n with
 |zero=>exact e3v
 |succ n ih=>exact e0k hm hok hT ih
theorem c0g (hm:P.follows .mixedOrders=AB)(hok:OkP P)(hT:T.All (a0q P))(n:Nat){own:Bool}{f:Ad}{args:List CA}{k:CA->Bool}(hk:(XSn T n).pcall own f args k=AB):
 ∃r,k r=AB/\a0j P own f (CA.toL args) r.to:=(e4i hm hok hT n).pcall hk
end
end Go.Vf
