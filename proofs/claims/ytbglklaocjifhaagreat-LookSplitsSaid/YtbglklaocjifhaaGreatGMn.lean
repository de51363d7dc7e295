/- The runner's twelfth text. Conditions: none. -/
import Derived.Test.YtbglklaocjifhaaGreatGMg
open Bool renaming false_ne_true->AA,true->AB,false->AE,not->AU,rec->Ag,and_self->Al,eq_iff_iff->Az
open Nat renaming beq->AC,eq_of_beq_eq_true->AD,le_of_ble_eq_true->AF,rec->AM,blt->AN,div->AS,add->AT,ble->AW,mod->Ad,succ->Ai,sub->As,zero->A4,zero_add->A7,beq_refl->A8,ble_eq->BB,mul->BF
open Go renaming IntKind->AG,FuncId->Ab,Program->An,BinOp->Av
open List renaming getElem?_eq_some_iff->AH,getElem?_append_left->AJ,getElem?_append_right->AK,getElem?_take_of_lt->AP,rec->AQ,mem_cons->AR,replicate->AX,getElem?_map->AY,getElem?_set_ne->AZ,map_append->Aa,append_assoc->Ac,map_cons->Af,map_take->Aj,map_drop->Ak,map_set->Ao,map_nil->Ap,getElem?_eq_none->At,getElem?_drop->Au,ext_getElem?->Aw,length_take->Ax,length_map->Ay
open Int renaming ofNat_eq_natCast->AI,ofNat->Aq,sub->A9,beq'->BD,add->BG
open Option renaming some->AL,none->AO,rec->A5
open Go.Vf renaming ms->Ae,t7->A2,x4->BC,i7->BE
open Ne renaming symm->Ah
open Go.Vf.AV renaming ip->Am,i4->Ar,forget->A3,rg->A6,norm->BA
set_option linter.unusedSimpArgs false
set_option linter.unusedVariables false
namespace Go.Vf
open Go
noncomputable section
inductive CD where
 |int (k:AG) (n:IX)
 |bool (b:Bool)
 |str (l:List UInt8)
 |nil
 |sl (sz n:Nat) (rows:List (List CD))
 |raw (v:Value)
inductive CA where
 |d (x:CD)
 |any
 |lc
 |agg (cs:List CA)
 |tuple (vs:List CA)
 |ptr (l off:Nat)
 |ii (l sz i off:Nat)
 |d9 (row:List CD) (off:Nat)
 |lm (sz n:Nat) (rows:List (List CD))
 |bi (l sz:Nat) (start:Option Nat) (len:Nat) (full:Bool)
 |d7 (l off n:Nat)
 |map (l:Nat)
 |fn (f:Ab) (first cap:List CA)
 |ge (m:Nat)
 |yl (l:Nat)
inductive BT (α:Type) where
 |leaf
 |node (v:α) (l r:BT α)
inductive qz where
 |var (cs:List CA)
 |arr (sz n:Nat) (rows:List (List CD))
 |t0 (sz n:Nat) (rows:List (List CD))
 |map (wide:Bool) (ks:List AG) (n:Nat) (es:List (List KC×Int))
 |dz (wide:Bool) (ks:List AG) (keys:List (List KC)) (ap:List CA)
 |loop (s:Wz) (ts:BT CA) (ps:List Nat) (A:A2) (a b:gy)
 |gone
abbrev TS:=BT CA
structure CH where
 n:Nat
 t:BT qz
def xf (_:Nat):Bool:=AE
def fN (n:Nat)(k:Nat->Bool):Bool:=
 @AM (fun _=>(Nat->Bool)->Bool) (fun k=>k .zero) (fun m _ k=>k (.succ m)) n k
def fI (n:Int)(k:Int->Bool):Bool:=
 match n with
 | .ofNat m=>fN m fun m=>k (.ofNat m)
 | .negSucc m=>fN m fun m=>k (.negSucc m)
def fB (b:Bool)(k:Bool->Bool):Bool:=
 match b with
 |true=>k AB
 |false=>k AE
def X7:Int->Int->Bool
 | .ofNat a,.ofNat b=>AN a b
 | .ofNat _,.negSucc _=>AE
 | .negSucc _,.ofNat _=>AB
 | .negSucc a,.negSucc b=>AN b a
def Wa (a b:Int):Bool:=AU (X7 b a)
def Wn:Int->Int->Bool
 | .ofNat a,.ofNat b=>AC a b
 | .negSucc a,.negSucc b=>AC a b
 |_,_=>AE
def Xw (a b:AG):Bool:=AC a.ctorIdx b.ctorIdx
def Jr (k:AG)(x:Int):Bool:=
 match k with
 | .i64=>match x with
   | .ofNat n=>AN n 9223372036854775808
   | .negSucc n=>AN n 9223372036854775808
 |k=>Wn (k.wrap x) x
section
variable {α:Type}
def I0 (k:α->Bool)(l:List α)(i:Nat):Bool:=
 @AQ α (fun _=>(α->Bool)->Nat->Bool) (fun _ _=>xf 1) (fun x _ ih k i=> @AM (fun _=>Bool) (k x) (fun i _=>ih k i) i) l k i
def G4 (t:BT α)(i:Nat)(k:α->Bool):Bool:=
 @BT.rec α (fun _=>Nat->(α->Bool)->Bool) (fun _ _=>xf 1)
   (fun v _ _ il ir i k=> @AM (fun _=>Bool) (k v) (fun j _=> @AM (fun _=>Bool) (il (AS j 2) k) (fun _ _=>ir (AS j 2) k) (Ad j 2)) i) t i k
def KE (t:BT α)(i:Nat)(y:α)(k:BT α->Bool):Bool:=
 @BT.rec α (fun _=>Nat->α->(BT α->Bool)->Bool) (fun _ _ _=>xf 2)
   (fun v l r il ir i y k=> @AM (fun _=>Bool) (k (.node y l r)) (fun j _=> @AM (fun _=>Bool) (il (AS j 2) y fun l'=>k (.node v l' r)) (fun _ _=>ir (AS j 2) y fun r'=>k (.node v l r')) (Ad j 2)) i) t i y k
def TO (t:BT α)(i:Nat)(y:α)(k:BT α->Bool):Bool:=
 @BT.rec α (fun _=>Nat->α->(BT α->Bool)->Bool) (fun i y k=> @AM (fun _=>Bool) (k (.node y .leaf .leaf)) (fun _ _=>xf 2) i)
   (fun v l r il ir i y k=> @AM (fun _=>Bool) (xf 2) (fun j _=> @AM (fun _=>Bool) (il (AS j 2) y fun l'=>k (.node v l' r)) (fun _ _=>ir (AS j 2) y fun r'=>k (.node v l r')) (Ad j 2)) i) t i y k
def Yy (x:α)(d n:Nat):BT α:=
 @AM (fun _=>α->Nat->BT α) (fun _ _=> .leaf) (fun _ ih x n=> @AM (fun _=>BT α) .leaf (fun j _=> .node x (ih x (AS (Ai j) 2)) (ih x (AS j 2))) n) d x n
def TY (l:List α)(i:Nat)(y:α)(k:List α->Bool):Bool:=
 @AQ α (fun _=>Nat->α->(List α->Bool)->Bool) (fun _ _ _=>xf 2) (fun x l ih i y k=> @AM (fun _=>Bool) (k (y::l)) (fun i _=>ih i y fun l=>k (x::l)) i) l i y k
def OA (l:List α)(i n:Nat)(k:List α->Bool):Bool:=
 @AQ α (fun _=>Nat->Nat->(List α->Bool)->Bool)
   (fun i n k=> @AM (fun _=>Bool) (@AM (fun _=>Bool) (k []) (fun _ _=>xf 3) n) (fun _ _=>xf 3) i)
   (fun x _ ih i n k=> @AM (fun _=>Bool) (@AM (fun _=>Bool) (k []) (fun n _=>ih .zero n fun r=>k (x::r)) n) (fun i _=>ih i n k) i) l i n k
def Q1 (l:List α)(i:Nat)(new:List α)(k:List α->Bool):Bool:=
 @AQ α (fun _=>Nat->List α->(List α->Bool)->Bool)
   (fun i new k=> @AM (fun _=>Bool) (@AQ α (fun _=>Bool) (k []) (fun _ _ _=>xf 4) new) (fun _ _=>xf 4) i)
   (fun x l ih i new k=> @AM (fun _=>Bool) (@AQ α (fun _=>Bool) (k (x::l)) (fun y new _=>ih .zero new fun r=>k (y::r)) new) (fun i _=>ih i new fun r=>k (x::r)) i) l i new k
def IL (l m:List α)(k:List α->Bool):Bool:=
 @AQ α (fun _=>List α->(List α->Bool)->Bool) (fun m k=>k m) (fun x _ ih m k=>ih m fun r=>k (x::r)) l m k
def T7 (l:List α)(n:Nat)(m:List α)(k:List α->Bool):Bool:=
 @AQ α (fun _=>Nat->List α->(List α->Bool)->Bool) (fun n m k=> @AM (fun _=>Bool) (k m) (fun _ _=>xf 5) n)
   (fun x _ ih n m k=> @AM (fun _=>Bool) (k m) (fun n _=>ih n m fun r=>k (x::r)) n) l n m k
def K3 (l:List α)(n:Nat)(k:List α->Bool):Bool:=
 match n with
 | .zero=>k l
 | .succ n=>match l with
   |[]=>k []
   |_::l=>K3 l n k
def Gm (l:List α)(i m:Nat)(new:List α)(k:List α->Bool):Bool:=
 match l with
 |[]=>match i with
  | .zero=>match m with
    | .zero=>k []
    | .succ _=>xf 6
  | .succ _=>xf 6
 |x::l=>match i with
  | .zero=>match m with
    | .zero=>k (x::l)
    | .succ m=>match new with
      |[]=>xf 6
      |y::new=>Gm l .zero m new fun r=>k (y::r)
  | .succ i=>Gm l i m new fun r=>k (x::r)
def NK (x:α)(n:Nat)(k:List α->Bool):Bool:=
 @AM (fun _=>α->(List α->Bool)->Bool) (fun _ k=>k []) (fun _ ih x k=>ih x fun r=>k (x::r)) n x k
def L0 (l:List α)(n:Nat)(k:Nat->Bool):Bool:=
 @AQ α (fun _=>Nat->(Nat->Bool)->Bool) (fun n k=>k n) (fun _ _ ih n k=>ih (.succ n) k) l n k
end
mutual
def YW (x:DV)(k:CD->Bool):Bool:=
 match x with
 | .int kd n=>k (.int kd n)
 | .bool b=>k (.bool b)
 | .str l=>k (.str l)
 | .nil=>k .nil
 | .raw v=>k (.raw v)
 | .sl .. =>xf 7
def Gz (l:List DV)(k:List CD->Bool):Bool:=
 match l with
 |[]=>k []
 |x::l=>YW x fun x=>Gz l fun l=>k (x::l)
end
def Ot (l:List AV)(k:List CA->Bool):Bool:=
 match l with
 |[]=>k []
 |x::l=>match x with
  | .d x=>YW x fun x=>Ot l fun l=>k (.d x::l)
  |_=>xf 8
def YV (x:AV)(k:CA->Bool):Bool:=
 match x with
 | .d x=>YW x fun x=>k (.d x)
 | .agg cs=>Ot cs fun cs=>k (.agg cs)
 | .fn f [] []=>k (.fn f [] [])
 |_=>xf 9
def du (ts:TS)(o:ah)(k:CA->Bool):Bool:=
 @ah.rec (fun _=>TS->(CA->Bool)->Bool) (fun i ts k=>G4 ts i k) (fun v _ k=>YV v k) o ts k
def Oc (ts:TS)(l:List ah)(k:List CA->Bool):Bool:=
 @AQ ah (fun _=>TS->(List CA->Bool)->Bool) (fun _ k=>k []) (fun x _ ih ts k=>du ts x fun x=>ih ts fun l=>k (x::l)) l ts k
def CA.cells:CA->List CA
 | .agg cs=>cs
 |v=>[v]
def dL (l:List CD)(k:List CA->Bool):Bool:=
 @AQ CD (fun _=>(List CA->Bool)->Bool) (fun k=>k []) (fun x _ ih k=>ih fun l=>k (.d x::l)) l k
def CH.get (h:CH)(l:Nat)(k:qz->Bool):Bool:=
 @CH.rec (fun _=>Nat->(qz->Bool)->Bool) (fun _ t l k=>G4 t l k) h l k
def CH.set (h:CH)(l:Nat)(o:qz)(k:CH->Bool):Bool:=
 @CH.rec (fun _=>Nat->qz->(CH->Bool)->Bool) (fun n t l o k=>KE t l o fun t=>k ⟨n,t⟩) h l o k
def CH.num (h:CH)(k:Nat->Bool):Bool:=
 @CH.rec (fun _=>(Nat->Bool)->Bool) (fun n _ k=>k n) h k
def CH.add (h:CH)(o:qz)(k:Nat->CH->Bool):Bool:=
 @CH.rec (fun _=>qz->(Nat->CH->Bool)->Bool) (fun n t o k=>TO t n o fun t=>fN (Ai n) fun m=>k n ⟨m,t⟩) h o k
def CA.one:CA->Bool
 | .lc=>AE
 | .any=>AE
 | .agg _=>AE
 | .tuple _=>AE
 |_=>AB
def Kv (vs:List CA)(k:Unit->Bool):Bool:=
 @AQ CA (fun _=>(Unit->Bool)->Bool) (fun k=>k ()) (fun v _ ih k=> @Ag (fun _=>Bool) (xf 12) (ih k) v.one) vs k
def II (s:Option Nat)(n:Nat)(k:Nat->Bool):Bool:=
 match s with
 |none=>k n
 |some s=>fN (AT s n) k
def cg (c:Bool)(k:Bool):Bool:=
 @Ag (fun _=>Bool->Bool) (fun _=>xf 13) (fun k=>k) c k
def U8 (rows:List (List CD))(s:Option Nat)(k:List (List CD)->Bool):Bool:=
 match s with
 |none=>k rows
 |some s=>K3 rows s k
def Oh (h:CH)(v:CA)(k:Nat->Nat->List (List CD)->Bool):Bool:=
 match v with
 | .d (.sl sz n e)=>k sz n e
 | .lm sz n e=>k sz n e
 | .bi l sz s n _=>h.get l fun
   | .arr sz' m e=>cg (AC sz sz') (II s n fun sn=>cg (AW sn m) (U8 e s fun e=>k sz n e))
   | .t0 sz' m e=>cg (AC sz sz') (II s n fun sn=>cg (AW sn m) (U8 e s fun e=>k sz n e))
   |_=>xf 14
 |_=>xf 15
def Zs (v:CA)(k:CD->Bool):Bool:=
 match v with
 | .d x=>k x
 | .fn f [] []=>k (.raw (.func (.func f) #[] #[]))
 |_=>xf 16
def K4 (l:List CA)(k:List CD->Bool):Bool:=
 @AQ CA (fun _=>(List CD->Bool)->Bool) (fun k=>k []) (fun x _ ih k=>Zs x fun x=>ih fun l=>k (x::l)) l k
def TU (l:List CD)(k:List (List CD)->Bool):Bool:=
 match l with
 |[]=>k []
 |x::l=>TU l fun l=>k ([x]::l)
def Uv (h:CH)(v:CA)(k:CA->Bool):Bool:=
 match v with
 | .d7 l off n=>h.get l fun
   | .var cs=>OA cs off n fun c=>K4 c fun ds=>TU ds fun rs=>k (.d (.sl 1 n rs))
   |_=>xf 17
 | .bi l sz s n f=>Oh h (.bi l sz s n f) fun sz n e=>k (.d (.sl sz n e))
 | .lm sz n e=>k (.d (.sl sz n e))
 |v=>k v
def RG (h:CH)(vs:List CA)(k:List CA->Bool):Bool:=
 match vs with
 |[]=>k []
 |v::r=>Uv h v fun v=>RG h r fun r=>k (v::r)
def Od (h:CH)(vs:List CA)(k:List CA->Bool):Bool:=
 match vs with
 |[]=>k []
 |v::r=>match v with
  | .agg cs=>RG h cs fun cs=>Od h r fun r=>k (.agg cs::r)
  |v=>Uv h v fun v=>Od h r fun r=>k (v::r)
def Rz (h:CH)(v:CA)(k:CA->CH->Bool):Bool:=
 match v with
 | .bi l sz s n f=>Oh h (.bi l sz s n f) fun sz n e=>h.get l fun
   | .arr sz' m e'=>h.set l (.t0 sz' m e') fun h=>k (.d (.sl sz n e)) h
   |_=>k (.d (.sl sz n e)) h
 | .lm sz n e=>k (.d (.sl sz n e)) h
 |v=>k v h
def JD (h:CH)(vs:List CA)(k:List CA->CH->Bool):Bool:=
 match vs with
 |[]=>k [] h
 |v::r=>Rz h v fun v h=>JD h r fun r h=>k (v::r) h
def Ul (h:CH)(l:Nat)(k:CA->CH->Bool):Bool:=
 h.get l fun
  | .var cs=>JD h cs fun cs h=>K4 cs fun row=>h.set l .gone fun h=>k (.d9 row .zero) h
  |_=>xf 92
def JE (h:CH)(vs:List CA)(k:List CA->CH->Bool):Bool:=
 match vs with
 |[]=>k [] h
 |v::r=>match v with
  | .agg cs=>JD h cs fun cs h=>JE h r fun r h=>k (.agg cs::r) h
  | .ptr l .zero=>Ul h l fun v h=>JE h r fun r h=>k (v::r) h
  |v=>Rz h v fun v h=>JE h r fun r h=>k (v::r) h
def b9i (h:CH)(v:CA)(k:List CD->CH->Bool):Bool:=
 JD h v.cells fun cs h=>K4 cs fun l=>k l h
def Gq (op:Av)(kd:AG)(x y:IX)(k:CD->Bool):Bool:=
 match op with
 | .add=>match x,y with
   | .l a,.l b=>fI (BG a b) fun c=>cg (Jr kd c) (k (.int kd (.l c)))
   |x,y=>fI (BG x.val y.val) fun c=>cg (Jr kd c) (k (.int kd (.v c)))
 | .sub=>match x,y with
   | .l a,.l b=>fI (A9 a b) fun c=>cg (Jr kd c) (k (.int kd (.l c)))
   |x,y=>fI (A9 x.val y.val) fun c=>cg (Jr kd c) (k (.int kd (.v c)))
 | .mul=>fI (Int.mul x.val y.val) fun c=>cg (Jr kd c) (k (.int kd (.v c)))
 | .quo=>cg (AU (Wn y.val (.ofNat .zero))) (fI (Int.tdiv x.val y.val) fun c=>cg (Jr kd c) (k (.int kd (.v c))))
 | .rem=>cg (AU (Wn y.val (.ofNat .zero))) (fI (Int.tmod x.val y.val) fun c=>k (.int kd (.v c)))
 | .eql=>fB (Wn x.val y.val) fun b=>k (.bool b)
 | .neq=>fB (Wn x.val y.val) fun b=>match b with
   |true=>k (.bool AE)
   |false=>k (.bool AB)
 | .lss=>fB (X7 x.val y.val) fun b=>k (.bool b)
 | .gtr=>fB (X7 y.val x.val) fun b=>k (.bool b)
 | .leq=>fB (Wa x.val y.val) fun b=>k (.bool b)
 | .geq=>fB (Wa y.val x.val) fun b=>k (.bool b)
 |_=>xf 18
def g2e (a b:Bool):Bool:=
 match a with
 |true=>b
 |false=>AU b
def Rr (ks:List AG)(xs ys:List CA)(k:Bool->Bool):Bool:=
 match ks with
 |[]=>match xs with
  |[]=>match ys with
   |[]=>k AB
   |_=>xf 19
  |_=>xf 19
 |kd::ks=>match xs with
  | .d (.int k1 x)::xs=>match ys with
    | .d (.int k2 y)::ys=>cg (Xw kd k1) (cg (Xw kd k2) (Rr ks xs ys fun b=>match Wn x.val y.val with
      |true=>k b
      |false=>k AE))
    |_=>xf 19
  |_=>xf 19
def N5 (ks:List CK)(xs ys:List CA)(k:Bool->Bool):Bool:=
 match ks with
 |[]=>match xs with
  |[]=>match ys with
   |[]=>k AB
   |_=>xf 19
  |_=>xf 19
 |kd::ks=>match xs with
  | .d x::xs=>match ys with
    | .d y::ys=>match kd with
      | .i kd=>match x with
        | .int k1 x=>match y with
          | .int k2 y=>cg (Xw kd k1) (cg (Xw kd k2) (N5 ks xs ys fun b=>match Wn x.val y.val with
            |true=>k b
            |false=>k AE))
          |_=>xf 19
        |_=>xf 19
      | .o=>match x with
        | .bool x=>match y with
          | .bool y=>N5 ks xs ys fun b=>match g2e x y with
            |true=>k b
            |false=>k AE
          |_=>xf 19
        |_=>xf 19
    |_=>xf 19
  |_=>xf 19
def Ob (ks:List AG)(xs:List CA)(k:List KC->Bool):Bool:=
 match ks with
 |[]=>match xs with
  |[]=>k []
  |_=>xf 20
 |kd::ks=>match xs with
  | .d (.int kd' x)::xs=>cg (Xw kd kd') (cg (Jr kd x.val) (Ob ks xs fun l=>k (.i x.val::l)))
  |_=>xf 20
def Mm (wide:Bool)(ks:List AG)(v:CA)(k:List KC->Bool):Bool:=
 match v with
 | .agg cs=>match wide with
   |true=>Ob ks cs k
   |false=>xf 21
 |v=>match wide with
  |true=>xf 21
  |false=>Ob ks [v] k
def Ks:List AG->List AG->Bool
 |[],[]=>AB
 |a::l,b::m=>match Xw a b with
  |true=>Ks l m
  |false=>AE
 |_,_=>AE
def KM:List UInt8->List UInt8->Bool
 |[],[]=>AB
 |a::l,b::m=>match AC a.toNat b.toNat with
  |true=>KM l m
  |false=>AE
 |_,_=>AE
def Za (a b:Bool):Bool:=
 match a with
 |true=>b
 |false=>AU b
def d6u:KC->KC->Bool
 | .i a,.i b=>Wn a b
 | .o a,.o b=>Za a b
 | .s a,.s b=>KM a b
 |_,_=>AE
def Iq:List KC->List KC->Bool
 |[],[]=>AB
 |a::l,b::m=>match d6u a b with
  |true=>Iq l m
  |false=>AE
 |_,_=>AE
def RE (es:List (List KC×Int))(kc:List KC)(k:Option Int->Bool):Bool:=
 match es with
 |[]=>k AO
 |e::es=>match e with
  |(k',v)=>match Iq kc k' with
   |true=>k (AL v)
   |false=>RE es kc k
def Up (kc:List KC)(ks:List (List KC))(vs:List CA)(k:Option CA->Bool):Bool:=
 match ks with
 |[]=>k AO
 |k'::ks=>match vs with
  |[]=>k AO
  |v::vs=>match Iq kc k' with
   |true=>k (AL v)
   |false=>Up kc ks vs k
def Ur (kc:List KC)(x:CA)(ks:List (List KC))(vs:List CA)(k:Option (List CA)->Bool):Bool:=
 match ks with
 |[]=>k AO
 |k'::ks=>match vs with
  |[]=>k AO
  |v::vs=>match Iq kc k' with
   |true=>k (AL (x::vs))
   |false=>Ur kc x ks vs fun r=>match r with
    |some l=>k (AL (v::l))
    |none=>k AO
def Uq (kc:List KC)(ks:List (List KC))(n:Nat)(k:Option Nat->Bool):Bool:=
 match ks with
 |[]=>k AO
 |k'::ks=>match Iq kc k' with
  |true=>k (AL n)
  |false=>Uq kc ks (.succ n) k
def e1q (rs:List (List CA))(k:List (List CD)->Bool):Bool:=
 @AQ (List CA) (fun _=>(List (List CD)->Bool)->Bool) (fun k=>k []) (fun r _ ih k=>K4 r fun l=>ih fun ls=>k (l::ls)) rs k
def GT (v:CA)(k:IX->Bool):Bool:=
 match v with
 | .d (.int .i64 n)=>k n
 |_=>xf 22
def Mh (v:CA)(k:Bool->Bool):Bool:=
 match v with
 | .d (.bool b)=>k b
 |_=>xf 23
def zc (n:IX)(k:Nat->Bool):Bool:=
 match n.val with
 | .ofNat m=>k m
 | .negSucc _=>k .zero
def Uk (ts:TS)(cs:List CA)(ps:List (Nat×Nat×ah))(k:List CA->Bool):Bool:=
 match ps with
 |[]=>k cs
 |p::r=>match p with
  |(off,sz,x)=>du ts x fun v=>L0 v.cells .zero fun n=>cg (AC n sz) (Kv v.cells (fun _=>Q1 cs off v.cells fun cs=>Uk ts cs r k))
def Rx (ts:TS)(sz:Nat)(rs:List (List CA))(ps:List (Nat×ah))(k:List (List CA)->Bool):Bool:=
 match ps with
 |[]=>k rs
 |p::r=>match p with
  |(i,x)=>du ts x fun v=>L0 v.cells .zero fun n=>cg (AC n sz) (Kv v.cells (fun _=>TY rs i v.cells fun rs=>Rx ts sz rs r k))
def RC (h:CH)(rs:List (List CA))(k:List (List CD)->CH->Bool):Bool:=
 match rs with
 |[]=>k [] h
 |r::rs=>JD h r fun cs h=>K4 cs fun l=>RC h rs fun ls h=>k (l::ls) h
def Uw (row:List CD)(off:Nat)(agg:Option Nat)(k:CA->Bool):Bool:=
 match agg with
 |none=>I0 (fun v=>k (.d v)) row off
 |some m=>OA row off m fun c=>dL c fun c=>k (.agg c)
def NM (rows:List (List CD))(i:Nat)(k:List CD->Bool):Bool:=I0 k rows i
def Ux (h:CH)(p:CA)(agg:Option Nat)(k:CA->Bool):Bool:=
 match p with
 | .ptr l off=>h.get l fun
   | .var cs=>match agg with
     |none=>I0 k cs off
     |some n=>OA cs off n fun c=>k (.agg c)
   |_=>xf 24
 | .ii l sz i off=>h.get l fun
   | .arr sz' n e=>cg (AC sz sz') (cg (AN i n) (NM e i fun r=>Uw r off agg k))
   | .t0 sz' n e=>cg (AC sz sz') (cg (AN i n) (NM e i fun r=>Uw r off agg k))
   |_=>xf 25
 | .d9 row off=>Uw row off agg k
 |_=>xf 26
def b8w (h:CH)(p v:CA)(sz:Nat)(k:CH->Bool):Bool:=
 match p with
 | .ptr l off=>L0 v.cells .zero fun n=>cg (AC n sz) (Kv v.cells (fun _=>h.get l fun
   | .var cs=>Q1 cs off v.cells fun cs=>h.set l (.var cs) k
   |_=>xf 27))
 | .ii l sz' i off=>L0 v.cells .zero fun n=>cg (AC n sz) (Kv v.cells (fun _=>h.get l fun
   | .arr _ _ _=>b9i h v fun new h=>h.get l fun
     | .arr ec n e=>cg (AC sz' ec) (cg (AN i n) (NM e i fun r=>Q1 r off new fun r=>TY e i r fun e=>h.set l (.arr ec n e) k))
     |_=>xf 28
   |_=>xf 28))
 |_=>xf 29
def CA.free:CA->Bool
 | .d _=>AB
 | .lm .. =>AB
 | .d9 .. =>AB
 | .fn _ [] []=>AB
 |_=>AE
def Sj (vs:List CA)(k:Unit->Bool):Bool:=
 match vs with
 |[]=>k ()
 |v::l=>match v.free with
  |true=>Sj l k
  |false=>xf 30
def IV (vs:List CA)(k:Unit->Bool):Bool:=
 match vs with
 |[]=>k ()
 |v::l=>match v with
  | .agg cs=>Sj cs fun _=>IV l k
  |v=>match v.free with
   |true=>IV l k
   |false=>xf 31
def CA.W5:CA->Bool
 | .ptr .. =>AB
 | .ii .. =>AB
 | .d9 .. =>AB
 |_=>AE
def zn (ts:TS)(x:Option ah)(d:IX)(k:IX->Bool):Bool:=
 match x with
 |none=>k d
 |some o=>du ts o fun v=>GT v k
def Mo (s:Option Nat)(lo:IX)(k:Option Nat->Bool):Bool:=
 match lo with
 | .l n=>match n with
   | .ofNat m=>match m with
     | .zero=>k s
     | .succ m=>match s with
       |none=>k (AL (.succ m))
       |some t=>fN (AT t (.succ m)) fun t=>k (AL t)
   | .negSucc _=>xf 32
 | .v n=>zc (.v n) fun m=>match s with
   |none=>k (AL m)
   |some t=>fN (AT t m) fun t=>k (AL t)
def a8j (ts:TS)(sz:Nat)(x:CA)(lo hi mx:Option ah)(k:CA->Bool):Bool:=
 match x with
 | .bi l sz' s n f=>cg (AC sz sz') (zn ts lo (.l (.ofNat .zero)) fun lo=>zn ts hi (.v (.ofNat n)) fun hi=>
    cg (Wa (.ofNat .zero) lo.val) (cg (Wa lo.val hi.val) (cg (Wa hi.val (.ofNat n)) (
     zc hi fun aq=>zc lo fun Nz=>fN (As aq Nz) fun len=>match mx with
      |none=>match f with
       |true=>cg (Wn hi.val (.ofNat n)) (Mo s lo fun s=>k (.bi l sz s len AB))
       |false=>Mo s lo fun s=>k (.bi l sz s len AE)
      |some m=>du ts m fun v=>GT v fun m=>cg (Wn m.val hi.val) (Mo s lo fun s=>k (.bi l sz s len AB))))))
 | .d (.sl sz' n e)=>cg (AC sz sz') (zn ts lo (.l (.ofNat .zero)) fun lo=>zn ts hi (.v (.ofNat n)) fun hi=>
    cg (Wa (.ofNat .zero) lo.val) (cg (Wa lo.val hi.val) (cg (Wa hi.val (.ofNat n)) (
     zc hi fun aq=>zc lo fun Nz=>fN (As aq Nz) fun len=>K3 e Nz fun e=>match mx with
      |none=>k (.d (.sl sz len e))
      |some m=>du ts m fun v=>GT v fun m=>cg (Wn m.val hi.val) (k (.lm sz len e))))))
 | .d .nil=>zn ts lo (.l (.ofNat .zero)) fun lo=>zn ts hi (.l (.ofNat .zero)) fun hi=>cg (Wn lo.val (.ofNat .zero)) (cg (Wn hi.val (.ofNat .zero)) (match mx with
    |none=>k (.d .nil)
    |some m=>du ts m fun v=>GT v fun m=>cg (Wn m.val (.ofNat .zero)) (k (.d .nil))))
 |_=>xf 33
def N9 (i:IX)(n:Nat)(k:Nat->Bool):Bool:=
 match i.val with
 | .ofNat m=>cg (AN m n) (k m)
 | .negSucc _=>xf 34
def a9e (sz:Nat)(x:CA)(i:IX)(k:CA->Bool):Bool:=
 match x with
 | .bi l sz' s n _=>cg (AC sz sz') (N9 i n fun j=>II s j fun j=>k (.ii l sz j .zero))
 | .d (.sl sz' n e)=>cg (AC sz sz') (N9 i n fun j=>NM e j fun r=>k (.d9 r .zero))
 | .lm sz' n e=>cg (AC sz sz') (N9 i n fun j=>NM e j fun r=>k (.d9 r .zero))
 |_=>xf 35
def RI (sz:Nat)(h:CH)(v:CA)(k:Nat->Nat->List (List CD)->Bool):Bool:=
 match v with
 | .d .nil=>k sz .zero []
 |v=>Oh h v k
def zo (l m:Nat)(v:CA)(k:CA->Bool):Bool:=
 @Ag (fun _=>Bool) (k v) (k .any) (AC l m)
def c7q (l:Nat)(v:CA)(k:CA->Bool):Bool:=
 @CA.rec (fun _=>Nat->(CA->Bool)->Bool) (fun _=>Nat->(List CA->Bool)->Bool)
   (fun x _ k=>k (.d x)) (fun _ k=>k .any) (fun _ k=>k .lc) (fun _ ih l k=>ih l fun cs=>k (.agg cs)) (fun _ ih l k=>ih l fun cs=>k (.tuple cs))
   (fun m off l k=>zo l m (.ptr m off) k) (fun m sz i off l k=>zo l m (.ii m sz i off) k) (fun row off _ k=>k (.d9 row off)) (fun sz n e _ k=>k (.lm sz n e))
   (fun m sz s n f l k=>zo l m (.bi m sz s n f) k) (fun m off n l k=>zo l m (.d7 m off n) k) (fun m l k=>zo l m (.map m) k)
   (fun f _ _ LW LU l k=>LW l fun us=>LU l fun cs=>k (.fn f us cs)) (fun m _ k=>k (.ge m)) (fun m l k=>zo l m (.yl m) k)
   (fun _ k=>k []) (fun _ _ ih LV l k=>ih l fun v=>LV l fun r=>k (v::r)) v l k
def Ry (l:Nat)(vs:List CA)(k:List CA->Bool):Bool:=
 @CA.rec_1 (fun _=>Nat->(CA->Bool)->Bool) (fun _=>Nat->(List CA->Bool)->Bool)
   (fun x _ k=>k (.d x)) (fun _ k=>k .any) (fun _ k=>k .lc) (fun _ ih l k=>ih l fun cs=>k (.agg cs)) (fun _ ih l k=>ih l fun cs=>k (.tuple cs))
   (fun m off l k=>zo l m (.ptr m off) k) (fun m sz i off l k=>zo l m (.ii m sz i off) k) (fun row off _ k=>k (.d9 row off)) (fun sz n e _ k=>k (.lm sz n e))
   (fun m sz s n f l k=>zo l m (.bi m sz s n f) k) (fun m off n l k=>zo l m (.d7 m off n) k) (fun m l k=>zo l m (.map m) k)
   (fun f _ _ LW LU l k=>LW l fun us=>LU l fun cs=>k (.fn f us cs)) (fun m _ k=>k (.ge m)) (fun m l k=>zo l m (.yl m) k)
   (fun _ k=>k []) (fun _ _ ih LV l k=>ih l fun v=>LV l fun r=>k (v::r)) vs l k
def Ml (l:Nat)(t:TS)(k:TS->Bool):Bool:=
 @BT.rec CA (fun _=>Nat->(TS->Bool)->Bool) (fun _ k=>k .leaf) (fun v _ _ il ir l k=>c7q l v fun v=>il l fun tl=>ir l fun tr=>k (.node v tl tr)) t l k
def c1f (l:Nat)(o:qz)(k:qz->Bool):Bool:=
 match o with
 | .var cs=>Ry l cs fun cs=>k (.var cs)
 | .dz wide ks keys ap=>Ry l ap fun ap=>k (.dz wide ks keys ap)
 | .loop s ts ps A a b=>Ml l ts fun ts=>k (.loop s ts ps A a b)
 |o=>k o
def Gs (l:Nat)(t:BT qz)(k:BT qz->Bool):Bool:=
 @BT.rec qz (fun _=>Nat->(BT qz->Bool)->Bool) (fun _ k=>k .leaf) (fun v _ _ il ir l k=>c1f l v fun v=>il l fun tl=>ir l fun tr=>k (.node v tl tr)) t l k
def c1o (l:Nat)(h:CH)(k:CH->Bool):Bool:=
 @CH.rec (fun _=>Nat->(CH->Bool)->Bool) (fun n t l k=>Gs l t fun t=>k ⟨n,t⟩) h l k
def IE (pg:List Nat)(ts:TS)(k:TS->Bool):Bool:=
 match pg with
 |[]=>k ts
 |l::pg=>Ml l ts fun ts=>IE pg ts k
def Kq (l:Nat):List Nat->Bool
 |[]=>AE
 |m::r=>match AC l m with
  |true=>AB
  |false=>Kq l r
def Gu (base:Nat)(pg mv:List Nat)(k:List Nat->Bool):Bool:=
 match pg with
 |[]=>k mv
 |l::pg=>match AN l base with
  |true=>match Kq l mv with
   |true=>Gu base pg mv k
   |false=>Gu base pg (l::mv) k
  |false=>Gu base pg mv k
def e9q (v:CA)(k:CA->Bool):Bool:=
 @CA.rec (fun _=>(CA->Bool)->Bool) (fun _=>(List CA->Bool)->Bool)
   (fun x k=> @CD.rec (fun _=>(CA->Bool)->Bool) (fun _=>Bool) (fun _=>Bool) (fun kd n k=>k (.d (.int kd (.v n.val)))) (fun b k=>k (.d (.bool b))) (fun l k=>k (.d (.str l))) (fun k=>k (.d .nil)) (fun sz n e _ k=>k (.d (.sl sz n e))) (fun v k=>k (.d (.raw v))) AB (fun _ _ _ _=>AB) AB (fun _ _ _ _=>AB) x k)
   (fun k=>k .any) (fun k=>k .lc) (fun _ ih k=>ih fun cs=>k (.agg cs)) (fun _ ih k=>ih fun cs=>k (.tuple cs))
   (fun m off k=>k (.ptr m off)) (fun m sz i off k=>k (.ii m sz i off)) (fun row off k=>k (.d9 row off)) (fun sz n e k=>k (.lm sz n e))
   (fun m sz s n f k=>k (.bi m sz s n f)) (fun m off n k=>k (.d7 m off n)) (fun m k=>k (.map m))
   (fun f _ _ LW LU k=>LW fun us=>LU fun cs=>k (.fn f us cs)) (fun m k=>k (.ge m)) (fun m k=>k (.yl m))
   (fun k=>k []) (fun _ _ ih LV k=>ih fun v=>LV fun r=>k (v::r)) v k
def JF (vs:List CA)(k:List CA->Bool):Bool:=
 @CA.rec_1 (fun _=>(CA->Bool)->Bool) (fun _=>(List CA->Bool)->Bool)
   (fun x k=> @CD.rec (fun _=>(CA->Bool)->Bool) (fun _=>Bool) (fun _=>Bool) (fun kd n k=>k (.d (.int kd (.v n.val)))) (fun b k=>k (.d (.bool b))) (fun l k=>k (.d (.str l))) (fun k=>k (.d .nil)) (fun sz n e _ k=>k (.d (.sl sz n e))) (fun v k=>k (.d (.raw v))) AB (fun _ _ _ _=>AB) AB (fun _ _ _ _=>AB) x k)
   (fun k=>k .any) (fun k=>k .lc) (fun _ ih k=>ih fun cs=>k (.agg cs)) (fun _ ih k=>ih fun cs=>k (.tuple cs))
   (fun m off k=>k (.ptr m off)) (fun m sz i off k=>k (.ii m sz i off)) (fun row off k=>k (.d9 row off)) (fun sz n e k=>k (.lm sz n e))
   (fun m sz s n f k=>k (.bi m sz s n f)) (fun m off n k=>k (.d7 m off n)) (fun m k=>k (.map m))
   (fun f _ _ LW LU k=>LW fun us=>LU fun cs=>k (.fn f us cs)) (fun m k=>k (.ge m)) (fun m k=>k (.yl m))
   (fun k=>k []) (fun _ _ ih LV k=>ih fun v=>LV fun r=>k (v::r)) vs k
def Mq (h:CH)(sz:Nat)(x y:CA)(mu:Bool)(k:CA->CH->List Nat->Bool):Bool:=
 RI sz h y fun qf m e2=>cg (AC sz qf) (match x with
  | .d .nil=>cg (AW m 1073741824) (match mu with
    |true=>h.add (.arr sz m e2) fun n0 h'=>k (.bi n0 sz AO m AE) h' []
    |false=>k (.d (.sl sz m e2)) h [])
  | .lm sz' n e=>cg (AC sz sz') (fN (AT n m) fun nm=>cg (AW nm 1073741824) (cg (AN .zero m) (T7 e n e2 fun e=>match mu with
    |true=>h.add (.arr sz nm e) fun n0 h'=>k (.bi n0 sz AO nm AE) h' []
    |false=>k (.d (.sl sz nm e)) h [])))
  | .bi l sz' AO n AE=>cg (AC sz sz') (h.get l fun
    | .arr ec n' e=>cg (AC sz ec) (cg (AC n' n) (fN (AT n m) fun nm=>cg (AW nm 1073741824) (T7 e n e2 fun e=>h.set l (.arr sz nm e) fun h=>c1o l h fun h=>k (.bi l sz AO nm AE) h [l])))
    |_=>xf 36)
  | .bi l sz' s n AB=>cg (AC sz sz') (Oh h (.bi l sz' s n AB) fun _ n e=>fN (AT n m) fun nm=>cg (AW nm 1073741824) (cg (AN .zero m) (T7 e n e2 fun e=>match mu with
    |true=>h.add (.arr sz nm e) fun n0 h'=>k (.bi n0 sz AO nm AE) h' []
    |false=>k (.d (.sl sz nm e)) h [])))
  |_=>xf 37)
def Oa (v:CA):Bool:=
 match v with
 | .d .nil=>AB
 | .d (.sl _ n _)=>AC n .zero
 | .lm _ n _=>AC n .zero
 | .bi _ _ _ n _=>AC n .zero
 |_=>AE
def Uo (v:CA):Bool:=
 match v with
 | .lm _ n _=>AC n .zero
 |_=>AE
def c6n (v:CA):Bool:=
 match v with
 | .d .nil=>AB
 |_=>AE
def c0o (s:Option Nat):Nat:=
 match s with
 |none=> .zero
 |some s=>s
def a8m (h:CH)(sz:Nat)(x y:CA)(k:CA->CH->Bool):Bool:=
 RI sz h y fun qf m e2=>cg (AC sz qf) (match x with
  | .bi l sz' s n AE=>cg (AC sz sz') (h.get l fun
    | .arr ec n' e=>cg (AC sz ec) (II s n fun sn=>cg (AW (AT sn m) n') (Gm e sn m e2 fun e=>h.set l (.arr sz n' e) fun h=>fN (AT n m) fun nm=>k (.bi l sz s nm AE) h))
    |_=>xf 38)
  |_=>xf 39)
def TV (e:List (List CD))(n:Nat)(k:List CA->Bool):Bool:=
 match n with
 | .zero=>k []
 | .succ n=>match e with
   |[]=>xf 76
   |r::e=>match r with
    |[x]=>TV e n fun l=>k (.d x::l)
    |_=>xf 77
def Us (a b:Nat):Nat:=
 match AW a b with
 |true=>a
 |false=>b
def b1r (h:CH)(sz:Nat)(x y:CA)(k:CA->CH->Bool):Bool:=
 RI sz h y fun qf m e2=>cg (AC sz qf) (match x with
  | .bi l sz' s n _=>cg (AC sz sz') (h.get l fun
    | .arr ec n' e=>cg (AC sz ec) (II s n fun sn=>cg (AW sn n') (fN (Us n m) fun nm=>Gm e (c0o s) nm e2 fun e=>h.set l (.arr sz n' e) fun h=>k (.d (.int .i64 (.v (.ofNat nm)))) h))
    |_=>xf 40)
  | .d7 l off n=>cg (AC sz 1) (h.get l fun
    | .var cs=>fN (Us n m) fun nm=>TV e2 nm fun new=>Q1 cs off new fun cs=>h.set l (.var cs) fun h=>k (.d (.int .i64 (.v (.ofNat nm)))) h
    |_=>xf 78)
  |_=>xf 41)
def f1s (l:List UInt8)(i:Nat)(k:UInt8->Bool):Bool:=I0 k l i
structure XS where
 wr:Bool->Ab->List CA->(CA->Bool)->Bool
 call:Ab->List CA->CH->(List Nat->CA->CH->Bool)->Bool
 X8:Nat->List CA->CH->(List Nat->CA->CH->Bool)->Bool
 loop:A2->Nat->Bool->gy->(Lv->TS->CH->List Nat->Bool)->TS->CH->List Nat->Bool
def ON (v:CA):CA:=
 match v with
 | .d (.raw (.func (.func f) us vs))=>match AC us.size .zero with
   |true=>(match AC vs.size .zero with
    |true=> .fn f [] []
    |false=> .any)
   |false=> .any
 |v=>v
def f0b (X:XS)(ts:TS)(h:CH)(f:ah)(args:List ah)(m:Mode)(k:CA->CH->List Nat->Bool):Bool:=
 du ts f fun v=>match ON v with
  | .fn f first cap=>Oc ts args fun args=>IL args cap fun r=>IL first r fun vs=>match m with
    | .borrow=>Od h vs fun vs=>IV vs (fun _=>JF vs fun vs=>X.wr AB f vs fun v=>k v h [])
    | .share=>JE h vs fun vs h=>IV vs (fun _=>JF vs fun vs=>X.wr AE f vs fun v=>k v h [])
    | .data=>IV vs (fun _=>JF vs fun vs=>X.wr AE f vs fun v=>k v h [])
    | .raw=>JF vs fun vs=>X.call f vs h fun pg v h=>k v h pg
    | .fresh=>xf 42
  | .yl l=>match m with
    | .raw=>Oc ts args fun args=>JF args fun args=>X.X8 l args h fun pg v h=>k v h pg
    |_=>xf 43
  |_=>xf 44
def b4a (ts:TS)(sz sz' n:Nat)(lo hi mx:Option ah)(k:Unit->Bool):Bool:=
 cg (AC sz sz') (zn ts lo (.l (.ofNat .zero)) fun lo=>zn ts hi (.v (.ofNat n)) fun hi=>zn ts mx (.v (.ofNat n)) fun mx=>
  cg (Wa (.ofNat .zero) lo.val) (cg (Wa lo.val hi.val) (cg (Wa hi.val mx.val) (cg (Wa mx.val (.ofNat n)) (k ())))))
def f3i (x:ah)(_:XS)(ts:TS)(h:CH)(k:CA->CH->List Nat->Bool):Bool:=
 du ts x fun v=>k v h []
def c1m (sz:Nat)(_:XS)(_:TS)(h:CH)(k:CA->CH->List Nat->Bool):Bool:=
 h.add (.arr sz .zero []) fun n0 h'=>k (.bi n0 sz AO .zero AE) h' []
def d5r (sz:Nat)(_:XS)(_:TS)(h:CH)(k:CA->CH->List Nat->Bool):Bool:=
 h.add (.arr sz .zero []) fun n0 h'=>k (.bi n0 sz AO .zero AE) h' []
def d6c (c:ah)(a:ah)(b:ah)(_:XS)(ts:TS)(h:CH)(k:CA->CH->List Nat->Bool):Bool:=
 du ts c fun v=>Mh v fun c=>match c with
  |true=>du ts a fun v=>k v h []
  |false=>du ts b fun v=>k v h []
def c7c (zs:List DV)(_:XS)(_:TS)(h:CH)(k:CA->CH->List Nat->Bool):Bool:=
 Gz zs fun zs=>dL zs fun zs=>h.add (.var zs) fun n0 h'=>k (.ptr n0 .zero) h' []
def e4a (x:ah)(_:XS)(ts:TS)(h:CH)(k:CA->CH->List Nat->Bool):Bool:=
 du ts x fun v=>Kv v.cells (fun _=>h.add (.var v.cells) fun n0 h'=>k (.ptr n0 .zero) h' [])
def c6y (zs:List DV)(ps:List (Nat×Nat×ah))(_:XS)(ts:TS)(h:CH)(k:CA->CH->List Nat->Bool):Bool:=
 Gz zs fun zs=>dL zs fun zs=>Uk ts zs ps fun cs=>k (.agg cs) h []
def c2k (sz:Nat)(len:Nat)(zs:List DV)(ps:List (Nat×ah))(mu:Bool)(_:XS)(ts:TS)(h:CH)(k:CA->CH->List Nat->Bool):Bool:=
 Gz zs fun zs=>dL zs fun zs=>NK zs len fun rs=>Rx ts sz rs ps fun rs=>RC h rs fun rows h=>match mu with
  |true=>h.add (.arr sz len rows) fun n0 h'=>k (.bi n0 sz AO len AE) h' []
  |false=>k (.d (.sl sz len rows)) h []
def d4z (agg:Option Nat)(x:ah)(_:XS)(ts:TS)(h:CH)(k:CA->CH->List Nat->Bool):Bool:=
 du ts x fun p=>Ux h p agg fun v=>k v h []
def c6r (sz:Nat)(a:ah)(x:ah)(_:XS)(ts:TS)(h:CH)(k:CA->CH->List Nat->Bool):Bool:=
 du ts a fun p=>du ts x fun v=>b8w h p v sz fun h=>k .lc h []
def c3k (x:ah)(_:XS)(ts:TS)(h:CH)(k:CA->CH->List Nat->Bool):Bool:=
 du ts x fun v=>cg v.W5 (k v h [])
def e3f (op:Av)(x:ah)(y:ah)(_:XS)(ts:TS)(h:CH)(k:CA->CH->List Nat->Bool):Bool:=
 du ts x fun x=>du ts y fun y=>match x with
  | .d (.int kd a)=>match y with
    | .d (.int kd' b)=>cg (Xw kd kd') (Gq op kd a b fun v=>k (.d v) h [])
    | .ge m=>match op with
      | .gtr=>cg (Xw kd .i64) (cg (Wa a.val (.ofNat m)) (k (.d (.bool AE)) h []))
      |_=>xf 45
    |_=>xf 46
  |_=>xf 47
def f2y (op:Av)(x:ah)(y:ah)(_:XS)(ts:TS)(h:CH)(k:CA->CH->List Nat->Bool):Bool:=
 du ts x fun x=>du ts y fun y=>match x with
  | .d (.int kd a)=>match y with
    | .d (.int kd' b)=>match Oq op with
      | .zero=>xf 88
      | .succ n=>match n with
        | .zero=>cg (Wa (.ofNat .zero) b.val) (fI (T1 op kd a.val b.val) fun c=>k (.d (.int kd (.v c))) h [])
        | .succ n=>match n with
          | .zero=>cg (Xw kd kd') (fI (RX op kd a.val b.val) fun c=>k (.d (.int kd (.v c))) h [])
          | .succ _=>xf 88
    |_=>xf 88
  |_=>xf 88
def d5u (op:Av)(x:ah)(y:ah)(_:XS)(ts:TS)(h:CH)(k:CA->CH->List Nat->Bool):Bool:=
 du ts x fun x=>Mh x fun a=>du ts y fun y=>Mh y fun b=>match op with
  | .eql=>match a with
    |true=>k (.d (.bool b)) h []
    |false=>match b with
     |true=>k (.d (.bool AE)) h []
     |false=>k (.d (.bool AB)) h []
  | .neq=>match a with
    |false=>k (.d (.bool b)) h []
    |true=>match b with
     |true=>k (.d (.bool AE)) h []
     |false=>k (.d (.bool AB)) h []
  |_=>xf 48
def e2x (neg:Bool)(ks:List AG)(x:ah)(y:ah)(_:XS)(ts:TS)(h:CH)(k:CA->CH->List Nat->Bool):Bool:=
 du ts x fun x=>du ts y fun y=>match x with
  | .agg xs=>match y with
    | .agg ys=>Rr ks xs ys fun b=>match neg with
      |true=>(match b with
       |true=>k (.d (.bool AE)) h []
       |false=>k (.d (.bool AB)) h [])
      |false=>k (.d (.bool b)) h []
    |_=>xf 83
  |_=>xf 83
def d5b (neg:Bool)(ks:List CK)(x:ah)(y:ah)(_:XS)(ts:TS)(h:CH)(k:CA->CH->List Nat->Bool):Bool:=
 du ts x fun x=>du ts y fun y=>match x with
  | .agg xs=>match y with
    | .agg ys=>N5 ks xs ys fun b=>match neg with
      |true=>(match b with
       |true=>k (.d (.bool AE)) h []
       |false=>k (.d (.bool AB)) h [])
      |false=>k (.d (.bool b)) h []
    |_=>xf 83
  |_=>xf 83
def g1j (op:UnOp)(x:ah)(_:XS)(ts:TS)(h:CH)(k:CA->CH->List Nat->Bool):Bool:=
 du ts x fun x=>match op with
  | .not=>Mh x fun b=>match b with
    |true=>k (.d (.bool AE)) h []
    |false=>k (.d (.bool AB)) h []
  | .neg=>match x with
    | .d (.int kd n)=>fI (A9 (.ofNat .zero) n.val) fun c=>cg (Jr kd c) (k (.d (.int kd (.v c))) h [])
    |_=>xf 49
  |_=>xf 49
def d5v (kd:AG)(x:ah)(_:XS)(ts:TS)(h:CH)(k:CA->CH->List Nat->Bool):Bool:=
 du ts x fun x=>match x with
  | .d (.int _ n)=>fI (kd.wrap n.val) fun c=>k (.d (.int kd (.v c))) h []
  |_=>xf 50
def d5h (f:Ab)(first:List ah)(cap:List ah)(_:XS)(ts:TS)(h:CH)(k:CA->CH->List Nat->Bool):Bool:=
 Oc ts first fun us=>Oc ts cap fun cs=>k (.fn f us cs) h []
def d0g (wide:Bool)(ks:List AG)(_:XS)(_:TS)(h:CH)(k:CA->CH->List Nat->Bool):Bool:=
 h.add (.map wide ks .zero []) fun n0 h'=>k (.map n0) h' []
def b6o (sz:Nat)(zs:List DV)(_:Nat)(n:ah)(_:XS)(ts:TS)(h:CH)(k:CA->CH->List Nat->Bool):Bool:=
 Gz zs fun zs=>du ts n fun v=>GT v fun n=>cg (Wa (.ofNat .zero) n.val) (cg (Wa n.val (.ofNat 1073741824)) (zc n fun n=>NK zs n fun rows=>
  h.add (.arr sz n rows) fun n0 h'=>k (.bi n0 sz AO n AE) h' []))
def c7r (sz:Nat)(x:ah)(lo:Option ah)(hi:Option ah)(mx:Option ah)(_:XS)(ts:TS)(h:CH)(k:CA->CH->List Nat->Bool):Bool:=
 du ts x fun x=>a8j ts sz x lo hi mx fun v=>k v h []
def d0j (n:Nat)(x:ah)(lo:Option ah)(hi:Option ah)(_:XS)(ts:TS)(h:CH)(k:CA->CH->List Nat->Bool):Bool:=
 du ts x fun x=>match x with
  | .ptr l off=>zn ts lo (.l (.ofNat .zero)) fun lo=>zn ts hi (.l (.ofNat n)) fun hi=>
     cg (Wa (.ofNat .zero) lo.val) (cg (Wa lo.val hi.val) (cg (Wa hi.val (.ofNat n)) (zc lo fun lo=>zc hi fun hi=>fN (AT off lo) fun off=>match As hi lo with
      | .zero=>k (.d (.sl 1 .zero [])) h []
      | .succ m=>k (.d7 l off (.succ m)) h [])))
  |_=>xf 51
def c6l (off:Nat)(x:ah)(_:XS)(ts:TS)(h:CH)(k:CA->CH->List Nat->Bool):Bool:=
 du ts x fun x=>match x with
  | .ptr l o=>fN (AT o off) fun o=>k (.ptr l o) h []
  | .ii l sz i o=>fN (AT o off) fun o=>k (.ii l sz i o) h []
  | .d9 row o=>fN (AT o off) fun o=>k (.d9 row o) h []
  |_=>xf 52
def c6v (off:Nat)(agg:Option Nat)(x:ah)(_:XS)(ts:TS)(h:CH)(k:CA->CH->List Nat->Bool):Bool:=
 du ts x fun x=>match x with
  | .agg cs=>match agg with
    |none=>I0 (fun v=>k v h []) cs off
    |some n=>OA cs off n fun c=>k (.agg c) h []
  |_=>xf 53
def c9b (sz:Nat)(x:ah)(i:ah)(_:XS)(ts:TS)(h:CH)(k:CA->CH->List Nat->Bool):Bool:=
 du ts i fun v=>GT v fun i=>du ts x fun x=>a9e sz x i fun v=>k v h []
def c2m (n:Nat)(sz:Nat)(x:ah)(i:ah)(_:XS)(ts:TS)(h:CH)(k:CA->CH->List Nat->Bool):Bool:=
 du ts i fun v=>GT v fun i=>du ts x fun x=>match x with
  | .ptr l off=>match i with
    | .l i=>match i with
      | .ofNat i=>cg (AN i n) (fN (AT off (BF i sz)) fun o=>k (.ptr l o) h [])
      | .negSucc _=>xf 54
    | .v i=>match i with
      | .ofNat i=>cg (AN i n) (fN (AT off (BF i sz)) fun o=>k (.ptr l o) h [])
      | .negSucc _=>xf 55
  |_=>xf 56
def c2a (wide:Bool)(ks:List AG)(ok:Bool)(m:ah)(kx:ah)(_:XS)(ts:TS)(h:CH)(k:CA->CH->List Nat->Bool):Bool:=
 du ts m fun m=>match m with
  | .map l=>h.get l fun
    | .map ct dt _ es=>cg (match wide with|true=>ct|false=>AU ct) (cg (Ks ks dt) (du ts kx fun kx=>Mm wide ks kx fun kc=>RE es kc fun r=>match r with
      |some n=>match ok with
       |true=>k (.tuple [.d (.int .i64 (.v n)),.d (.bool AB)]) h []
       |false=>k (.d (.int .i64 (.v n))) h []
      |none=>match ok with
       |true=>k (.tuple [.d (.int .i64 (.v (.ofNat .zero))),.d (.bool AE)]) h []
       |false=>k (.d (.int .i64 (.v (.ofNat .zero)))) h []))
    |_=>xf 57
  |_=>xf 58
def c2h (wide:Bool)(ks:List AG)(m:ah)(kx:ah)(x:ah)(_:XS)(ts:TS)(h:CH)(k:CA->CH->List Nat->Bool):Bool:=
 du ts m fun m=>match m with
  | .map l=>h.get l fun
    | .map ct dt n es=>cg (match wide with|true=>ct|false=>AU ct) (cg (Ks ks dt) (du ts kx fun kx=>Mm wide ks kx fun kc=>du ts x fun x=>GT x fun x=>RE es kc fun r=>match r with
      |some _=>h.set l (.map wide ks n ((kc,x.val)::es)) fun h=>k .lc h []
      |none=>fN (Ai n) fun n=>h.set l (.map wide ks n ((kc,x.val)::es)) fun h=>k .lc h []))
    |_=>xf 59
  |_=>xf 60
def b6i (x:ah)(i:Nat)(_:XS)(ts:TS)(h:CH)(k:CA->CH->List Nat->Bool):Bool:=
 du ts x fun x=>match x with
  | .tuple vs=>I0 (fun v=>k v h []) vs i
  |_=>xf 61
def d5y (f:ah)(args:List ah)(m:Mode)(X:XS)(ts:TS)(h:CH)(k:CA->CH->List Nat->Bool):Bool:=
 f0b X ts h f args m k
def e2a (x:ah)(_:XS)(ts:TS)(h:CH)(k:CA->CH->List Nat->Bool):Bool:=
 du ts x fun x=>match x with
  | .d .nil=>k (.d (.int .i64 (.l (.ofNat .zero)))) h []
  | .d (.sl _ n _)=>k (.d (.int .i64 (.v (.ofNat n)))) h []
  | .lm _ n _=>k (.d (.int .i64 (.v (.ofNat n)))) h []
  | .bi _ _ _ n _=>k (.d (.int .i64 (.v (.ofNat n)))) h []
  | .d7 _ _ n=>k (.d (.int .i64 (.v (.ofNat n)))) h []
  |_=>xf 62
def d4x (x:ah)(_:XS)(ts:TS)(h:CH)(k:CA->CH->List Nat->Bool):Bool:=
 du ts x fun x=>match x with
  | .map l=>h.get l fun
    | .map _ _ n _=>k (.d (.int .i64 (.v (.ofNat n)))) h []
    |_=>xf 63
  |_=>xf 64
def e1w (x:ah)(_:XS)(ts:TS)(h:CH)(k:CA->CH->List Nat->Bool):Bool:=
 du ts x fun x=>match x with
  | .bi l sz s n f=>h.get l fun
    | .arr sz' m _=>cg (AC sz sz') (match f with
      |true=>k (.d (.int .i64 (.v (.ofNat n)))) h []
      |false=>match s with
       |none=>k (.ge m) h []
       |some s=>fN (As m s) fun m=>k (.ge m) h [])
    |_=>xf 65
  |_=>xf 66
def e3l (x:ah)(y:ah)(_:XS)(ts:TS)(h:CH)(k:CA->CH->List Nat->Bool):Bool:=
 du ts x fun x=>du ts y fun y=>match x with
  | .d (.int kd a)=>match y with
    | .d (.int kd' b)=>cg (Xw kd kd') (match X7 b.val a.val with
      |true=>k (.d (.int kd (.v b.val))) h []
      |false=>k (.d (.int kd (.v a.val))) h [])
    |_=>xf 67
  |_=>xf 68
def e1f (x:ah)(y:ah)(_:XS)(ts:TS)(h:CH)(k:CA->CH->List Nat->Bool):Bool:=
 du ts x fun x=>du ts y fun y=>match x with
  | .d (.int kd a)=>match y with
    | .d (.int kd' b)=>cg (Xw kd kd') (match X7 a.val b.val with
      |true=>k (.d (.int kd (.v b.val))) h []
      |false=>k (.d (.int kd (.v a.val))) h [])
    |_=>xf 67
  |_=>xf 68
def c2g (sz:Nat)(_:Nat)(x:ah)(y:ah)(mu:Bool)(_:XS)(ts:TS)(h:CH)(k:CA->CH->List Nat->Bool):Bool:=
 du ts x fun x=>du ts y fun y=>Mq h sz x y mu k
def d5o (sz:Nat)(x:ah)(y:ah)(_:XS)(ts:TS)(h:CH)(k:CA->CH->List Nat->Bool):Bool:=
 du ts x fun x=>du ts y fun y=>b1r h sz x y fun v h=>k v h []
def Mg (_:XS)(_:TS)(_:CH)(_:CA->CH->List Nat->Bool):Bool:=
 xf 69
def b3i (sz:Nat)(x:ah)(y:ah)(_:XS)(ts:TS)(h:CH)(k:CA->CH->List Nat->Bool):Bool:=
 du ts x fun x=>du ts y fun y=>a8m h sz x y fun v h=>k v h []
def c6w (sz:Nat)(zs:List DV)(x:ah)(_:XS)(ts:TS)(h:CH)(k:CA->CH->List Nat->Bool):Bool:=
 Gz zs fun zs=>du ts x fun x=>match x with
  | .bi l sz' s n _=>cg (AC sz sz') (h.get l fun
    | .arr ec n' e=>cg (AC sz ec) (II s n fun sn=>cg (AW sn n') (NK zs n fun new=>Gm e (c0o s) n new fun e=>h.set l (.arr sz n' e) fun h=>k .any h []))
    |_=>xf 70)
  |_=>xf 71
def c7u (neg:Bool)(x:ah)(_:XS)(ts:TS)(h:CH)(k:CA->CH->List Nat->Bool):Bool:=
 du ts x fun x=>match x with
  | .d .nil=>(match neg with
    |true=>k (.d (.bool AE)) h []
    |false=>k (.d (.bool AB)) h [])
  | .d (.sl _ n _)=>cg (AN .zero n) (k (.d (.bool neg)) h [])
  | .lm _ n _=>cg (AN .zero n) (k (.d (.bool neg)) h [])
  | .bi _ _ _ n _=>cg (AN .zero n) (k (.d (.bool neg)) h [])
  |_=>xf 72
def c1r (sz:Nat)(x:ah)(lo:Option ah)(hi:Option ah)(_:XS)(ts:TS)(h:CH)(k:CA->CH->List Nat->Bool):Bool:=
 du ts x fun x=>match x with
  | .bi l sz' s n AE=>cg (AC sz sz') (h.get l fun
    | .arr ec n' _=>cg (AC sz ec) (zn ts lo (.l (.ofNat .zero)) fun lo=>zn ts hi (.v (.ofNat n)) fun hi=>
       cg (Wa (.ofNat .zero) lo.val) (cg (Wa lo.val hi.val) (zc hi fun aq=>II s aq fun shi=>cg (AW shi n') (zc lo fun Nz=>fN (As aq Nz) fun len=>Mo s lo fun s=>k (.bi l sz s len AE) h []))))
    |_=>xf 73)
  |_=>xf 74
def d5k (l:List UInt8)(x:ah)(_:XS)(ts:TS)(h:CH)(k:CA->CH->List Nat->Bool):Bool:=
 du ts x fun x=>match x with
  | .d (.int _ i)=>zc i fun n=>cg (Wa (.ofNat .zero) i.val) (f1s l n fun b=>fN b.toNat fun b=>k (.d (.int .u8 (.v (.ofNat b)))) h [])
  |_=>xf 75
def c7e (sz:Nat)(x:ah)(lo:Option ah)(hi:Option ah)(mx:Option ah)(_:XS)(ts:TS)(h:CH)(k:CA->CH->List Nat->Bool):Bool:=
 du ts x fun x=>match x with
  | .bi _ sz' _ n _=>b4a ts sz sz' n lo hi mx fun _=>k .any h []
  | .d (.sl sz' n _)=>b4a ts sz sz' n lo hi mx fun _=>k .any h []
  |_=>xf 79
def e0z (x:ah)(y:ah)(_:XS)(ts:TS)(h:CH)(k:CA->CH->List Nat->Bool):Bool:=
 du ts x fun x=>du ts y fun y=>match x with
  | .bi l _ _ n1 _=>match y with
    | .bi l' _ _ n2 _=>match AC l l' with
      |true=>xf 80
      |false=>cg (AN .zero n1)<|cg (AN .zero n2)<|h.get l fun
       | .arr sz _ _=>h.get l' fun
         | .arr sz' n' _=>cg (AC sz 1) (cg (AC sz' 1) (cg (AN .zero n') (k (.d (.bool AE)) h [])))
         |_=>xf 81
       |_=>xf 81
    |_=>xf 82
  |_=>xf 82
def b6u (sz:Nat)(_:Nat)(x:ah)(y:ah)(mu:Bool)(_:XS)(ts:TS)(h:CH)(k:CA->CH->List Nat->Bool):Bool:=
 du ts x fun x=>du ts y fun y=>match c6n x with
  |true=>(match Oa y with
   |true=>k (.d .nil) h []
   |false=>Mq h sz x y mu k)
  |false=>match Uo x with
   |true=>(match Oa y with
    |true=>k x h []
    |false=>Mq h sz x y mu k)
   |false=>Mq h sz x y mu k
def b8i (sz:Nat)(_:XS)(_:TS)(h:CH)(k:CA->CH->List Nat->Bool):Bool:=
 k (.lm sz .zero []) h []
def c2j (wide:Bool)(ks:List AG)(_:XS)(_:TS)(h:CH)(k:CA->CH->List Nat->Bool):Bool:=
 h.add (.dz wide ks [] []) fun n0 h'=>k (.map n0) h' []
def b8n (wide:Bool)(ks:List AG)(ok:Bool)(z:AV)(m:ah)(kx:ah)(_:XS)(ts:TS)(h:CH)(k:CA->CH->List Nat->Bool):Bool:=
 YV z fun z=>du ts m fun m=>match m with
  | .map l=>h.get l fun
    | .dz ct dt keys ap=>cg (match wide with|true=>ct|false=>AU ct) (cg (Ks ks dt) (du ts kx fun kx=>Mm wide ks kx fun kc=>Up kc keys ap fun r=>match r with
      |some v=>match ok with
       |true=>k (.tuple [v,.d (.bool AB)]) h []
       |false=>k v h []
      |none=>match ok with
       |true=>k (.tuple [z,.d (.bool AE)]) h []
       |false=>k z h []))
    |_=>xf 83
  |_=>xf 84
def b6k (wide:Bool)(ks:List AG)(m:ah)(kx:ah)(x:ah)(_:XS)(ts:TS)(h:CH)(k:CA->CH->List Nat->Bool):Bool:=
 du ts m fun m=>match m with
  | .map l=>h.get l fun
    | .dz ct dt keys ap=>cg (match wide with|true=>ct|false=>AU ct) (cg (Ks ks dt) (du ts kx fun kx=>Mm wide ks kx fun kc=>du ts x fun x=>Ur kc x keys ap fun r=>match r with
      |some ap=>h.set l (.dz wide ks keys ap) fun h=>k .lc h []
      |none=>IL keys [kc] fun keys=>IL ap [x] fun ap=>h.set l (.dz wide ks keys ap) fun h=>k .lc h []))
    |_=>xf 85
  |_=>xf 86
def b8p (sz:Nat)(len:Nat)(zs:List DV)(ps:List (Nat×ah))(_:XS)(ts:TS)(h:CH)(k:CA->CH->List Nat->Bool):Bool:=
 Gz zs fun zs=>dL zs fun zs=>NK zs len fun rs=>Rx ts sz rs ps fun rs=>e1q rs fun rows=>k (.d (.sl sz len rows)) h []
def b2x (x:ah)(i:Nat)(_:XS)(ts:TS)(h:CH)(k:CA->CH->List Nat->Bool):Bool:=
 du ts x fun x=>match x with
  | .tuple vs=>I0 (fun v=>match v with
    | .agg cs=>JD h cs fun cs h=>k (.agg cs) h []
    | .ptr l .zero=>Ul h l fun v h=>k v h []
    |v=>Rz h v fun v h=>k v h []) vs i
  |_=>xf 61
def c3h (wide:Bool)(ks:List AG)(z:AV)(m:ah)(kx:ah)(_:XS)(ts:TS)(h:CH)(k:CA->CH->List Nat->Bool):Bool:=
 YV z fun z=>du ts m fun m=>match m with
  | .map l=>h.get l fun
    | .dz ct dt keys ap=>cg (match wide with|true=>ct|false=>AU ct) (cg (Ks ks dt) (du ts kx fun kx=>Mm wide ks kx fun kc=>Uq kc keys .zero fun r=>match r with
      |some i=>I0 (fun v=>k (.tuple [v,.d (.int .i64 (.v (.ofNat i)))]) h []) ap i
      |none=>L0 keys .zero fun n=>IL keys [kc] fun keys=>IL ap [z] fun ap=>h.set l (.dz wide ks keys ap) fun h=>k (.tuple [z,.d (.int .i64 (.v (.ofNat n)))]) h []))
    |_=>xf 87
  |_=>xf 89
def c8x (m:ah)(s:ah)(x:ah)(_:XS)(ts:TS)(h:CH)(k:CA->CH->List Nat->Bool):Bool:=
 du ts m fun m=>match m with
  | .map l=>h.get l fun
    | .dz wide ks keys ap=>du ts s fun s=>GT s fun n=>L0 ap .zero fun c=>N9 n c fun j=>du ts x fun x=>TY ap j x fun ap=>h.set l (.dz wide ks keys ap) fun h=>k .lc h []
    |_=>xf 90
  |_=>xf 91
def b7u (sz:Nat)(_:Nat)(x:ah)(y:ah)(_:XS)(ts:TS)(h:CH)(k:CA->CH->List Nat->Bool):Bool:=
 du ts x fun x=>du ts y fun y=>match x with
  | .d .nil=>match y with
    | .d .nil=>k (.d .nil) h []
    | .d (.sl sz' m e)=>cg (AC sz sz') (cg (AW m 1073741824) (k (.d (.sl sz m e)) h []))
    |_=>xf 93
  |_=>xf 94
def Mp (X:XS)(o:qr)(ts:TS)(h:CH)(k:CA->CH->List Nat->Bool):Bool:=
 @qr.rec (fun _=>XS->TS->CH->(CA->CH->List Nat->Bool)->Bool) f3i c1m d5r d6c c7c e4a c6y c2k d4z c6r c3k e3f d5u e2x g1j d5v d5h d0g b6o c7r d0j c6l c6v c9b c2m c2a c2h b6i d5y e2a d4x e1w e3l c2g d5o Mg b3i c6w c7u c1r d5k c7e e0z b6u c2j b8n b6k d5b e1f f2y b8p b2x c3h c8x b7u b8i Mg (fun _ _ _=>Mg) (fun _=>Mg) (fun _=>Mg) (fun _=>Mg) (fun _=>Mg) o X ts h k
end
noncomputable section
structure x7 where
 A:A2
 n:Nat
 wn:List ym
 ic:gy
inductive XT where
 |leaf
 |node (key:Nat) (fn:x7) (l r:XT)
def XT.find (t:XT)(f:Nat)(k:x7->Bool):Bool:=
 match t with
 | .leaf=>xf 100
 | .node key fn l r=>match AC f key with
   |true=>k fn
   |false=>match AN f key with
    |true=>l.find f k
    |false=>r.find f k
def xh (dst:Option Nat)(v:CA)(ts:TS)(k:TS->Bool):Bool:=
 @A5 Nat (fun _=>CA->TS->(TS->Bool)->Bool) (fun _ ts k=>k ts) (fun d v ts k=>KE ts d v k) dst v ts k
def c9g (base:Nat)(dst:Option Nat)(ts:TS)(mv:List Nat)(k:TS->CH->List Nat->Bool)(v:CA)(h:CH)(pg:List Nat):Bool:=
 match pg with
 |[]=>xh dst v ts fun ts=>k ts h mv
 |p::pg=>IE (p::pg) ts fun ts=>Gu base (p::pg) mv fun mv=>xh dst v ts fun ts=>k ts h mv
section
variable (X:XS) (base:Nat)
def g_ (o:qr)(dst:Option Nat)(ts:TS)(h:CH)(mv:List Nat)(k:TS->CH->List Nat->Bool):Bool:=
 Mp X o ts h (c9g base dst ts mv k)
def ZD (want:Bool)(off on:Unit->Bool)(v:CA):Bool:=
 match v with
 | .d (.bool b)=>match b with
   |true=>(match want with
    |true=>on ()
    |false=>off ())
   |false=>(match want with
    |true=>off ()
    |false=>on ())
 | .lc=>off ()
 |_=>xf 101
def Um (g:Option (Nat×Bool))(ts:TS)(off on:Unit->Bool):Bool:=
 @A5 (Nat×Bool) (fun _=>TS->(Unit->Bool)->(Unit->Bool)->Bool) (fun _ _ on=>on ()) (fun g ts off on=> @Prod.rec Nat Bool (fun _=>Bool) (fun j want=>G4 ts j (ZD want off on)) g) g ts off on
def e1m (o:jm)(ts:TS)(h:CH)(mv:List Nat)(k:TS->CH->List Nat->Bool):Bool:=
 @jm.rec (fun _=>XS->Nat->TS->CH->List Nat->(TS->CH->List Nat->Bool)->Bool)
   (fun dst g op X base ts h mv k=>Um g ts (fun _=>xh dst .lc ts fun ts=>k ts h mv) (fun _=>g_ X base op dst ts h mv k)) o X base ts h mv k
def f2q (l:List jm)(ts:TS)(h:CH)(mv:List Nat)(k:TS->CH->List Nat->Bool):Bool:=
 @AQ jm (fun _=>XS->Nat->TS->CH->List Nat->(TS->CH->List Nat->Bool)->Bool) (fun _ _ ts h mv k=>k ts h mv)
   (fun o _ ih X base ts h mv k=>e1m X base o ts h mv (ih X base · · · k)) l X base ts h mv k
def c6j (l:Nat)(o:qr)(ts:TS)(k:CA->qz->Bool):Bool:=
 match o with
 | .alloc zs=>Gz zs fun zs=>dL zs fun zs=>k (.ptr l .zero) (.var zs)
 | .box x=>du ts x fun v=>Kv v.cells (fun _=>k (.ptr l .zero) (.var v.cells))
 | .x6 wide ks=>k (.map l) (.map wide ks .zero [])
 | .og wide ks=>k (.map l) (.dz wide ks [] [])
 | .V5 sz=>k (.bi l sz AO .zero AE) (.arr sz .zero [])
 | .mp sz zs _ n=>Gz zs fun zs=>du ts n fun v=>GT v fun n=>cg (Wa (.ofNat .zero) n.val) (cg (Wa n.val (.ofNat 1073741824)) (zc n fun n=>NK zs n fun rows=>
    k (.bi l sz AO n AE) (.arr sz n rows)))
 |_=>xf 102
def LY (u v:Kl):Bool:=AC u.ctorIdx v.ctorIdx
def Rs (b0:Nat)(d:cz)(ts:TS)(k:Unit->Bool):Bool:=
 match d.av with
 |[]=>k ()
 |_=>match d.o.op.at with
  |some x=>du ts x fun v=>match v with
   | .ptr l _=>cg (Gx b0 l d.av) (k ())
   | .ii l _ _ _=>cg (LY d.o.op.kl .r) (cg (Gx b0 l d.av) (k ()))
   | .map l=>cg (LY d.o.op.kl .r) (cg (Gx b0 l d.av) (k ()))
   | .d9 _ _=>cg (LY d.o.op.kl .r) (k ())
   |_=>xf 103
  |none=>xf 104
def f7x:IX->IX->Bool
 | .v a,.v b=>Wn a b
 | .l a,.l b=>Wn a b
 |_,_=>AE
mutual
def zw (x y:CD):Bool:=
 match x with
 | .int kd n=>match y with
   | .int kd' m=>match Xw kd kd' with
     |true=>f7x n m
     |false=>AE
   |_=>AE
 | .bool b=>match y with
   | .bool c=>match b with
     |true=>c
     |false=>AU c
   |_=>AE
 | .str l=>match y with
   | .str m=>KM l m
   |_=>AE
 | .nil=>match y with
   | .nil=>AB
   |_=>AE
 | .sl sz n rows=>match y with
   | .sl sz' n' HV=>match AC sz sz' with
     |true=>(match AC n n' with
      |true=>ME rows HV
      |false=>AE)
     |false=>AE
   |_=>AE
 | .raw _=>AE
def MD (xs ys:List CD):Bool:=
 match xs with
 |[]=>match ys with
  |[]=>AB
  |_=>AE
 |x::xs=>match ys with
  |[]=>AE
  |y::ys=>match zw x y with
   |true=>MD xs ys
   |false=>AE
def ME (xs ys:List (List CD)):Bool:=
 match xs with
 |[]=>match ys with
  |[]=>AB
  |_=>AE
 |x::xs=>match ys with
  |[]=>AE
  |y::ys=>match MD x y with
   |true=>ME xs ys
   |false=>AE
end
def g1y:Option Nat->Option Nat->Bool
 |none,AO=>AB
 |some a,AL b=>AC a b
 |_,_=>AE
mutual
def qp (x y:CA):Bool:=
 match x with
 | .d x=>match y with
   | .d y=>zw x y
   |_=>AE
 | .agg xs=>match y with
   | .agg ys=>JN xs ys
   |_=>AE
 | .ptr l o=>match y with
   | .ptr l' o'=>match AC l l' with
     |true=>AC o o'
     |false=>AE
   |_=>AE
 | .bi l sz s n f=>match y with
   | .bi l' sz' s' n' f'=>match AC l l' with
     |true=>(match AC sz sz' with
      |true=>(match g1y s s' with
       |true=>(match AC n n' with
        |true=>Za f f'
        |false=>AE)
       |false=>AE)
      |false=>AE)
     |false=>AE
   |_=>AE
 | .map l=>match y with
   | .map l'=>AC l l'
   |_=>AE
 | .fn f us cs=>match y with
   | .fn f' us' jw=>match AC f f' with
     |true=>(match JN us us' with
      |true=>JN cs jw
      |false=>AE)
     |false=>AE
   |_=>AE
 | .yl l=>match y with
   | .yl l'=>AC l l'
   |_=>AE
 |_=>AE
def JN (xs ys:List CA):Bool:=
 match xs with
 |[]=>match ys with
  |[]=>AB
  |_=>AE
 |x::xs=>match ys with
  |[]=>AE
  |y::ys=>match qp x y with
   |true=>JN xs ys
   |false=>AE
end
def JG (b0:Nat)(ts:TS)(h:CH)(k:Unit->Bool)(F:List cz):Bool:=
 match F with
 |[]=>k ()
 |r::rs=>match LY r.o.op.kl .r with
  |true=>Um r.o.guard ts (fun _=>JG b0 ts h k rs) (fun _=>Rs b0 r ts (fun _=>Mp X r.o.op ts h fun v _ _=>match r.o.dst with
   |some d=>G4 ts d fun u=>cg (qp v u) (JG b0 ts h k rs)
   |none=>JG b0 ts h k rs))
  |false=>JG b0 ts h k rs
mutual
def N6 (pg:List Nat)(v:CA):Bool:=
 match v with
 | .agg cs=>Mi pg cs
 | .tuple cs=>Mi pg cs
 | .fn _ us cs=>match Mi pg us with
   |true=>Mi pg cs
   |false=>AE
 | .ptr m _=>xl m pg
 | .ii m _ _ _=>xl m pg
 | .bi m _ _ _ _=>xl m pg
 | .d7 m _ _=>xl m pg
 | .map m=>xl m pg
 | .yl m=>xl m pg
 |_=>AB
def Mi (pg:List Nat)(vs:List CA):Bool:=
 match vs with
 |[]=>AB
 |v::l=>match N6 pg v with
  |true=>Mi pg l
  |false=>AE
end
def Rv (pg:List Nat)(ts:TS)(l:List Nat)(k:Unit->Bool):Bool:=
 match l with
 |[]=>k ()
 |t::l=>G4 ts t fun v=>cg (N6 pg v) (Rv pg ts l k)
def Uj (pg:List Nat)(ts:TS)(F:List cz)(k:Unit->Bool):Bool:=
 match F with
 |[]=>k ()
 |r::rs=>Rv pg ts r.o.Vv fun _=>Rv pg ts (OD r.o) fun _=>Uj pg ts rs k
def xD (b0:Nat)(F:List cz)(d:cz)(ts:TS)(h:CH)(mv:List Nat)(k:TS->CH->List Nat->Bool):Bool:=
 match d.o.op.kl with
 | .a=>fN (AT b0 d.slot) fun s=>c6j s d.o.op ts fun v o=>h.set s o fun h=>xh d.o.dst v ts fun ts=>k ts h mv
 | .m=>Rs b0 d ts (fun _=>Mp X d.o.op ts h fun v h pg=>match pg with
   |[]=>xh d.o.dst v ts fun ts=>JG X b0 ts h (fun _=>k ts h mv) (sx d F)
   |p::pg=>match d.alone with
    |true=>IE (p::pg) ts fun ts=>Gu base (p::pg) mv fun mv=>xh d.o.dst v ts fun ts=>k ts h mv
    |false=>cg (Mz b0 d.slot (p::pg)) (Uj (p::pg) ts (sx d F) fun _=>IE (p::pg) ts fun ts=>Gu base (p::pg) mv fun mv=>xh d.o.dst v ts fun ts=>JG X b0 ts h (fun _=>k ts h mv) (sx d F)))
 | .r=>Rs b0 d ts (fun _=>Mp X d.o.op ts h fun v _ _=>xh d.o.dst v ts fun ts=>k ts h mv)
 | .i=>Mp X d.o.op ts h fun v _ _=>xh d.o.dst v ts fun ts=>k ts h mv
 | .p=>Mp X d.o.op ts h fun v _ _=>xh d.o.dst v ts fun ts=>k ts h mv
def xR (b0:Nat)(F:List cz)(ds:List cz)(ts:TS)(h:CH)(mv:List Nat)(k:TS->CH->List Nat->Bool):Bool:=
 match ds with
 |[]=>k ts h mv
 |d::ds=>Um d.o.guard ts (fun _=>xh d.o.dst .lc ts fun ts=>xR b0 (za d F) ds ts h mv k) (fun _=>xD X base b0 F d ts h mv fun ts h mv=>xR b0 (za d F) ds ts h mv k)
def Of (n:Nat)(h:CH)(k:CH->Bool):Bool:=
 match n with
 | .zero=>k h
 | .succ n=>h.add (.var []) fun _ h=>Of n h k
def IF (ts:TS)(h:CH)(wn:List ym)(k:List CA->Bool):Bool:=
 match wn with
 |[]=>k []
 |r::rs=>match r with
  | .t i=>G4 ts i fun v=>IF ts h rs fun vs=>k (v::vs)
  | .c i ag=>G4 ts i fun p=>Ux h p ag fun v=>IF ts h rs fun vs=>k (v::vs)
def RF (vs:List CA):CA:=
 match vs with
 |[]=> .tuple []
 |v::r=>match r with
  |[]=>v
  |_=> .tuple (v::r)
def b5l (l:Nat)(ts:TS)(h:CH)(pg mv:List Nat)(k:Lv->TS->CH->List Nat->Bool):Bool:=
 match Kq l pg with
 |true=>xf 131
 |false=>h.get l fun
  | .loop s tx ps A a b=>match s with
    | .ready=>h.set l (.loop (.VM .normal) tx ps A a b) fun h=>IE pg ts fun ts=>Gu base pg mv fun mv=>k .normal ts h mv
    | .done lv=>match lv with
      | .ret=>h.set l (.loop (.VM .ret) tx ps A a b) fun h=>IE pg ts fun ts=>Gu base pg mv fun mv=>k .ret ts h mv
      | .exit i=>h.set l (.loop (.VM (.exit i)) tx ps A a b) fun h=>IE pg ts fun ts=>Gu base pg mv fun mv=>k (.exit i) ts h mv
      | .normal=>xf 105
    |_=>xf 106
  |_=>xf 107
end
def d4m (next:TS->CH->List Nat->Bool)(k:Lv->TS->CH->List Nat->Bool)(lv:Lv)(ts:TS)(h:CH)(mv:List Nat):Bool:=
 match lv with
 | .normal=>next ts h mv
 | .exit i=>k (.exit i) ts h mv
 | .ret=>k .ret ts h mv
def c0e (id:Nat)(k:Lv->TS->CH->List Nat->Bool)(lv:Lv)(ts:TS)(h:CH)(mv:List Nat):Bool:=
 match lv with
 | .normal=>k .normal ts h mv
 | .exit i=>(match AC i id with
   |true=>k .normal ts h mv
   |false=>k (.exit i) ts h mv)
 | .ret=>k .ret ts h mv
def e3s (X:XS)(base:Nat)(f:ah)(ps:List Nat)(a b:gy)(A:A2)(top:Bool)(k:Lv->TS->CH->List Nat->Bool)(ts:TS)(h:CH)(mv:List Nat):Bool:=
 cg top (du ts f fun v=>match v with
  | .fn g first cap=>h.add (.loop .ready ts ps A a b) fun n0 h1=>IL [.yl n0] cap fun r=>IL first r fun vs=>JF vs fun vs=>
     X.call g vs h1 fun pg _ h2=>b5l base n0 ts h2 pg mv k
  |_=>xf 108)
abbrev XC:=XS->Nat->A2->Bool->(Lv->TS->CH->List Nat->Bool)->TS->CH->List Nat->Bool
def JC (X:XS)(base:Nat)(A:A2)(top:Bool)(c:gy)(k:Lv->TS->CH->List Nat->Bool)(ts:TS)(h:CH)(mv:List Nat):Bool:=
 @gy.rec (fun _=>XC)
   (fun _ _ _ _ k ts h mv=>k .normal ts h mv)
   (fun l X base _ _ k ts h mv=>f2q X base l ts h mv (k .normal))
   (fun n l X base _ _ k ts h mv=>h.num fun n0=>Of n h fun h'=>xR X base n0 [] l ts h' mv (k .normal))
   (fun _ _ ia ib X base A top k ts h mv=>ia X base A top (d4m (ib X base A top k) k) ts h mv)
   (fun c _ _ ia ib X base A top k ts h mv=>du ts c fun v=>Mh v fun x=> @Ag (fun _=>Bool) (ib X base A top k ts h mv) (ia X base A top k ts h mv) x)
   (fun id _ ic X base A top k ts h mv=>ic X base A top (c0e id k) ts h mv)
   (fun c _ X base A top k ts h mv=>X.loop A base top c k ts h mv)
   (fun f ps a b _ _ X base A top k ts h mv=>e3s X base f ps a b A top k ts h mv)
   (fun id _ _ _ _ k ts h mv=>k (.exit id) ts h mv)
   (fun _ ic X base A top k ts h mv=>cg top (ic X base A top k ts h mv))
   (fun _ _ _ _ _ k ts h mv=>k .normal ts h mv)
   (fun _ _ _ _ k ts h mv=>k .ret ts h mv)
   c X base A top k ts h mv
def OM (args:List CA)(i:Nat)(ts:TS)(k:TS->Bool):Bool:=
 match args with
 |[]=>k ts
 |v::l=>KE ts i v fun ts=>OM l (Ai i) ts k
def d9e (n:Nat)(args:List CA)(k:TS->Bool):Bool:=OM args .zero (Yy .lc n n) k
def Uy (ps:List Nat)(args:List CA)(ts:TS)(k:TS->Bool):Bool:=
 match ps with
 |[]=>match args with
  |[]=>k ts
  |_::_=>xf 109
 |p::ps=>match args with
  |[]=>xf 110
  |v::args=>KE ts p v fun ts=>Uy ps args ts k
def c4j (vs:List CA)(k:Unit->Bool):Bool:=
 match vs with
 |[]=>k ()
 |v::r=>match v with
  | .d (.int ..)=>c4j r k
  | .d (.bool _)=>c4j r k
  | .d (.str _)=>c4j r k
  |_=>xf 130
def e0p (own:Bool)(k:CA->Bool)(vs:List CA):Bool:=
 match own with
 |true=>c4j vs (fun _=>k (RF vs))
 |false=>k (RF vs)
def d2v (wn:List ym)(own:Bool)(k:CA->Bool)(lv:Lv)(ts:TS)(h:CH)(_:List Nat):Bool:=
 match lv with
 | .exit _=>xf 124
 |_=>IF ts h wn fun vs=>JE h vs fun vs _=>IV vs (fun _=>e0p own k vs)
def d5t (T:XT)(X:XS)(own:Bool)(f:Ab)(args:List CA)(k:CA->Bool):Bool:=
 T.find f fun fn=>d9e fn.n args fun ts=>JC X .zero fn.A AB fn.ic (d2v fn.wn own k) ts ⟨.zero,.leaf⟩ []
def c1e (wn:List ym)(k:List Nat->CA->CH->Bool)(lv:Lv)(ts:TS)(h:CH)(mv:List Nat):Bool:=
 match lv with
 | .exit _=>xf 125
 |_=>IF ts h wn fun vs=>k mv (RF vs) h
def d4o (T:XT)(X:XS)(f:Ab)(args:List CA)(h:CH)(k:List Nat->CA->CH->Bool):Bool:=
 T.find f fun fn=>d9e fn.n args fun ts=>h.num fun n0=>JC X n0 fn.A AB fn.ic (c1e fn.wn k) ts h []
def b1n (l:Nat)(k:List Nat->CA->CH->Bool)(lv:Lv)(_:TS)(h:CH)(mv:List Nat):Bool:=
 match Kq l mv with
 |true=>xf 133
 |false=>h.get l fun
  | .loop .busy tx ps0 A0 a0 b0=>match lv with
    | .normal=>h.set l (.loop .ready tx ps0 A0 a0 b0) fun h=>k mv (.d (.bool AB)) h
    | .ret=>h.set l (.loop (.done .ret) tx ps0 A0 a0 b0) fun h=>k mv (.d (.bool AE)) h
    | .exit i=>h.set l (.loop (.done (.exit i)) tx ps0 A0 a0 b0) fun h=>k mv (.d (.bool AE)) h
  |_=>xf 126
def a8p (X:XS)(base:Nat)(l:Nat)(A:A2)(b:gy)(k:List Nat->CA->CH->Bool)(lv:Lv)(ts:TS)(h:CH)(mv:List Nat):Bool:=
 match lv with
 | .normal=>(match Kq l mv with
   |true=>xf 132
   |false=>h.get l fun
    | .loop .ready tx ps0 A0 a0 b0=>h.set l (.loop .busy tx ps0 A0 a0 b0) fun h=>JC X base A AE b (b1n l k) ts h mv
    |_=>xf 127)
 |_=>xf 128
def g1p (X:XS)(l:Nat)(args:List CA)(h:CH)(k:List Nat->CA->CH->Bool):Bool:=
 h.get l fun
  | .loop .ready ts ps A a b=>Uy ps args ts fun ts=>h.num fun n0=>JC X n0 A AE a (a8p X n0 l A b k) ts h []
  |_=>xf 129
def d5z (X:XS)(A:A2)(base:Nat)(top:Bool)(c:gy)(k:Lv->TS->CH->List Nat->Bool)(lv:Lv)(ts:TS)(h:CH)(mv:List Nat):Bool:=
 match lv with
 | .normal=>X.loop A base top c k ts h mv
 | .exit i=>k (.exit i) ts h mv
 | .ret=>k .ret ts h mv
def e8j (X:XS)(A:A2)(base:Nat)(top:Bool)(c:gy)(k:Lv->TS->CH->List Nat->Bool)(ts:TS)(h:CH)(mv:List Nat):Bool:=
 JC X base A top c (d5z X A base top c k) ts h mv
def ZG (T:XT)(X:XS):XS:=⟨d5t T X,d4o T X,g1p X,e8j X⟩
def ZF:XS:=⟨fun _ _ _ _=>xf 120,fun _ _ _ _=>xf 121,fun _ _ _ _=>xf 122,fun _ _ _ _ _ _ _ _=>xf 123⟩
def YR (T:XT)(n:Nat):XS:= @AM (fun _=>XS) ZF (fun _ X=>ZG T X) n
end
mutual
def CD.to:CD->DV
 | .int k n=> .int k n
 | .bool b=> .bool b
 | .str l=> .str l
 | .nil=> .nil
 | .sl sz n rows=> .sl sz n (rowAt (CD.VJ rows))
 | .raw v=> .raw v
def CD.f9:List CD->List DV
 |[]=>[]
 |x::l=>x.to::CD.f9 l
def CD.VJ:List (List CD)->List (List DV)
 |[]=>[]
 |r::rs=>CD.f9 r::CD.VJ rs
end
theorem CD.gc (l:List CD):CD.f9 l=l.map CD.to:=by
 induction l with
 |nil=>rfl
 |cons x l ih=>simp[CD.f9,ih]
theorem CD.qe (l:List (List CD)):CD.VJ l=l.map CD.f9:=by
 induction l with
 |nil=>rfl
 |cons x l ih=>simp[CD.VJ,ih]
mutual
def CA.to:CA->AV
 | .d x=> .d x.to
 | .any=> .any
 | .lc=> .lc
 | .agg cs=> .agg (CA.f9 cs)
 | .tuple cs=> .tuple (CA.f9 cs)
 | .ptr l o=> .ptr l o
 | .ii l sz i o=> .ii l sz i o
 | .d9 row o=> .d9 (CD.f9 row) o
 | .lm sz n rows=> .lm sz n (rowAt (CD.VJ rows))
 | .bi l sz s n f=> .bi l sz s n f
 | .d7 l o n=> .d7 l o n
 | .map l=> .map l
 | .fn f us cs=> .fn f (CA.f9 us) (CA.f9 cs)
 | .ge m=> .ge m
 | .yl l=> .yl l
def CA.f9:List CA->List AV
 |[]=>[]
 |x::l=>x.to::CA.f9 l
end
theorem CA.gc (l:List CA):CA.f9 l=l.map CA.to:=by
 induction l with
 |nil=>rfl
 |cons x l ih=>simp[CA.f9,ih]
def JK:List (List KC×Int)->List KC->Option Int
 |[],_=>AO
 |e::es,k=>if k=e.1 then AL e.2 else JK es k
def BT.get? {α:Type}:BT α->Nat->Option α
 | .leaf,_=>AO
 | .node v _ _,0=>AL v
 | .node _ l r,j+1=>if j % 2=0 then l.get? (j/2) else r.get? (j/2)
def RT (t:TS)(ts:List AV):Prop:= ∀i v,t.get? i=AL v->ts[i]? =AL v.to
section
variable (P:An)
def qz.R (o:qz)(ao:ae):Prop:=
 match o with
 | .var cs=>ao= .var (CA.f9 cs)
 | .arr sz n rows=>ao= .arr sz n (rowAt (CD.VJ rows))
 | .t0 sz n rows=>ao= .t0 sz n (rowAt (CD.VJ rows))
 | .map wide ks n es=>ao= .map wide ks n (JK es)
 | .dz wide ks keys ap=>ao= .dz wide ks keys (CA.f9 ap)
 | .gone=>ao= .gone
 | .loop s ts ps A a b=> ∃zk,RT ts zk/\ao= .loop s zk ps (fun ca cb=>comp P A ca=AL a/\comp P A cb=AL b)
structure RH (h:CH)(hl:List ae):Prop where
 len:h.n=hl.length
 get: ∀i o,h.t.get? i=AL o-> ∃ao,hl[i]? =AL ao/\o.R P ao
end
section
variable {α β:Type}
theorem c9d {t:BT α}: ∀{i:Nat} {k:α->Bool},G4 t i k=AB-> ∃x,t.get? i=AL x/\k x=AB:=by
 induction t with
 |leaf=>intro i k h;exact absurd h AA
 |node v l r il ir=>
  intro i k h;cases i with
  |zero=>exact⟨v,rfl,h⟩
  |succ j=>
   have h': @AM (fun _=>Bool) (G4 l (AS j 2) k) (fun _ _=>G4 r (AS j 2) k) (Ad j 2)=AB:=h;have e1:Ad j 2=j % 2:=rfl;rw[e1] at h';simp only[BT.get?];cases e:j % 2 with
   |zero=>rw[e] at h';rw[if_pos rfl];exact il h'
   |succ m=>rw[e] at h';rw[if_neg (by omega)];exact ir h'
theorem b9h {t:BT α}{y:α}: ∀{i:Nat} {k:BT α->Bool},KE t i y k=AB-> ∃t',(∃x,t.get? i=AL x)/\(∀j,t'.get? j=if j=i then AL y else t.get? j)/\k t'=AB:=by
 induction t with
 |leaf=>intro i k h;exact absurd h AA
 |node v l r il ir=>
  intro i k h;cases i with
  |zero=>exact⟨.node y l r,⟨v,rfl⟩,fun j=>by cases j<;>simp[BT.get?],h⟩
  |succ j=>
   have h': @AM (fun _=>Bool) (KE l (AS j 2) y fun l'=>k (.node v l' r)) (fun _ _=>KE r (AS j 2) y fun r'=>k (.node v l r')) (Ad j 2)=AB:=h;have e1:Ad j 2=j % 2:=rfl;have e2:AS j 2=j/2:=rfl;rw[e1] at h';simp only[BT.get?];cases e:j % 2 with
   |zero=>
    rw[e] at h';rw[if_pos rfl];obtain⟨l',h1,h2,h3⟩:=il h';refine⟨_,h1,fun j'=> ?_,h3⟩;cases j' with
    |zero=>simp[BT.get?]
    |succ j'=>
     simp only[BT.get?,h2,e2];by_cases c:j' % 2=0
     ·rw[if_pos c,if_pos c];by_cases d:j'=j
      ·subst d;simp
      ·rw[if_neg (by omega),if_neg (by omega)]
     ·rw[if_neg c,if_neg c,if_neg (fun d=>c (by have:j'=j:=by omega
                                                rw[this];exact e))]
   |succ m=>
    rw[e] at h';rw[if_neg (by omega)];obtain⟨r',h1,h2,h3⟩:=ir h';refine⟨_,h1,fun j'=> ?_,h3⟩;cases j' with
    |zero=>simp[BT.get?]
    |succ j'=>
     simp only[BT.get?,h2,e2];by_cases c:j' % 2=0
     ·rw[if_pos c,if_pos c,if_neg (by omega)]
     ·rw[if_neg c,if_neg c];by_cases d:j'=j
      ·subst d;simp
      ·rw[if_neg (by omega),if_neg (by omega)]
theorem d3k {t:BT α}{y:α}: ∀{i:Nat} {k:BT α->Bool},TO t i y k=AB-> ∃t',(∀j,t'.get? j=if j=i then AL y else t.get? j)/\k t'=AB:=by
 induction t with
 |leaf=>
  intro i k h;cases i with
  |zero=>exact⟨_,fun j=>by cases j<;>simp[BT.get?],h⟩
  |succ i=>exact absurd h AA
 |node v l r il ir=>
  intro i k h;cases i with
  |zero=>exact absurd h AA
  |succ j=>
   have h': @AM (fun _=>Bool) (TO l (AS j 2) y fun l'=>k (.node v l' r)) (fun _ _=>TO r (AS j 2) y fun r'=>k (.node v l r')) (Ad j 2)=AB:=h;have e1:Ad j 2=j % 2:=rfl;have e2:AS j 2=j/2:=rfl;rw[e1] at h';cases e:j % 2 with
   |zero=>
    rw[e] at h';obtain⟨l',h2,h3⟩:=il h';refine⟨_,fun j'=> ?_,h3⟩;cases j' with
    |zero=>simp[BT.get?]
    |succ j'=>
     simp only[BT.get?,h2,e2];by_cases c:j' % 2=0
     ·rw[if_pos c,if_pos c];by_cases d:j'=j
      ·subst d;simp
      ·rw[if_neg (by omega),if_neg (by omega)]
     ·rw[if_neg c,if_neg c,if_neg (by omega)]
   |succ m=>
    rw[e] at h';obtain⟨r',h2,h3⟩:=ir h';refine⟨_,fun j'=> ?_,h3⟩;cases j' with
    |zero=>simp[BT.get?]
    |succ j'=>
     simp only[BT.get?,h2,e2];by_cases c:j' % 2=0
     ·rw[if_pos c,if_pos c,if_neg (by omega)]
     ·rw[if_neg c,if_neg c];by_cases d:j'=j
      ·subst d;simp
      ·rw[if_neg (by omega),if_neg (by omega)]
theorem d7r {x:α}: ∀{d n i:Nat} {v:α},(Yy x d n).get? i=AL v->i<n/\v=x:=by
 intro d
 induction d with
 |zero=>intro n i v h;simp[Yy,BT.get?] at h
 |succ d ih=>
  intro n i v h;cases n with
  |zero=>simp[Yy,BT.get?] at h
  |succ j=>
   have e:Yy x (d+1) (j+1)= .node x (Yy x d ((j+1)/2)) (Yy x d (j/2)):=rfl;rw[e] at h;cases i with
   |zero=>simp[BT.get?] at h;exact⟨by omega,h.symm⟩
   |succ i=>
    simp only[BT.get?] at h;split at h
    ·obtain⟨h1,h2⟩:=ih h;exact⟨by omega,h2⟩
    ·obtain⟨h1,h2⟩:=ih h;exact⟨by omega,h2⟩
theorem JW {l:List α}: ∀{i:Nat} {k:α->Bool},I0 k l i=AB-> ∃x,l[i]? =AL x/\k x=AB:=by
 induction l with
 |nil=>intro i k h;exact absurd h AA
 |cons x l ih=>
  intro i k h;cases i with
  |zero=>exact⟨x,rfl,h⟩
  |succ i=>obtain⟨y,h1,h2⟩:=ih h;exact⟨y,by simpa using h1,h2⟩
theorem c0d {l:List α}{y:α}: ∀{i:Nat} {k:List α->Bool},TY l i y k=AB->i<l.length/\k (l.set i y)=AB:=by
 induction l with
 |nil=>intro i k h;exact absurd h AA
 |cons x l ih=>
  intro i k h;cases i with
  |zero=>exact⟨by simp,h⟩
  |succ i=>obtain⟨h1,h2⟩:=ih h;exact⟨by simpa using h1,by simpa using h2⟩
theorem R5 (f:α->β){l:List α}: ∀{i n:Nat} {k:List α->Bool},OA l i n k=AB-> ∃c,po (l.map f) i n=AL (c.map f)/\k c=AB:=by
 induction l with
 |nil=>
  intro i n k h;cases i with
  |zero=>
   cases n with
   |zero=>exact⟨[],rfl,h⟩
   |succ n=>exact absurd h AA
  |succ i=>exact absurd h AA
 |cons x l ih=>
  intro i n k h;cases i with
  |zero=>
   cases n with
   |zero=>exact⟨[],rfl,h⟩
   |succ n=>obtain⟨c,h1,h2⟩:=ih (i:=0) (n:=n) h;exact⟨x::c,by simp[po,h1],h2⟩
  |succ i=>obtain⟨c,h1,h2⟩:=ih (i:=i) (n:=n) h;exact⟨c,by simpa [po] using h1,h2⟩
theorem TP (f:α->β){l:List α}: ∀{i:Nat} {new:List α} {k:List α->Bool},Q1 l i new k=AB-> ∃c,qm (l.map f) i (new.map f)=AL (c.map f)/\k c=AB:=by
 induction l with
 |nil=>
  intro i new k h;cases i with
  |zero=>
   cases new with
   |nil=>exact⟨[],rfl,h⟩
   |cons y new=>exact absurd h AA
  |succ i=>exact absurd h AA
 |cons x l ih=>
  intro i new k h;cases i with
  |zero=>
   cases new with
   |nil=>exact⟨x::l,rfl,h⟩
   |cons y new=>obtain⟨c,h1,h2⟩:=ih (i:=0) (new:=new) h;exact⟨y::c,by simp[qm,h1],h2⟩
  |succ i=>obtain⟨c,h1,h2⟩:=ih (i:=i) (new:=new) h;exact⟨x::c,by cases new<;>simp only[Af,Ap,qm] at h1⊢ <;>rw[h1],h2⟩
theorem JL {l m:List α}: ∀{k:List α->Bool},IL l m k=AB->k (l++m)=AB:=by
 induction l with
 |nil=>intro k h;exact h
 |cons x l ih=>intro k h;exact ih (k:=fun r=>k (x::r)) h
theorem Nw {l:List α}: ∀{n:Nat} {k:Nat->Bool},L0 l n k=AB->k (n+l.length)=AB:=by
 induction l with
 |nil=>intro n k h;exact h
 |cons x l ih=>intro n k h;have:=ih (n:=n+1) h;simpa [Nat.add_assoc,Nat.add_comm 1] using this
theorem a7f {l:List α}: ∀{n:Nat} {m:List α} {k:List α->Bool},T7 l n m k=AB->n<=l.length/\k (l.take n++m)=AB:=by
 induction l with
 |nil=>
  intro n m k h;cases n with
  |zero=>exact⟨by simp,h⟩
  |succ n=>exact absurd h AA
 |cons x l ih=>
  intro n m k h;cases n with
  |zero=>exact⟨by simp,h⟩
  |succ n=>obtain⟨h1,h2⟩:=ih (n:=n) h;exact⟨by simpa using h1,by simpa using h2⟩
theorem c2z {n:Nat}: ∀{l:List α} {k:List α->Bool},K3 l n k=AB->k (l.drop n)=AB:=by
 induction n with
 |zero=>intro l k h;simpa [K3] using h
 |succ n ih=>
  intro l k h;cases l with
  |nil=>simpa [K3] using h
  |cons x l=>simp only[K3] at h;simpa using ih h
theorem Q6 {x:α}{n:Nat}: ∀{k:List α->Bool},NK x n k=AB->k (AX n x)=AB:=by
 induction n with
 |zero=>intro k h;exact h
 |succ n ih=>intro k h;exact ih (k:=fun r=>k (x::r)) h
theorem b9z {l:List α}: ∀{i m:Nat} {new:List α} {k:List α->Bool},Gm l i m new k=AB->i+m<=l.length/\m<=new.length/\k (l.take i++new.take m++l.drop (i+m))=AB:=by
 induction l with
 |nil=>
  intro i m new k h;cases i with
  |zero=>
   cases m with
   |zero=>simp[Gm] at h;simpa using h
   |succ m=>simp[Gm,xf] at h
  |succ i=>simp[Gm,xf] at h
 |cons x l ih=>
  intro i m new k h;cases i with
  |zero=>
   cases m with
   |zero=>simp only[Gm] at h;simpa using h
   |succ m=>
    cases new with
    |nil=>simp[Gm,xf] at h
    |cons y new=>simp only[Gm] at h;obtain⟨h1,h2,h3⟩:=ih h;refine⟨by simp at h1⊢;omega,by simp at h2⊢;omega,?_⟩;simpa using h3
  |succ i=>
   simp only[Gm] at h;obtain⟨h1,h2,h3⟩:=ih h;refine⟨by simp at h1⊢;omega,h2,?_⟩;have e:i+1+m=(i+m)+1:=by omega
   rw[e];simpa using h3
end
theorem re (n:Nat)(k:Nat->Bool):fN n k=k n:=by cases n<;>rfl
theorem IS (n:Int)(k:Int->Bool):fI n k=k n:=by cases n<;>simp[fI,re]
theorem MS (b:Bool)(k:Bool->Bool):fB b k=k b:=by cases b<;>rfl
theorem dw {c k:Bool}(h:cg c k=AB):c=AB/\k=AB:=by
 cases c with
 |false=>exact absurd h AA
 |true=>exact⟨rfl,h⟩
theorem Mn (a b:Int):X7 a b=decide (a<b):=by
 have hb: ∀m n:Nat,AN m n=decide (m<n):=fun m n=>by rw[Az,decide_eq_true_eq];exact Iff.of_eq BB
 cases a with
 |ofNat a=>
  cases b with
  |ofNat b=>simp only[X7,hb];exact decide_eq_decide.2 (by simp only[AI];omega)
  |negSucc b=>simp only[X7];exact (decide_eq_false (by simp only[AI];omega)).symm
 |negSucc a=>
  cases b with
  |ofNat b=>simp only[X7];exact (decide_eq_true (by simp only[AI];omega)).symm
  |negSucc b=>simp only[X7,hb];exact decide_eq_decide.2 (by omega)
theorem c6m (a b:Int):Wa a b=decide (a<=b):=by
 rw[Wa,Mn];by_cases h:b<a
 ·rw[decide_eq_true h,decide_eq_false (by omega)];rfl
 ·rw[decide_eq_false h,decide_eq_true (by omega)];rfl
theorem IC (a b:Int):Wn a b=decide (a=b):=by
 have hb: ∀m n:Nat,AC m n=decide (m=n):=fun m n=>by rw[Az,decide_eq_true_eq];exact Iff.of_eq Nat.beq_eq
 cases a with
 |ofNat a=>
  cases b with
  |ofNat b=>simp only[Wn,hb];exact decide_eq_decide.2 (by simp only[AI];omega)
  |negSucc b=>simp only[Wn];exact (decide_eq_false (by simp only[AI];omega)).symm
 |negSucc a=>
  cases b with
  |ofNat b=>simp only[Wn];exact (decide_eq_false (by simp only[AI];omega)).symm
  |negSucc b=>simp only[Wn,hb];exact decide_eq_decide.2 (by omega)
theorem yb {a b:AG}(h:Xw a b=AB):a=b:=by
 cases a<;>cases b<;>first|rfl|(exact absurd h (by decide))
def Sd (P:An)(S:We):Prop:= ∃A ro E,S=Ae P A ro E
theorem UY {x:DV}{k:CD->Bool}(h:YW x k=AB): ∃c,x=c.to/\k c=AB:=by
 cases x<;>simp only[YW] at h
 ·exact⟨_,rfl,h⟩
 ·exact⟨_,rfl,h⟩
 ·exact⟨_,rfl,h⟩
 ·exact⟨_,rfl,h⟩
 ·exact absurd h AA
 ·exact⟨_,rfl,h⟩
theorem JO {l:List DV}: ∀{k:List CD->Bool},Gz l k=AB-> ∃cs,l=CD.f9 cs/\k cs=AB:=by
 induction l with
 |nil=>intro k h;simp only[Gz] at h;exact⟨[],rfl,h⟩
 |cons x l ih=>intro k h;simp only[Gz] at h;obtain⟨c,h1,h2⟩:=UY h;obtain⟨cs,h3,h4⟩:=ih h2;exact⟨c::cs,by rw[h1,h3];rfl,h4⟩
theorem d6h {l:List AV}: ∀{k:List CA->Bool},Ot l k=AB-> ∃cs,l=CA.f9 cs/\k cs=AB:=by
 induction l with
 |nil=>intro k h;simp only[Ot] at h;exact⟨[],rfl,h⟩
 |cons x l ih=>
  intro k h;simp only[Ot] at h;cases x with
  |d x=>simp only at h;obtain⟨c,h1,h2⟩:=UY h;obtain⟨cs,h3,h4⟩:=ih h2;exact⟨.d c::cs,by rw[h1,h3];rfl,h4⟩
  |_=>exact absurd h AA
theorem UU {x:AV}{k:CA->Bool}(h:YV x k=AB): ∃c,x=c.to/\k c=AB:=by
 unfold YV at h;split at h
 ·obtain⟨c,h1,h2⟩:=UY h;exact⟨.d c,by rw[h1];rfl,h2⟩
 ·obtain⟨c,h1,h2⟩:=d6h h;exact⟨.agg c,by rw[h1];rfl,h2⟩
 ·exact⟨.fn _ [] [],rfl,h⟩
 ·exact absurd h AA
section
variable {P:An} {t:TS} {ts:List AV} {h:CH} {hl:List ae}
theorem RT.get (r:RT t ts){i:Nat}{k:CA->Bool}(h:G4 t i k=AB): ∃v,ax ts i=AL v.to/\k v=AB:=by obtain⟨v,h1,h2⟩:=c9d h;exact⟨v,by rw[cy];exact r i v h1,h2⟩
theorem RT.set (r:RT t ts){i:Nat}{y:CA}{k:TS->Bool}(h:KE t i y k=AB): ∃t',RT t' (b8 ts i y.to)/\k t'=AB:=by
 obtain⟨t',⟨x,h1⟩,h2,h3⟩:=b9h h;refine⟨t',fun j v hj=> ?_,h3⟩;have hlt:=(AH.1 (r i x h1)).1;rw[h2] at hj;rw[fg];split at hj
 ·rename_i e;subst e;cases hj;simp[hlt]
 ·rename_i e;rw[AZ (Ah e)];exact r j v hj
theorem dy (r:RT t ts){o:ah}{k:CA->Bool}(h:du t o k=AB): ∃v,BE ts o=v.to/\k v=AB:=by
 cases o with
 |t i=>obtain⟨v,h1,h2⟩:=r.get (i:=i) h;exact⟨v,by simp only[BE,h1],h2⟩
 |c v=>obtain⟨c,h1,h2⟩:=UU (x:=v) h;exact⟨c,h1,h2⟩
theorem Uu (r:RT t ts){l:List ah}: ∀{k:List CA->Bool},Oc t l k=AB-> ∃vs,tg ts l=CA.f9 vs/\k vs=AB:=by
 induction l with
 |nil=>intro k h;exact⟨[],rfl,h⟩
 |cons x l ih=>intro k h;obtain⟨v,h1,h⟩:=dy r (o:=x) (k:=fun x=>Oc t l fun l=>k (x::l)) h;obtain⟨vs,h2,h⟩:=ih h;exact⟨v::vs,by simp only[tg,CA.f9,h1,h2],h⟩
theorem RH.pp (r:RH P h hl){l:Nat}{k:qz->Bool}(hk:h.get l k=AB): ∃o ao,ax hl l=AL ao/\o.R P ao/\k o=AB:=by obtain⟨n,t⟩:=h;obtain⟨o,h1,h2⟩:=c9d (t:=t) hk;obtain⟨ao,h3,h4⟩:=r.get l o h1;exact⟨o,ao,by rw[cy];exact h3,h4,h2⟩
theorem RH.ww (r:RH P h hl){l:Nat}{o:qz}{k:CH->Bool}(hk:h.set l o k=AB): ∃h',k h'=AB/\ ∀ao,o.R P ao->RH P h' (b8 hl l ao):=by
 obtain⟨n,t⟩:=h;obtain⟨t',⟨x,h1⟩,h2,h3⟩:=b9h (t:=t) hk;obtain⟨ao0,h4,_⟩:=r.get l x h1;have hlt:=(AH.1 h4).1;refine⟨⟨n,t'⟩,h3,fun ao ju=>⟨by rw[fg,List.length_set];exact r.len,fun j o' hj=> ?_⟩⟩;rw[h2] at hj;rw[fg];split at hj
 ·rename_i e;subst e;cases hj;exact⟨ao,by simp[hlt],ju⟩
 ·rename_i e;rw[AZ (Ah e)];exact r.get j o' hj
theorem RH.V3 (r:RH P h hl){o:qz}{k:Nat->CH->Bool}(hk:h.add o k=AB): ∃h',k (az hl) h'=AB/\ ∀ao,o.R P ao->RH P h' (ba hl [ao]):=by
 obtain⟨n,t⟩:=h;have hn:n=hl.length:=r.len;obtain⟨t',h2,h3⟩:=d3k (t:=t) (k:=fun t=>fN (Ai n) fun m=>k n ⟨m,t⟩) hk;rw[re] at h3;refine⟨_,by rw[cv,<-hn];exact h3,fun ao ju=>⟨by rw[fi];simp[hn],fun j o' hj=> ?_⟩⟩;simp only[h2] at hj;rw[fi];split at hj
 ·rename_i e;subst e;cases hj;exact⟨ao,by simp[hn],ju⟩
 ·obtain⟨ao',h4,h5⟩:=r.get j o' hj;exact⟨ao',by rw[AJ (AH.1 h4).1];exact h4,h5⟩
theorem RH.YB (r:RH P h hl){k:Nat->Bool}(hk:h.num k=AB):k (az hl)=AB:=by obtain⟨n,t⟩:=h;have hn:n=hl.length:=r.len;rw[cv,<-hn];exact hk
theorem CA.wl (v:CA):v.to.cells=CA.f9 v.cells:=by cases v<;>rfl
theorem CA.YE (v:CA):v.to.one=v.one:=by cases v<;>rfl
theorem ND {vs:List CA}{k:Unit->Bool}(h:Kv vs k=AB):tv (CA.f9 vs)=AB/\k ()=AB:=by
 induction vs with
 |nil=>exact⟨rfl,h⟩
 |cons v l ih=>
  have h': @Ag (fun _=>Bool) (xf 12) (Kv l k) v.one=AB:=h;cases e:v.one with
  |false=>rw[e] at h';exact absurd h' AA
  |true=>rw[e] at h';simp only[CA.f9,tv,CA.YE,e];exact ih h'
theorem CA.Vp (l:List CA):(CA.f9 l).length=l.length:=by rw[CA.gc];simp
theorem OF {l:List CA}: ∀{k:List CD->Bool},K4 l k=AB-> ∃ds,W1 (CA.f9 l)=AL (CD.f9 ds)/\k ds=AB:=by
 induction l with
 |nil=>intro k h;exact⟨[],rfl,h⟩
 |cons x l ih=>
  intro k h;have h':Zs x (fun x=>K4 l fun l=>k (x::l))=AB:=h;cases x with
  |d x=>obtain⟨ds,h1,h2⟩:=ih (k:=fun l=>k (x::l)) h';exact⟨x::ds,by simp only[CA.f9,CA.to,W1,h1,CD.f9],h2⟩
  |fn f us cs=>
   cases us with
   |cons _ _=>exact absurd h' AA
   |nil=>
    cases cs with
    |cons _ _=>exact absurd h' AA
    |nil=>obtain⟨ds,h1,h2⟩:=ih (k:=fun l=>k (.raw (.func (.func f) #[] #[])::l)) h';exact⟨.raw (.func (.func f) #[] #[])::ds,by simp only[CA.f9,CA.to,W1,h1,CD.f9,CD.to],h2⟩
  |_=>exact absurd h' AA
theorem ML {l:List CD}: ∀{k:List CA->Bool},dL l k=AB-> ∃cs,tu .d (CD.f9 l)=CA.f9 cs/\k cs=AB:=by
 induction l with
 |nil=>intro k h;exact⟨[],rfl,h⟩
 |cons x l ih=>intro k h;obtain⟨cs,h1,h2⟩:=ih (k:=fun l=>k (.d x::l)) h;exact⟨.d x::cs,by simp only[CD.f9,tu,CA.f9,CA.to,h1],h2⟩
theorem d4d {l:List CD}: ∀{k:List (List CD)->Bool},TU l k=AB-> ∃rs,tu (fun x=>[x]) (CD.f9 l)=CD.VJ rs/\k rs=AB:=by
 induction l with
 |nil=>intro k h;exact⟨[],rfl,h⟩
 |cons x l ih=>intro k h;simp only[TU] at h;obtain⟨cs,h1,h2⟩:=ih h;exact⟨[x]::cs,by simp only[CD.f9,tu,CD.VJ,h1],h2⟩
theorem b3q (rows:List (List DV))(s:Nat):rowAt (rows.drop s)=fun j=>rowAt rows (s+j):=by funext j;rw[xe,xe,Au]
theorem c9i (e e2:List (List DV))(n:Nat)(hn:n<=e.length):rowAt (e.take n++e2)=fun j=>if j<n then rowAt e j else rowAt e2 (j-n):=by
 funext j;have hl:(e.take n).length=n:=by simp[hn]
 by_cases c:j<n
 ·rw[if_pos c,xe,xe,AJ (by omega),AP c]
 ·rw[if_neg c,xe,xe,AK (by omega),hl]
theorem c8z (e new:List (List DV))(i m:Nat)(h1:i+m<=e.length)(h2:m<=new.length):
 rowAt (e.take i++new.take m++e.drop (i+m))=fun j=>if i<=j/\j<i+m then rowAt new (j-i) else rowAt e j:=by
 funext j;have nw:(e.take i).length=i:=by simp;omega
 have qt:(new.take m).length=m:=by simp[h2]
 rw[xe,xe,xe];by_cases c1:j<i
 ·rw[if_neg (by omega),Ac,AJ (by omega),AP c1]
 ·by_cases c2:j<i+m
  ·rw[if_pos ⟨by omega,c2⟩,Ac,AK (by omega),nw,AJ (by omega),AP (by omega)]
  ·rw[if_neg (by omega),AK (by simp;omega),Au];congr 2;simp;omega
theorem d0k (x:List DV)(n:Nat):rowAt (AX n x)=fun i=>if i<n then x else []:=by funext j;rw[xe,List.getElem?_replicate];split<;>rfl
theorem c6p (e:List (List DV))(i:Nat)(r:List DV)(h:i<e.length):rowAt (e.set i r)=fun j=>if j=i then r else rowAt e j:=by
 funext j;rw[xe,xe];by_cases c:j=i
 ·subst c;simp[h]
 ·rw[if_neg c,AZ (Ah c)]
theorem KR {A:A2}{ro:Option Nat}{E:BC}{s:Option Nat}{n:Nat}{k:Nat->Bool}(h:II s n k=AB):k (GU (Ae P A ro E) s n)=AB:=by
 cases s with
 |none=>exact h
 |some s=>simp only[II,re] at h;exact h
theorem c2i {A:A2}{ro:Option Nat}{E:BC}{rows:List (List CD)}{s:Option Nat}{k:List (List CD)->Bool}(h:U8 rows s k=AB):
 ∃rs,k rs=AB/\rowAt (CD.VJ rs)=Re (Ae P A ro E) (rowAt (CD.VJ rows)) s:=by
 cases s with
 |none=>exact⟨rows,h,rfl⟩
 |some s=>have h1:=c2z (n:=s) h;refine⟨_,h1,?_⟩;rw[CD.qe,Ak,b3q,<-CD.qe];rfl
theorem UA (r:RH P h hl){v:CA}{k:Nat->Nat->List (List CD)->Bool}(hk:Oh h v k=AB):
 ∃sz n rows,k sz n rows=AB/\ ∀S,Sd P S-> ∀K:Nat->Nat->(Nat->List DV)->Prop,K sz n (rowAt (CD.VJ rows))->um S hl v.to K:=by
 unfold Oh at hk;split at hk
 ·exact⟨_,_,_,hk,fun S _ K hK=>hK⟩
 ·exact⟨_,_,_,hk,fun S _ K hK=>hK⟩
 ·rename_i l sz s n f;obtain⟨o,ao,h1,h2,hk⟩:=r.pp hk;cases o with
  |arr sz' m e=>cases h2;obtain⟨hb,hk⟩:=dw hk;have hk:=KR (P:=P) (A:={}) (ro:=AO) (E:=⟨default,fun _=>False,my,0,[]⟩) hk;obtain⟨hc,hk⟩:=dw hk;obtain⟨rs,hk,he⟩:=c2i (P:=P) (A:={}) (ro:=AO) (E:=⟨default,fun _=>False,my,0,[]⟩) hk;refine⟨_,_,_,hk,?_⟩;rintro S ⟨A,ro,E,rfl⟩ K hK;simp only[CA.to,um,h1,hb,if_true];exact And.intro (AF hc) (by rw[he] at hK;exact hK)
  |t0 sz' m e=>cases h2;obtain⟨hb,hk⟩:=dw hk;have hk:=KR (P:=P) (A:={}) (ro:=AO) (E:=⟨default,fun _=>False,my,0,[]⟩) hk;obtain⟨hc,hk⟩:=dw hk;obtain⟨rs,hk,he⟩:=c2i (P:=P) (A:={}) (ro:=AO) (E:=⟨default,fun _=>False,my,0,[]⟩) hk;refine⟨_,_,_,hk,?_⟩;rintro S ⟨A,ro,E,rfl⟩ K hK;simp only[CA.to,um,h1,hb,if_true];exact And.intro (AF hc) (by rw[he] at hK;exact hK)
  |_=>exact absurd hk AA
 ·exact absurd hk AA
end
section
variable {P:An} {t:TS} {ts:List AV} {h:CH} {hl:List ae}
theorem c3c (r:RH P h hl){v:CA}{k:CA->Bool}(hk:Uv h v k=AB): ∃v',k v'=AB/\ ∀S,Sd P S-> ∀K:AV->Prop,K v'.to->HT S hl v.to K:=by
 unfold Uv at hk;split at hk
 ·rename_i l off n;obtain⟨o,ao,h1,h2,hk⟩:=r.pp hk;cases o with
  |var cs=>cases h2;obtain⟨c,h3,hk⟩:=R5 CA.to hk;obtain⟨ds,h4,hk⟩:=OF hk;obtain⟨rs,h5,hk⟩:=d4d hk;refine⟨_,hk,fun S _ K hK=> ?_⟩;simp only[CA.to,HT,h1];rw[CA.gc,h3,<-CA.gc];simp only[h4,h5];exact hK
  |_=>exact absurd hk AA
 ·obtain⟨sz,n,rows,hk,hv⟩:=UA r hk;exact⟨_,hk,fun S hS K hK=>hv S hS (fun sz n e=>K (.d (.sl sz n e))) hK⟩
 ·exact⟨_,hk,fun S _ K hK=>hK⟩
 ·rename_i h1 h2 h3;refine⟨_,hk,fun S _ K hK=> ?_⟩;cases v<;>first|exact hK|exact absurd rfl (h1 _ _ _)|exact absurd rfl (h2 _ _ _ _ _)|exact absurd rfl (h3 _ _ _)
theorem c6e (r:RH P h hl){vs:List CA}: ∀{k:List CA->Bool},RG h vs k=AB-> ∃vs',k vs'=AB/\ ∀S,Sd P S-> ∀K:List AV->Prop,K (CA.f9 vs')->NH S hl (CA.f9 vs) K:=by
 induction vs with
 |nil=>intro k hk;simp only[RG] at hk;exact⟨[],hk,fun S _ K hK=>hK⟩
 |cons v vs ih=>intro k hk;simp only[RG] at hk;obtain⟨v',hk,h1⟩:=c3c r hk;obtain⟨vs',hk,h2⟩:=ih hk;exact⟨v'::vs',hk,fun S hS K hK=>h1 S hS _ (h2 S hS _ hK)⟩
theorem c3x {S:We}{v:AV}{vs:List AV}{K:List AV->Prop}(hv: ∀cs,v≠ .agg cs)(h:HT S hl v fun v'=>HU S hl vs fun r'=>K (v'::r')):HU S hl (v::vs) K:=by
 cases v<;>first|exact h|exact absurd rfl (hv _)
theorem d0b (r:RH P h hl){vs:List CA}: ∀{k:List CA->Bool},Od h vs k=AB-> ∃vs',k vs'=AB/\ ∀S,Sd P S-> ∀K:List AV->Prop,K (CA.f9 vs')->HU S hl (CA.f9 vs) K:=by
 induction vs with
 |nil=>intro k hk;simp only[Od] at hk;exact⟨[],hk,fun S _ K hK=>hK⟩
 |cons v vs ih=>
  intro k hk;simp only[Od] at hk;split at hk
  ·obtain⟨jw,hk,h1⟩:=c6e r hk;obtain⟨vs',hk,h2⟩:=ih hk;exact⟨.agg jw::vs',hk,fun S hS K hK=>h1 S hS _ (h2 S hS _ hK)⟩
  ·rename_i ck;obtain⟨v',hk,h1⟩:=c3c r hk;obtain⟨vs',hk,h2⟩:=ih hk;refine⟨v'::vs',hk,fun S hS K hK=>c3x (fun cs e=> ?_) (h1 S hS _ (h2 S hS _ hK))⟩;cases v<;>first|exact (ck _ rfl).elim|cases e
theorem a9h (r:RH P h hl){v:CA}{k:CA->CH->Bool}(hk:Rz h v k=AB):
 ∃v' h' bu,k v' h'=AB/\RH P h' bu/\ ∀S,Sd P S-> ∀K:AV->List ae->Prop,K v'.to bu->uv S hl v.to K:=by
 unfold Rz at hk;split at hk
 ·rename_i l sz s n f;obtain⟨sz',n',rows,hk,hv⟩:=UA r hk;obtain⟨o,ao,h1,h2,hk⟩:=r.pp hk;cases o with
  |arr ec m e=>cases h2;obtain⟨h',hk,hr⟩:=r.ww hk;refine⟨_,_,_,hk,hr (.t0 ec m (rowAt (CD.VJ e))) rfl,fun S hS K hK=> ?_⟩;simp only[CA.to,uv];refine hv S hS _ ?_;simp only[h1];exact hK
  |var cs=>cases h2;refine⟨_,_,_,hk,r,fun S hS K hK=> ?_⟩;simp only[CA.to,uv];refine hv S hS _ ?_;simp only[h1];exact hK
  |t0 a b c=>cases h2;refine⟨_,_,_,hk,r,fun S hS K hK=> ?_⟩;simp only[CA.to,uv];refine hv S hS _ ?_;simp only[h1];exact hK
  |map a b c d=>cases h2;refine⟨_,_,_,hk,r,fun S hS K hK=> ?_⟩;simp only[CA.to,uv];refine hv S hS _ ?_;simp only[h1];exact hK
  |dz a b c d=>cases h2;refine⟨_,_,_,hk,r,fun S hS K hK=> ?_⟩;simp only[CA.to,uv];refine hv S hS _ ?_;simp only[h1];exact hK
  |loop a b c d e f=>obtain⟨_,_,rfl⟩:=h2;refine⟨_,_,_,hk,r,fun S hS K hK=> ?_⟩;simp only[CA.to,uv];refine hv S hS _ ?_;simp only[h1];exact hK
  |gone=>cases h2;refine⟨_,_,_,hk,r,fun S hS K hK=> ?_⟩;simp only[CA.to,uv];refine hv S hS _ ?_;simp only[h1];exact hK
 ·exact⟨_,_,_,hk,r,fun S _ K hK=>hK⟩
 ·rename_i h2 h3;refine⟨_,_,_,hk,r,fun S _ K hK=> ?_⟩;cases v<;>first|exact hK|exact absurd rfl (h2 _ _ _ _ _)|exact absurd rfl (h3 _ _ _)
theorem RB {vs:List CA}: ∀{h:CH} {hl:List ae} (_:RH P h hl) {k:List CA->CH->Bool},JD h vs k=AB->
 ∃vs' h' bu,k vs' h'=AB/\RH P h' bu/\ ∀S,Sd P S-> ∀K:List AV->List ae->Prop,K (CA.f9 vs') bu->G3 S hl (CA.f9 vs) K:=by
 induction vs with
 |nil=>intro h hl r k hk;simp only[JD] at hk;exact⟨[],_,_,hk,r,fun S _ K hK=>hK⟩
 |cons v vs ih=>intro h hl r k hk;simp only[JD] at hk;obtain⟨v',h',bu,hk,r',h1⟩:=a9h r hk;obtain⟨vs',h'',Ji,hk,ze,h2⟩:=ih r' hk;exact⟨v'::vs',_,_,hk,ze,fun S hS K hK=>h1 S hS _ (h2 S hS _ hK)⟩
theorem a7x (r:RH P h hl){l:Nat}{k:CA->CH->Bool}(hk:Ul h l k=AB):
 ∃v' h' bu,k v' h'=AB/\RH P h' bu/\ ∀S,Sd P S-> ∀K:AV->List ae->Prop,K v'.to bu->IW S hl l K:=by
 unfold Ul at hk;obtain⟨o,ao,h1,h2,hk⟩:=r.pp hk;cases o with
 |var cs=>cases h2;obtain⟨jw,h',bu,hk,r',h3⟩:=RB r hk;obtain⟨ds,h4,hk⟩:=OF hk;obtain⟨h'',hk,hr⟩:=r'.ww hk;refine⟨_,_,_,hk,hr .gone rfl,fun S hS K hK=> ?_⟩;simp only[IW,h1];refine h3 S hS _ ?_;simp only[h4];exact hK
 |_=>exact absurd hk AA
theorem b6e {S:We}{v:AV}{vs:List AV}{K:List AV->List ae->Prop}(hv: ∀cs,v≠ .agg cs)(hp: ∀l,v≠ .ptr l 0)(h:uv S hl v fun v' h'=>wu S h' vs fun r' h''=>K (v'::r') h''):wu S hl (v::vs) K:=by
 cases v
 case ptr l off=>
  cases off with
  |zero=>exact absurd rfl (hp l)
  |succ off=>exact h
 all_goals first|exact h|exact absurd rfl (hv _)
theorem b2g {vs:List CA}: ∀{h:CH} {hl:List ae} (_:RH P h hl) {k:List CA->CH->Bool},JE h vs k=AB->
 ∃vs' h' bu,k vs' h'=AB/\RH P h' bu/\ ∀S,Sd P S-> ∀K:List AV->List ae->Prop,K (CA.f9 vs') bu->wu S hl (CA.f9 vs) K:=by
 induction vs with
 |nil=>intro h hl r k hk;simp only[JE] at hk;exact⟨[],_,_,hk,r,fun S _ K hK=>hK⟩
 |cons v vs ih=>
  intro h hl r k hk;simp only[JE] at hk;split at hk
  ·obtain⟨jw,h',bu,hk,r',h1⟩:=RB r hk;obtain⟨vs',h'',Ji,hk,ze,h2⟩:=ih r' hk;exact⟨.agg jw::vs',_,_,hk,ze,fun S hS K hK=>h1 S hS _ (h2 S hS _ hK)⟩
  ·obtain⟨v',h',bu,hk,r',h1⟩:=a7x r hk;obtain⟨vs',h'',Ji,hk,ze,h2⟩:=ih r' hk;exact⟨v'::vs',_,_,hk,ze,fun S hS K hK=>h1 S hS _ (h2 S hS _ hK)⟩
  ·rename_i ck LG;obtain⟨v',h',bu,hk,r',h1⟩:=a9h r hk;obtain⟨vs',h'',Ji,hk,ze,h2⟩:=ih r' hk;refine⟨v'::vs',_,_,hk,ze,fun S hS K hK=>b6e (fun cs e=> ?_) (fun l e=> ?_) (h1 S hS _ (h2 S hS _ hK))⟩
   ·cases v<;>first|exact (ck _ rfl).elim|cases e
   ·cases v<;>first|(simp only[CA.to,AV.ptr.injEq] at e;obtain⟨rfl,rfl⟩:=e;exact (LG _ rfl).elim)|cases e
theorem c4s (r:RH P h hl){v:CA}{k:List CD->CH->Bool}(hk:b9i h v k=AB):
 ∃ds h' bu,k ds h'=AB/\RH P h' bu/\ ∀S,Sd P S-> ∀K:List DV->List ae->Prop,K (CD.f9 ds) bu->K0 S hl v.to K:=by
 unfold b9i at hk;obtain⟨vs',h',bu,hk,r',h1⟩:=RB r hk;obtain⟨ds,h2,hk⟩:=OF hk;refine⟨ds,h',bu,hk,r',fun S hS K hK=> ?_⟩;unfold K0;rw[CA.wl];refine h1 S hS _ ?_;simp only[h2];exact hK
theorem b9a {rs:List (List CA)}: ∀{h:CH} {hl:List ae} (_:RH P h hl) {k:List (List CD)->CH->Bool},RC h rs k=AB->
 ∃ds h' bu,k ds h'=AB/\RH P h' bu/\ ∀S,Sd P S-> ∀K:List (List DV)->List ae->Prop,K (CD.VJ ds) bu->IY S hl (rs.map CA.f9) K:=by
 induction rs with
 |nil=>intro h hl r k hk;simp only[RC] at hk;exact⟨[],_,_,hk,r,fun S _ K hK=>hK⟩
 |cons v vs ih=>intro h hl r k hk;simp only[RC] at hk;obtain⟨v',h',bu,hk,r',h1⟩:=RB r hk;obtain⟨ds,h2,hk⟩:=OF hk;obtain⟨vs',h'',Ji,hk,ze,h3⟩:=ih r' hk;refine⟨ds::vs',_,_,hk,ze,fun S hS K hK=>h1 S hS _ ?_⟩;simp only[h2];exact h3 S hS _ hK
theorem Ns {k:AG}{x:Int}(h:Jr k x=AB):k.wrap x=x:=by
 have gen: ∀k:AG,Wn (k.wrap x) x=AB->k.wrap x=x:=fun k h=>by rw[IC] at h;exact of_decide_eq_true h
 cases k with
 |i64=>
  have hx: -9223372036854775808<=x/\x<9223372036854775808:=by
   cases x with
   |ofNat n=>have h1:n<9223372036854775808:=AF h;simp only[AI];omega
   |negSucc n=>have h1:n<9223372036854775808:=AF h;omega
  have e1:(2:Int)^64=18446744073709551616:=by decide
  have e2:(2:Int)^(64-1)=9223372036854775808:=by decide
  simp only[IntKind.wrap,IntKind.bits,IntKind.signed,e1,e2,Bool.true_and,decide_eq_true_eq];split<;>omega
 |_=>exact gen _ h
end
theorem b9m (a b:Int):BD a b=decide (a=b):=by rw[Int.beq'_eq_beq];rfl
section
variable {P:An} {t:TS} {ts:List AV} {h:CH} {hl:List ae}
theorem d1g {op:Av}{kd:AG}{x y:IX}{k:CD->Bool}(hk:Gq op kd x y k=AB):
 ∃c,k c=AB/\ ∀S,Sd P S-> ∀K:DV->Prop,K c.to->H9 S op kd x y K:=by
 cases op
 case add=>
  cases x<;>cases y<;>
  ·simp only[Gq,IS] at hk;obtain⟨h1,hk⟩:=dw hk;refine⟨_,hk,?_⟩;rintro S ⟨A,ro,E,rfl⟩ K hK;exact And.intro (Ns h1) hK
 case sub=>
  cases x<;>cases y<;>
  ·simp only[Gq,IS] at hk;obtain⟨h1,hk⟩:=dw hk;refine⟨_,hk,?_⟩;rintro S ⟨A,ro,E,rfl⟩ K hK;exact And.intro (Ns h1) hK
 case mul=>
  simp only[Gq,IS] at hk;obtain⟨h1,hk⟩:=dw hk;refine⟨_,hk,?_⟩;rintro S ⟨A,ro,E,rfl⟩ K hK;exact And.intro (Ns h1) hK
 case quo=>
  simp only[Gq,IS] at hk;obtain⟨h0,hk⟩:=dw hk;obtain⟨h1,hk⟩:=dw hk;refine⟨_,hk,?_⟩;rintro S ⟨A,ro,E,rfl⟩ K hK;rw[IC] at h0;exact And.intro (show y.val≠0 from by simpa using h0) (And.intro (Ns h1) hK)
 case rem=>
  simp only[Gq,IS] at hk;obtain⟨h0,hk⟩:=dw hk;refine⟨_,hk,?_⟩;rintro S ⟨A,ro,E,rfl⟩ K hK;rw[IC] at h0;exact And.intro (show y.val≠0 from by simpa using h0) hK
 case eql=>
  simp only[Gq,MS] at hk;refine⟨_,hk,?_⟩;rintro S ⟨A,ro,E,rfl⟩ K hK;rw[IC] at hK;cases x<;>cases y<;>first
   |(simp only[H9,b9m];exact hK)
   |(simp only[H9];exact hK)
 case neq=>
  simp only[Gq,MS] at hk;refine⟨.bool (!(decide (x.val=y.val))),?_,?_⟩
  ·rw[<-IC];split at hk<;>(rename_i e;rw[e];exact hk)
  rintro S ⟨A,ro,E,rfl⟩ K hK;cases x<;>cases y<;>first
   |(simp only[H9,b9m];exact hK)
   |(simp only[H9];exact hK)
 case lss=>
  simp only[Gq,MS,Mn] at hk;refine⟨_,hk,?_⟩;rintro S ⟨A,ro,E,rfl⟩ K hK;exact hK
 case gtr=>
  simp only[Gq,MS,Mn] at hk;refine⟨_,hk,?_⟩;rintro S ⟨A,ro,E,rfl⟩ K hK;exact hK
 case leq=>
  simp only[Gq,MS,c6m] at hk;refine⟨_,hk,?_⟩;rintro S ⟨A,ro,E,rfl⟩ K hK;exact hK
 case geq=>
  simp only[Gq,MS,c6m] at hk;refine⟨_,hk,?_⟩;rintro S ⟨A,ro,E,rfl⟩ K hK;exact hK
 all_goals exact absurd hk AA
theorem d9l {ks:List AG}: ∀{xs ys:List CA} {k:Bool->Bool},Rr ks xs ys k=AB-> ∃b,k b=AB/\ ∀S,Sd P S->My S ks (CA.f9 xs) (CA.f9 ys)=AL b:=by
 induction ks with
 |nil=>
  intro xs ys k hk;unfold Rr at hk;cases xs with
  |cons=>exact absurd hk AA
  |nil=>
   cases ys with
   |cons=>exact absurd hk AA
   |nil=>exact⟨AB,hk,fun S _=>rfl⟩
 |cons kd ks ih=>
  intro xs ys k hk;unfold Rr at hk;simp only at hk;split at hk
  ·rename_i k1 x xs;split at hk
   ·rename_i k2 y ys;obtain⟨h1,hk⟩:=dw hk;obtain⟨h2,hk⟩:=dw hk;obtain⟨b,hk,h3⟩:=ih hk;refine⟨decide (x.val=y.val)&&b,?_,?_⟩
    ·rw[IC] at hk;cases e:decide (x.val=y.val)<;>rw[e] at hk<;>simpa using hk
    ·rintro S ⟨A,ro,E,rfl⟩;have e3:=h3 (Ae P A ro E) ⟨A,ro,E,rfl⟩;simp only[CA.f9,CA.to,CD.to,My,yb h1] at e3⊢;have ek:k1=k2:=(yb h1).symm.trans (yb h2);subst ek;simp only[if_true,e3];rfl
   ·exact absurd hk AA
  ·exact absurd hk AA
theorem d9a (a b:Bool):g2e a b=(a==b):=by cases a<;>cases b<;>rfl
theorem d3a {ks:List CK}: ∀{xs ys:List CA} {k:Bool->Bool},N5 ks xs ys k=AB-> ∃b,k b=AB/\ ∀S,Sd P S->Gv S ks (CA.f9 xs) (CA.f9 ys)=AL b:=by
 induction ks with
 |nil=>
  intro xs ys k hk;unfold N5 at hk;cases xs with
  |cons=>exact absurd hk AA
  |nil=>
   cases ys with
   |cons=>exact absurd hk AA
   |nil=>exact⟨AB,hk,fun S _=>rfl⟩
 |cons kd ks ih=>
  intro xs ys k hk;unfold N5 at hk;simp only at hk;split at hk
  ·rename_i x xs;split at hk
   ·rename_i y ys;split at hk
    ·rename_i kd;split at hk
     ·rename_i k1 x;split at hk
      ·rename_i k2 y;obtain⟨h1,hk⟩:=dw hk;obtain⟨h2,hk⟩:=dw hk;obtain⟨b,hk,h3⟩:=ih hk;refine⟨decide (x.val=y.val)&&b,?_,?_⟩
       ·rw[IC] at hk;cases e:decide (x.val=y.val)<;>rw[e] at hk<;>simpa using hk
       ·rintro S ⟨A,ro,E,rfl⟩;have e3:=h3 (Ae P A ro E) ⟨A,ro,E,rfl⟩;simp only[CA.f9,CA.to,CD.to,Gv,yb h1] at e3⊢;have ek:k1=k2:=(yb h1).symm.trans (yb h2);subst ek;simp only[if_true,e3];rfl
      ·exact absurd hk AA
     ·exact absurd hk AA
    ·split at hk
     ·rename_i x;split at hk
      ·rename_i y;obtain⟨b,hk,h3⟩:=ih hk;refine⟨(x==y)&&b,?_,?_⟩
       ·rw[d9a] at hk;cases e:(x==y)<;>rw[e] at hk<;>simpa using hk
       ·rintro S ⟨A,ro,E,rfl⟩;have e3:=h3 (Ae P A ro E) ⟨A,ro,E,rfl⟩;simp only[CA.f9,CA.to,CD.to,Gv] at e3⊢;simp only[e3];rfl
      ·exact absurd hk AA
     ·exact absurd hk AA
   ·exact absurd hk AA
  ·exact absurd hk AA
theorem b3u {ks:List AG}: ∀{xs:List CA} {k:List KC->Bool},Ob ks xs k=AB-> ∃kc,k kc=AB/\ ∀S,Sd P S-> ∀K:List KC->Prop,K kc->y8 S ks (CA.f9 xs) K:=by
 induction ks with
 |nil=>
  intro xs k hk;unfold Ob at hk;cases xs with
  |cons=>exact absurd hk AA
  |nil=>exact⟨[],hk,fun S _ K hK=>hK⟩
 |cons kd ks ih=>
  intro xs k hk;unfold Ob at hk;split at hk
  ·rename_i k1 x xs;obtain⟨h1,hk⟩:=dw hk;obtain⟨h2,hk⟩:=dw hk;obtain⟨kc,hk,h3⟩:=ih hk;refine⟨_,hk,?_⟩;rintro S ⟨A,ro,E,rfl⟩ K hK;simp only[CA.f9,CA.to,CD.to,y8,yb h1,if_true];have ek:=yb h1;subst ek;exact And.intro (Ns h2) (h3 _ ⟨A,ro,E,rfl⟩ _ hK)
  ·exact absurd hk AA
theorem RD {wide:Bool}{ks:List AG}{v:CA}{k:List KC->Bool}(hk:Mm wide ks v k=AB): ∃kc,k kc=AB/\ ∀S,Sd P S-> ∀K:List KC->Prop,K kc->wb S wide ks v.to K:=by
 unfold Mm at hk;split at hk
 ·cases wide with
  |false=>exact absurd hk AA
  |true=>obtain⟨kc,hk,h1⟩:=b3u (P:=P) hk;exact⟨kc,hk,fun S hS K hK=>h1 S hS K hK⟩
 ·rename_i ck;cases wide with
  |true=>exact absurd hk AA
  |false=>
   obtain⟨kc,hk,h1⟩:=b3u (P:=P) hk;refine⟨kc,hk,fun S hS K hK=> ?_⟩;have:=h1 S hS K hK;cases v<;>first|exact this|exact (ck _ rfl).elim
theorem QI {a:List AG}: ∀{b:List AG},Ks a b=AB->a=b:=by
 induction a with
 |nil=>intro b h;cases b with
  |nil=>rfl
  |cons=>exact absurd h AA
 |cons x a ih=>
  intro b h;cases b with
  |nil=>exact absurd h AA
  |cons y b=>
   simp only[Ks] at h;split at h
   ·rename_i e;rw[yb e,ih h]
   ·exact absurd h AA
theorem c2y {a:List UInt8}: ∀{b:List UInt8},KM a b=decide (a=b):=by
 induction a with
 |nil=>intro b;cases b<;>simp[KM]
 |cons x a ih=>
  intro b;cases b with
  |nil=>simp[KM]
  |cons y b=>
   simp only[KM];by_cases e:x=y
   ·subst e;rw[show AC x.toNat x.toNat=AB from A8 _];simp only[ih];simp
   ·have:AC x.toNat y.toNat=AE:=by rw[Bool.eq_false_iff];intro c;exact e (UInt8.toNat_inj.1 (AD c))
    rw[this];simp[e]
theorem d5m (a b:Bool):Za a b=decide (a=b):=by cases a<;>cases b<;>rfl
theorem d2g (a b:KC):d6u a b=decide (a=b):=by cases a<;>cases b<;>simp[d6u,IC,d5m,c2y]
theorem QF {a:List KC}: ∀{b:List KC},Iq a b=decide (a=b):=by
 induction a with
 |nil=>intro b;cases b<;>simp[Iq]
 |cons x a ih=>
  intro b;cases b with
  |nil=>simp[Iq]
  |cons y b=>
   simp only[Iq,d2g];by_cases e:x=y
   ·simp[e,ih]
   ·simp[e]
theorem c1g {es:List (List KC×Int)}{kc:List KC}{k:Option Int->Bool}(hk:RE es kc k=AB):k (JK es kc)=AB:=by
 induction es with
 |nil=>exact hk
 |cons e es ih=>
  obtain⟨k',v⟩:=e;simp only[RE,QF] at hk;simp only[JK];by_cases c:kc=k'
  ·rw[if_pos c];simpa [c] using hk
  ·rw[if_neg c];exact ih (by simpa [c] using hk)
theorem c9f {kc:List KC}{ks:List (List KC)}: ∀{vs:List CA} {k:Option CA->Bool},Up kc ks vs k=AB-> ∃r,k r=AB/\mf kc ks (CA.f9 vs)=r.map CA.to:=by
 induction ks with
 |nil=>intro vs k hk;exact⟨AO,hk,by simp[mf]⟩
 |cons k' ks ih=>
  intro vs k hk;cases vs with
  |nil=>exact⟨AO,hk,by simp[mf,CA.f9]⟩
  |cons v vs=>
   simp only[Up,QF] at hk;simp only[mf,CA.f9];by_cases c:kc=k'
   ·rw[if_pos c.symm];exact⟨AL v,by simpa [c] using hk,rfl⟩
   ·rw[if_neg (Ah c)];exact ih (by simpa [c] using hk)
theorem d3g {kc:List KC}{x:CA}{ks:List (List KC)}: ∀{vs:List CA} {k:Option (List CA)->Bool},Ur kc x ks vs k=AB-> ∃r,k r=AB/\HM kc x.to ks (CA.f9 vs)=r.map CA.f9:=by
 induction ks with
 |nil=>intro vs k hk;exact⟨AO,hk,by simp[HM]⟩
 |cons k' ks ih=>
  intro vs k hk;cases vs with
  |nil=>exact⟨AO,hk,by simp[HM,CA.f9]⟩
  |cons v vs=>
   simp only[Ur,QF] at hk;simp only[HM,CA.f9];by_cases c:kc=k'
   ·rw[if_pos c.symm];exact⟨AL (x::vs),by simpa [c] using hk,rfl⟩
   ·rw[if_neg (Ah c)];have hd:decide (kc=k')=AE:=by simp[c]
    rw[hd] at hk;obtain⟨r,h1,h2⟩:=ih (vs:=vs) hk;rw[h2];cases r with
    |none=>exact⟨AO,h1,rfl⟩
    |some l=>exact⟨AL (v::l),h1,rfl⟩
theorem CA.V1 {l:List CA}{i:Nat}{v:CA}(h:l[i]? =AL v):ax (CA.f9 l) i=AL v.to:=by rw[cy,CA.gc,AY,h];rfl
theorem c9r (r:RT t ts){ps:List (Nat×Nat×ah)}: ∀{cs:List CA} {k:List CA->Bool},Uk t cs ps k=AB-> ∃jw,Ic ts (CA.f9 cs) ps=AL (CA.f9 jw)/\k jw=AB:=by
 induction ps with
 |nil=>intro cs k hk;exact⟨cs,rfl,hk⟩
 |cons p ps ih=>
  obtain⟨off,sz,x⟩:=p;intro cs k hk;simp only[Uk] at hk;obtain⟨v,h1,hk⟩:=dy r hk;have hk:=Nw hk;obtain⟨h2,hk⟩:=dw hk;obtain⟨h3,hk⟩:=ND hk;obtain⟨c,h4,hk⟩:=TP CA.to hk;obtain⟨jw,h5,hk⟩:=ih hk;refine⟨jw,?_,hk⟩;have yr:AC (az (CA.f9 v.cells)) sz=AB:=by rw[cv,CA.Vp];simpa using h2
  simp only[Ic,h1,CA.wl,yr,h3,Al,if_true];rw[CA.gc,CA.gc,h4];rw[<-CA.gc];exact h5
theorem b8b (r:RT t ts){sz:Nat}{ps:List (Nat×ah)}: ∀{rs:List (List CA)} {k:List (List CA)->Bool},Rx t sz rs ps k=AB-> ∃zj,zz ts sz (rs.map CA.f9) ps=AL (zj.map CA.f9)/\k zj=AB:=by
 induction ps with
 |nil=>intro cs k hk;exact⟨cs,rfl,hk⟩
 |cons p ps ih=>
  obtain⟨i,x⟩:=p;intro rs k hk;simp only[Rx] at hk;obtain⟨v,h1,hk⟩:=dy r hk;have hk:=Nw hk;obtain⟨h2,hk⟩:=dw hk;obtain⟨h3,hk⟩:=ND hk;obtain⟨h4,hk⟩:=c0d hk;obtain⟨zj,h5,hk⟩:=ih hk;refine⟨zj,?_,hk⟩;have yr:AC (az (CA.f9 v.cells)) sz=AB:=by rw[cv,CA.Vp];simpa using h2
  have h6:ax (rs.map CA.f9) i=AL (CA.f9 rs[i]):=by rw[cy];simp[h4]
  simp only[zz,h1,CA.wl,yr,h3,Al,if_true,h6];rw[fg,<-Ao];exact h5
theorem b0q {row:List CD}{off:Nat}{agg:Option Nat}{k:CA->Bool}(hk:Uw row off agg k=AB): ∃v,k v=AB/\ ∀K:AV->Prop,K v.to->Gk (CD.f9 row) off agg K:=by
 cases agg with
 |none=>
  obtain⟨x,h1,hk⟩:=JW hk;refine⟨_,hk,fun K hK=> ?_⟩;have:ax (CD.f9 row) off=AL x.to:=by rw[cy,CD.gc,AY,h1];rfl
  simp only[Gk,this];exact hK
 |some m=>obtain⟨c,h1,hk⟩:=R5 CD.to hk;obtain⟨cs,h2,hk⟩:=ML hk;refine⟨_,hk,fun K hK=> ?_⟩;simp only[Gk];rw[CD.gc,h1,<-CD.gc];simp only[h2];exact hK
theorem Q8 {rows:List (List CD)}{i:Nat}{k:List CD->Bool}(hk:NM rows i k=AB): ∃row,i<rows.length/\rowAt (CD.VJ rows) i=CD.f9 row/\k row=AB:=by obtain⟨row,h1,hk⟩:=JW hk;refine⟨row,(AH.1 h1).1,?_,hk⟩;rw[xe,CD.qe,AY,h1];rfl
theorem b8j (r:RH P h hl){p:CA}{agg:Option Nat}{k:CA->Bool}(hk:Ux h p agg k=AB): ∃v,k v=AB/\ ∀S,Sd P S-> ∀K:AV->Prop,K v.to->Gl S hl p.to agg K:=by
 unfold Ux at hk;split at hk
 ·rename_i l off;obtain⟨o,ao,h1,h2,hk⟩:=r.pp hk;cases o with
  |var cs=>
   cases h2;cases agg with
   |none=>obtain⟨v,h3,hk⟩:=JW hk;refine⟨v,hk,fun S _ K hK=> ?_⟩;simp only[CA.to,Gl,h1,CA.V1 h3];exact hK
   |some n=>obtain⟨c,h3,hk⟩:=R5 CA.to hk;refine⟨_,hk,fun S _ K hK=> ?_⟩;simp only[CA.to,Gl,h1];rw[CA.gc,h3,<-CA.gc];exact hK
  |_=>exact absurd hk AA
 ·rename_i l sz i off;obtain⟨o,ao,h1,h2,hk⟩:=r.pp hk;cases o with
  |arr sz' n e=>cases h2;obtain⟨h3,hk⟩:=dw hk;obtain⟨h4,hk⟩:=dw hk;obtain⟨row,h5,h6,hk⟩:=Q8 hk;obtain⟨v,hk,h7⟩:=b0q hk;refine⟨v,hk,?_⟩;rintro S ⟨A,ro,E,rfl⟩ K hK;simp only[CA.to,Gl,h1,h3,if_true,h6];exact And.intro (AF h4) (h7 K hK)
  |t0 sz' n e=>cases h2;obtain⟨h3,hk⟩:=dw hk;obtain⟨h4,hk⟩:=dw hk;obtain⟨row,h5,h6,hk⟩:=Q8 hk;obtain⟨v,hk,h7⟩:=b0q hk;refine⟨v,hk,?_⟩;rintro S ⟨A,ro,E,rfl⟩ K hK;simp only[CA.to,Gl,h1,h3,if_true,h6];exact And.intro (AF h4) (h7 K hK)
  |_=>exact absurd hk AA
 ·obtain⟨v,hk,h7⟩:=b0q hk;exact⟨v,hk,fun S _ K hK=>h7 K hK⟩
 ·exact absurd hk AA
theorem b7v {v:CA}{sz:Nat}(h:AC (0+v.cells.length) sz=AB)(h2:tv (CA.f9 v.cells)=AB):(AC (az v.to.cells) sz&&tv v.to.cells)=AB:=by rw[CA.wl,cv,CA.Vp,h2];simpa using h
theorem c4g (r:RH P h hl){p v:CA}{sz:Nat}{k:CH->Bool}(hk:b8w h p v sz k=AB): ∃h' bu,k h'=AB/\RH P h' bu/\ ∀S,Sd P S-> ∀K:List ae->Prop,K bu->IB S hl p.to v.to sz K:=by
 unfold b8w at hk;split at hk
 ·rename_i l off;have hk:=Nw hk;obtain⟨h2,hk⟩:=dw hk;obtain⟨h3,hk⟩:=ND hk;obtain⟨o,ao,h1,h4,hk⟩:=r.pp hk;cases o with
  |var cs=>cases h4;obtain⟨c,h5,hk⟩:=TP CA.to hk;obtain⟨h',hk,hr⟩:=r.ww hk;refine⟨h',_,hk,hr (.var (CA.f9 c)) rfl,fun S _ K hK=> ?_⟩;simp only[CA.to,IB,b7v h2 h3,if_true,h1];rw[CA.wl,CA.gc,CA.gc,h5,<-CA.gc];exact hK
  |_=>exact absurd hk AA
 ·rename_i l sz' i off;have hk:=Nw hk;obtain⟨h2,hk⟩:=dw hk;obtain⟨h3,hk⟩:=ND hk;obtain⟨o0,ao0,h01,h04,hk⟩:=r.pp hk;cases o0 with
  |arr _ _ _=>
   cases h04;obtain⟨new,h',bu,hk,r',hd⟩:=c4s r hk;obtain⟨o,ao,h1,h4,hk⟩:=r'.pp hk;cases o with
   |arr ec n e=>cases h4;obtain⟨h5,hk⟩:=dw hk;obtain⟨h6,hk⟩:=dw hk;obtain⟨row,h7,h8,hk⟩:=Q8 hk;obtain⟨c,h9,hk⟩:=TP CD.to hk;obtain⟨h10,hk⟩:=c0d hk;obtain⟨h'',hk,hr⟩:=r'.ww hk;refine⟨h'',_,hk,hr (.arr ec n (rowAt (CD.VJ (e.set i c)))) rfl,?_⟩;rintro S ⟨A,ro,E,rfl⟩ K hK;simp only[CA.to,IB,b7v h2 h3,if_true,h01,Ta];refine hd _ ⟨A,ro,E,rfl⟩ _ ?_;simp only[h1,h5,if_true,h8];refine And.intro (AF h6) ?_;rw[CD.gc,CD.gc,h9,<-CD.gc];rw[CD.qe,Ao,c6p _ _ _ (by simpa using h7),<-CD.qe] at hK;exact hK
   |_=>exact absurd hk AA
  |_=>exact absurd hk AA
 ·exact absurd hk AA
end
theorem CA.Xn (v:CA):v.to.free=v.free:=by
 cases v with
 |fn f us cs=>cases us<;>cases cs<;>rfl
 |_=>rfl
theorem c8s {vs:List CA}{k:Unit->Bool}(h:Sj vs k=AB):sd.V7 (CA.f9 vs)=AB/\k ()=AB:=by
 induction vs with
 |nil=>exact⟨rfl,h⟩
 |cons v l ih=>
  simp only[Sj] at h;split at h
  ·rename_i e;simp only[CA.f9,sd.V7,CA.Xn,e];exact ih h
  ·exact absurd h AA
theorem Sk {vs:List CA}{k:Unit->Bool}(h:IV vs k=AB):sd (CA.f9 vs)=AB/\k ()=AB:=by
 induction vs with
 |nil=>exact⟨rfl,h⟩
 |cons v l ih=>
  unfold IV at h;simp only at h;split at h
  ·rename_i cs;obtain⟨h1,h⟩:=c8s h;obtain⟨h2,h⟩:=ih h;exact⟨by simp only[CA.f9,CA.to,sd,h1,h2,if_true],h⟩
  ·rename_i ck;split at h
   ·rename_i e;obtain⟨h2,h⟩:=ih h;refine⟨?_,h⟩;have e':=CA.Xn v;rw[e] at e';cases v<;>first|exact (ck _ rfl).elim|(simp only[CA.f9,CA.to] at e'⊢;simp only[sd,e',h2,if_true])
   ·exact absurd h AA
theorem CA.XM (v:CA):v.to.W5=v.W5:=by cases v<;>rfl
mutual
theorem d1f:(v:CA)-> ∀{k:CA->Bool},e9q v k=AB-> ∃v',k v'=AB/\v'.to=v.to.norm
 | .d (.int kd n),k,h=>⟨.d (.int kd (.v n.val)),h,rfl⟩
 | .d (.bool b),k,h=>⟨_,h,rfl⟩
 | .d (.str l),k,h=>⟨_,h,rfl⟩
 | .d .nil,k,h=>⟨_,h,rfl⟩
 | .d (.sl a b c),k,h=>⟨_,h,rfl⟩
 | .d (.raw v),k,h=>⟨_,h,rfl⟩
 | .any,k,h=>⟨_,h,rfl⟩
 | .lc,k,h=>⟨_,h,rfl⟩
 | .agg cs,k,h=>by obtain⟨v',h1,h2⟩:=H3 cs (k:=fun cs=>k (.agg cs)) h;exact⟨_,h1,by simp only[CA.to,BA,h2]⟩
 | .tuple cs,k,h=>by obtain⟨v',h1,h2⟩:=H3 cs (k:=fun cs=>k (.tuple cs)) h;exact⟨_,h1,by simp only[CA.to,BA,h2]⟩
 | .ptr ..,k,h=>⟨_,h,rfl⟩
 | .ii ..,k,h=>⟨_,h,rfl⟩
 | .d9 ..,k,h=>⟨_,h,rfl⟩
 | .lm ..,k,h=>⟨_,h,rfl⟩
 | .bi ..,k,h=>⟨_,h,rfl⟩
 | .d7 ..,k,h=>⟨_,h,rfl⟩
 | .map _,k,h=>⟨_,h,rfl⟩
 | .fn f us cs,k,h=>by obtain⟨u',h1,h2⟩:=H3 us (k:=fun us=>JF cs fun cs=>k (.fn f us cs)) h;obtain⟨c',h3,h4⟩:=H3 cs (k:=fun cs=>k (.fn f u' cs)) h1;exact⟨_,h3,by simp only[CA.to,BA,h2,h4]⟩
 | .ge _,k,h=>⟨_,h,rfl⟩
 | .yl _,k,h=>⟨_,h,rfl⟩
theorem H3:(vs:List CA)-> ∀{k:List CA->Bool},JF vs k=AB-> ∃vs',k vs'=AB/\CA.f9 vs'=A6 (CA.f9 vs)
 |[],k,h=>⟨[],h,rfl⟩
 |v::vs,k,h=>by obtain⟨v',h1,h2⟩:=d1f v (k:=fun v=>JF vs fun r=>k (v::r)) h;obtain⟨vs',h3,h4⟩:=H3 vs (k:=fun r=>k (v'::r)) h1;exact⟨_,h3,by simp only[CA.f9,A6,h2,h4]⟩
end
theorem N8 {l m:Nat}{v:CA}{k:CA->Bool}(h:zo l m v k=AB): ∃v',k v'=AB/\v'.to=if (if AE=AB then AW l m else AC l m)=AB then .any else v.to:=by
 unfold zo at h;cases e:AC l m with
 |false=>rw[e] at h;exact⟨v,h,by simp⟩
 |true=>rw[e] at h;exact⟨.any,h,by simp[CA.to]⟩
mutual
theorem b3g (l:Nat):(v:CA)-> ∀{k:CA->Bool},c7q l v k=AB-> ∃v',k v'=AB/\v'.to=v.to.forget l AE
 | .d _,k,h=>⟨_,h,rfl⟩
 | .any,k,h=>⟨_,h,rfl⟩
 | .lc,k,h=>⟨_,h,rfl⟩
 | .agg cs,k,h=>by obtain⟨v',h1,h2⟩:=Mj l cs (k:=fun cs=>k (.agg cs)) h;exact⟨_,h1,by simp only[CA.to,A3,h2]⟩
 | .tuple cs,k,h=>by obtain⟨v',h1,h2⟩:=Mj l cs (k:=fun cs=>k (.tuple cs)) h;exact⟨_,h1,by simp only[CA.to,A3,h2]⟩
 | .ptr m off,k,h=>by obtain⟨v',h1,h2⟩:=N8 (v:= .ptr m off) h;exact⟨v',h1,h2⟩
 | .ii m sz i off,k,h=>by obtain⟨v',h1,h2⟩:=N8 (v:= .ii m sz i off) h;exact⟨v',h1,h2⟩
 | .d9 ..,k,h=>⟨_,h,rfl⟩
 | .lm ..,k,h=>⟨_,h,rfl⟩
 | .bi m sz s n f,k,h=>by obtain⟨v',h1,h2⟩:=N8 (v:= .bi m sz s n f) h;exact⟨v',h1,h2⟩
 | .d7 m off n,k,h=>by obtain⟨v',h1,h2⟩:=N8 (v:= .d7 m off n) h;exact⟨v',h1,h2⟩
 | .map m,k,h=>by obtain⟨v',h1,h2⟩:=N8 (v:= .map m) h;exact⟨v',h1,h2⟩
 | .fn f us cs,k,h=>by obtain⟨u',h1,h2⟩:=Mj l us (k:=fun us=>Ry l cs fun cs=>k (.fn f us cs)) h;obtain⟨c',h3,h4⟩:=Mj l cs (k:=fun cs=>k (.fn f u' cs)) h1;exact⟨_,h3,by simp only[CA.to,A3,h2,h4]⟩
 | .ge _,k,h=>⟨_,h,rfl⟩
 | .yl m,k,h=>by obtain⟨v',h1,h2⟩:=N8 (v:= .yl m) h;exact⟨v',h1,h2⟩
theorem Mj (l:Nat):(vs:List CA)-> ∀{k:List CA->Bool},Ry l vs k=AB-> ∃vs',k vs'=AB/\CA.f9 vs'=Am l AE (CA.f9 vs)
 |[],k,h=>⟨[],h,rfl⟩
 |v::vs,k,h=>by obtain⟨v',h1,h2⟩:=b3g l v (k:=fun v=>Ry l vs fun r=>k (v::r)) h;obtain⟨vs',h3,h4⟩:=Mj l vs (k:=fun r=>k (v'::r)) h1;exact⟨_,h3,by simp only[CA.f9,Am,h2,h4]⟩
end
section
variable {P:An} {t:TS} {ts:List AV} {h:CH} {hl:List ae}
theorem a9k (l:Nat){t:TS}: ∀{k:TS->Bool},Ml l t k=AB-> ∃t',k t'=AB/\ ∀i v',t'.get? i=AL v'-> ∃v,t.get? i=AL v/\v'.to=v.to.forget l AE:=by
 induction t with
 |leaf=>intro k h;exact⟨.leaf,h,fun i v' h=>by simp[BT.get?] at h⟩
 |node v a b ia ib=>
  intro k h;obtain⟨v',h1,h2⟩:=b3g l v (k:=fun v=>Ml l a fun tl=>Ml l b fun tr=>k (.node v tl tr)) h;obtain⟨a',h3,h4⟩:=ia (k:=fun tl=>Ml l b fun tr=>k (.node v' tl tr)) h1;obtain⟨b',h5,h6⟩:=ib h3;refine⟨_,h5,fun i u hi=> ?_⟩;cases i with
  |zero=>simp only[BT.get?,Option.some.injEq] at hi⊢;subst hi;exact⟨v,rfl,h2⟩
  |succ j=>
   simp only[BT.get?] at hi⊢;split at hi
   ·rename_i e;rw[if_pos e];exact h4 _ _ hi
   ·rename_i e;rw[if_neg e];exact h6 _ _ hi
theorem b9v (r:RT t ts){l:Nat}{k:TS->Bool}(hk:Ml l t k=AB): ∃t',k t'=AB/\RT t' (Am l AE ts):=by obtain⟨t',h1,h2⟩:=a9k l hk;refine⟨t',h1,fun i v' hv=> ?_⟩;obtain⟨v,h3,h4⟩:=h2 i v' hv;rw[Ar,AY,r i v h3,h4];rfl
theorem c8l {pg:List Nat}: ∀{t:TS} {ts:List AV} (_:RT t ts) {k:TS->Bool},IE pg t k=AB-> ∃t',k t'=AB/\RT t' (ts.map (IT pg)):=by
 induction pg with
 |nil=>intro t ts r k hk;refine⟨t,hk,?_⟩;simpa [IT] using r
 |cons l pg ih=>intro t ts r k hk;simp only[IE] at hk;obtain⟨t',hk,r'⟩:=b9v r hk;obtain⟨HY,hk,ze⟩:=ih r' hk;refine⟨HY,hk,?_⟩;rw[Ar,List.map_map] at ze;exact ze
theorem b4b (l:Nat){t:BT qz}: ∀{k:BT qz->Bool},Gs l t k=AB->
 ∃t',k t'=AB/\ ∀i v',t'.get? i=AL v'-> ∃v,t.get? i=AL v/\ ∀ao,v.R P ao->v'.R P (ao.forget l AE):=by
 induction t with
 |leaf=>intro k h;exact⟨.leaf,h,fun i v' h=>by simp[BT.get?] at h⟩
 |node v a b ia ib=>
  intro k h;have hv: ∃v',(∀ao,v.R P ao->v'.R P (ao.forget l AE))/\(Gs l a fun tl=>Gs l b fun tr=>k (.node v' tl tr))=AB:=by
   have h':c1f l v (fun v=>Gs l a fun tl=>Gs l b fun tr=>k (.node v tl tr))=AB:=h;cases v with
   |var cs=>obtain⟨c',h1,h2⟩:=Mj l cs (k:=fun cs=>Gs l a fun tl=>Gs l b fun tr=>k (.node (.var cs) tl tr)) h';exact⟨_,fun ao hR=>by cases hR;simp only[qz.R,ae.forget,h2],h1⟩
   |arr=>exact⟨_,fun ao hR=>by cases hR;rfl,h'⟩
   |t0=>exact⟨_,fun ao hR=>by cases hR;rfl,h'⟩
   |map=>exact⟨_,fun ao hR=>by cases hR;rfl,h'⟩
   |gone=>exact⟨_,fun ao hR=>by cases hR;rfl,h'⟩
   |dz p q r s=>obtain⟨c',h1,h2⟩:=Mj l s (k:=fun cs=>Gs l a fun tl=>Gs l b fun tr=>k (.node (.dz p q r cs) tl tr)) h';exact⟨_,fun ao hR=>by cases hR;simp only[qz.R,ae.forget,h2],h1⟩
   |loop s ts ps A x y=>obtain⟨t',h1,h2⟩:=a9k l (k:=fun ts=>Gs l a fun tl=>Gs l b fun tr=>k (.node (.loop s ts ps A x y) tl tr)) h';refine⟨_,fun ao hR=> ?_,h1⟩;obtain⟨zk,h3,rfl⟩:=hR;refine⟨Am l AE zk,fun i v' hv=> ?_,rfl⟩;obtain⟨v,h5,h6⟩:=h2 i v' hv;rw[Ar,AY,h3 i v h5,h6];rfl
  obtain⟨v',h2,h1⟩:=hv;obtain⟨a',h3,h4⟩:=ia (k:=fun tl=>Gs l b fun tr=>k (.node v' tl tr)) h1;obtain⟨b',h5,h6⟩:=ib h3;refine⟨_,h5,fun i u hi=> ?_⟩;cases i with
  |zero=>simp only[BT.get?,Option.some.injEq] at hi⊢;subst hi;exact⟨v,rfl,h2⟩
  |succ j=>
   simp only[BT.get?] at hi⊢;split at hi
   ·rename_i e;rw[if_pos e];exact h4 _ _ hi
   ·rename_i e;rw[if_neg e];exact h6 _ _ hi
theorem b8t (r:RH P h hl){l:Nat}{k:CH->Bool}(hk:c1o l h k=AB): ∃h',k h'=AB/\RH P h' (pq l AE hl):=by obtain⟨n,t⟩:=h;obtain⟨t',h1,h2⟩:=b4b (P:=P) l (k:=fun t=>k ⟨n,t⟩) hk;refine⟨_,h1,⟨by rw[JT,Ay];exact r.len,fun i o' ho=> ?_⟩⟩;obtain⟨o,h3,h4⟩:=h2 i o' ho;obtain⟨ao,h5,h6⟩:=r.get i o h3;exact⟨_,by rw[K8,h5];rfl,h4 ao h6⟩
theorem Tb {l:Nat}{mv:List Nat}:Kq l mv=AB↔l∈mv:=by
 induction mv with
 |nil=>simp[Kq]
 |cons m r ih=>
  simp only[Kq];split
  ·rename_i e;simp[AD e]
  ·rename_i e;rw[ih,AR];refine⟨.inr,fun h=>h.resolve_left fun c=> ?_⟩;subst c;rw[A8] at e;cases e
theorem d1k {base:Nat}{pg:List Nat}: ∀{mv:List Nat} {k:List Nat->Bool},Gu base pg mv k=AB-> ∃mv',k mv'=AB/\(∀m,m∈mv->m∈mv')/\ ∀m,m∈pg->m<base->m∈mv':=by
 induction pg with
 |nil=>intro mv k hk;exact⟨mv,hk,fun _ h=>h,by simp⟩
 |cons l pg ih=>
  intro mv k hk;simp only[Gu] at hk;split at hk
  ·split at hk
   ·rename_i e;obtain⟨mv',h1,h2,h3⟩:=ih hk;refine⟨mv',h1,h2,fun m hm hb=> ?_⟩;rcases AR.1 hm with rfl|hm
    ·exact h2 _ (Tb.1 e)
    ·exact h3 m hm hb
   ·obtain⟨mv',h1,h2,h3⟩:=ih hk;refine⟨mv',h1,fun m hm=>h2 m (by simp[hm]),fun m hm hb=> ?_⟩;rcases AR.1 hm with rfl|hm
    ·exact h2 _ (by simp)
    ·exact h3 m hm hb
  ·rename_i e;obtain⟨mv',h1,h2,h3⟩:=ih hk;refine⟨mv',h1,h2,fun m hm hb=> ?_⟩;rcases AR.1 hm with rfl|hm
   ·have:AN m base=AB:=BB▸hb;rw[this] at e;cases e
   ·exact h3 m hm hb
theorem ID {v:CA}{k:IX->Bool}(hk:GT v k=AB): ∃n,v= .d (.int .i64 n)/\k n=AB:=by
 unfold GT at hk;split at hk
 ·exact⟨_,rfl,hk⟩
 ·exact absurd hk AA
theorem Rt {v:CA}{k:Bool->Bool}(hk:Mh v k=AB): ∃n,v= .d (.bool n)/\k n=AB:=by
 unfold Mh at hk;split at hk
 ·exact⟨_,rfl,hk⟩
 ·exact absurd hk AA
theorem GR {n:IX}{k:Nat->Bool}(hk:zc n k=AB):k n.val.toNat=AB:=by
 unfold zc at hk;split at hk
 ·rename_i e;rw[e];exact hk
 ·rename_i e;rw[e];exact hk
theorem Gr (r:RT t ts){x:Option ah}{d:IX}{k:IX->Bool}(hk:zn t x d k=AB): ∃n,k n=AB/\ ∀K:IX->Prop,K n->rz ts x d K:=by
 cases x with
 |none=>exact⟨d,hk,fun K hK=>hK⟩
 |some o=>obtain⟨v,h1,hk⟩:=dy r hk;obtain⟨n,rfl,hk⟩:=ID hk;exact⟨n,hk,fun K hK=>by simp only[rz,h1];exact hK⟩
theorem Uz {s:Option Nat}{lo:IX}{k:Option Nat->Bool}(hk:Mo s lo k=AB): ∃s',k s'=AB/\ ∀S,Sd P S->Iy S s lo=s':=by
 cases lo with
 |l n=>
  cases n with
  |ofNat m=>
   cases m with
   |zero=>exact⟨s,hk,fun S _=>rfl⟩
   |succ m=>
    cases s with
    |none=>refine⟨_,hk,?_⟩;rintro S ⟨A,ro,E,rfl⟩;rfl
    |some u=>simp only[Mo,re] at hk;refine⟨_,hk,?_⟩;rintro S ⟨A,ro,E,rfl⟩;rfl
  |negSucc m=>exact absurd hk AA
 |v n=>
  simp only[Mo] at hk;have hk:=GR hk;cases s with
  |none=>refine⟨_,hk,?_⟩;rintro S ⟨A,ro,E,rfl⟩;rfl
  |some u=>simp only[re] at hk;refine⟨_,hk,?_⟩;rintro S ⟨A,ro,E,rfl⟩;rfl
theorem b0v {A:A2}{ro:Option Nat}{E:BC}(rows:List (List CD))(lo:IX):n4 (Ae P A ro E) (rowAt (CD.VJ rows)) lo=rowAt (CD.VJ (rows.drop lo.val.toNat)):=by
 have gen:rowAt (CD.VJ (rows.drop lo.val.toNat))=(Ae P A ro E).shift (rowAt (CD.VJ rows)) (nat (Ae P A ro E) lo):=by rw[CD.qe,Ak,b3q,<-CD.qe,j5];rfl
 unfold n4;split
 ·rename_i h;rfl
 ·exact gen.symm
theorem tj {a b:Int}{k:Bool}(h:cg (Wa a b) k=AB):a<=b/\k=AB:=by obtain⟨h1,h2⟩:=dw h;rw[c6m] at h1;exact⟨of_decide_eq_true h1,h2⟩
theorem N7 {a b:Int}{k:Bool}(h:cg (Wn a b) k=AB):a=b/\k=AB:=by obtain⟨h1,h2⟩:=dw h;rw[IC] at h1;exact⟨of_decide_eq_true h1,h2⟩
theorem b4n (r:RT t ts){sz:Nat}{x:CA}{lo hi mx:Option ah}{k:CA->Bool}(hk:a8j t sz x lo hi mx k=AB):
 ∃v,k v=AB/\ ∀S,Sd P S-> ∀K:AV->Prop,K v.to->xg S ts sz x.to lo hi mx K:=by
 unfold a8j at hk;split at hk
 ·rename_i l sz' s n f;obtain⟨h1,hk⟩:=dw hk;obtain⟨Is,hk,kv⟩:=Gr r hk;obtain⟨fw,hk,ly⟩:=Gr r hk;obtain⟨h2,hk⟩:=tj hk;obtain⟨h3,hk⟩:=tj hk;obtain⟨h4,hk⟩:=tj hk;have hk:=GR hk;have hk:=GR hk;simp only[re] at hk;split at hk
  ·split at hk
   ·obtain⟨h5,hk⟩:=N7 hk;obtain⟨s',hk,h6⟩:=Uz (P:=P) hk;refine⟨_,hk,?_⟩;rintro S ⟨A,ro,E,rfl⟩ K hK;simp only[CA.to,xg,h1,if_true];refine kv _ (ly _ (And.intro h2 (And.intro h3 (And.intro h4 (And.intro h5 ?_)))));rw[h6 _ ⟨A,ro,E,rfl⟩,j5,j5];exact hK
   ·obtain⟨s',hk,h6⟩:=Uz (P:=P) hk;refine⟨_,hk,?_⟩;rintro S ⟨A,ro,E,rfl⟩ K hK;simp only[CA.to,xg,h1,if_true];refine kv _ (ly _ (And.intro h2 (And.intro h3 (And.intro h4 ?_))));rw[h6 _ ⟨A,ro,E,rfl⟩,j5,j5];exact hK
  ·obtain⟨v,h7,hk⟩:=dy r hk;obtain⟨m',rfl,hk⟩:=ID hk;obtain⟨h5,hk⟩:=N7 hk;obtain⟨s',hk,h6⟩:=Uz (P:=P) hk;refine⟨_,hk,?_⟩;rintro S ⟨A,ro,E,rfl⟩ K hK;simp only[CA.to,xg,h1,if_true,h7];refine kv _ (ly _ (And.intro h2 (And.intro h3 (And.intro h4 (And.intro h5 ?_)))));rw[h6 _ ⟨A,ro,E,rfl⟩,j5,j5];exact hK
 ·rename_i sz' n e;obtain⟨h1,hk⟩:=dw hk;obtain⟨Is,hk,kv⟩:=Gr r hk;obtain⟨fw,hk,ly⟩:=Gr r hk;obtain⟨h2,hk⟩:=tj hk;obtain⟨h3,hk⟩:=tj hk;obtain⟨h4,hk⟩:=tj hk;have hk:=GR hk;have hk:=GR hk;simp only[re] at hk;have hk:=c2z hk;split at hk
  ·refine⟨_,hk,?_⟩;rintro S ⟨A,ro,E,rfl⟩ K hK;simp only[CA.to,CD.to,xg,h1,if_true];refine kv _ (ly _ (And.intro h2 (And.intro h3 (And.intro h4 ?_))));rw[b0v,j5,j5];exact hK
  ·obtain⟨v,h7,hk⟩:=dy r hk;obtain⟨m',rfl,hk⟩:=ID hk;obtain⟨h5,hk⟩:=N7 hk;refine⟨_,hk,?_⟩;rintro S ⟨A,ro,E,rfl⟩ K hK;simp only[CA.to,CD.to,xg,h1,if_true,h7];refine kv _ (ly _ (And.intro h2 (And.intro h3 (And.intro h4 (And.intro h5 ?_)))));rw[b0v,j5,j5];exact hK
 ·obtain⟨Is,hk,kv⟩:=Gr r hk;obtain⟨fw,hk,ly⟩:=Gr r hk;obtain⟨h2,hk⟩:=N7 hk;obtain⟨h3,hk⟩:=N7 hk;split at hk
  ·refine⟨_,hk,?_⟩;rintro S ⟨A,ro,E,rfl⟩ K hK;simp only[CA.to,CD.to,xg];exact kv _ (ly _ (And.intro h2 (And.intro h3 hK)))
  ·obtain⟨v,h7,hk⟩:=dy r hk;obtain⟨m',rfl,hk⟩:=ID hk;obtain⟨h5,hk⟩:=N7 hk;refine⟨_,hk,?_⟩;rintro S ⟨A,ro,E,rfl⟩ K hK;simp only[CA.to,CD.to,xg,h7];exact kv _ (ly _ (And.intro h2 (And.intro h3 (And.intro h5 hK))))
 ·exact absurd hk AA
end
section
variable {P:An} {t:TS} {ts:List AV} {h:CH} {hl:List ae}
theorem Un {i:IX}{n:Nat}{k:Nat->Bool}(hk:N9 i n k=AB):k i.val.toNat=AB/\ ∀S,Sd P S-> ∀K:Nat->Prop,K i.val.toNat->idx S i n K:=by
 unfold N9 at hk;split at hk
 ·rename_i m e;obtain⟨h1,hk⟩:=dw hk;have h2:m<n:=AF h1;refine⟨by rw[e];exact hk,?_⟩;rintro S ⟨A,ro,E,rfl⟩ K hK;refine And.intro (show 0<=i.val/\i.val<n from ?_) (by rw[j5];exact hK);rw[e];simp only[AI];omega
 ·exact absurd hk AA
def E0:BC:=⟨default,fun _=>False,my,0,[]⟩
theorem b4s {sz:Nat}{x:CA}{i:IX}{k:CA->Bool}(hk:a9e sz x i k=AB): ∃v,k v=AB/\ ∀S,Sd P S-> ∀K:AV->Prop,K v.to->JA S sz x.to i K:=by
 unfold a9e at hk;split at hk
 ·obtain⟨h1,hk⟩:=dw hk;obtain⟨hk,h2⟩:=Un (P:=P) hk;have hk:=KR (P:=P) (A:={}) (ro:=AO) (E:=E0) hk;refine⟨_,hk,?_⟩;rintro S ⟨A,ro,E,rfl⟩ K hK;simp only[CA.to,JA,h1,if_true];exact h2 _ ⟨A,ro,E,rfl⟩ _ hK
 ·obtain⟨h1,hk⟩:=dw hk;obtain⟨hk,h2⟩:=Un (P:=P) hk;obtain⟨row,h3,h4,hk⟩:=Q8 hk;refine⟨_,hk,?_⟩;rintro S ⟨A,ro,E,rfl⟩ K hK;simp only[CA.to,CD.to,JA,h1,if_true];refine h2 _ ⟨A,ro,E,rfl⟩ _ ?_;rw[h4];exact hK
 ·obtain⟨h1,hk⟩:=dw hk;obtain⟨hk,h2⟩:=Un (P:=P) hk;obtain⟨row,h3,h4,hk⟩:=Q8 hk;refine⟨_,hk,?_⟩;rintro S ⟨A,ro,E,rfl⟩ K hK;simp only[CA.to,JA,h1,if_true];refine h2 _ ⟨A,ro,E,rfl⟩ _ ?_;rw[h4];exact hK
 ·exact absurd hk AA
theorem c6o {S:We}{sz:Nat}{v:AV}{K:Nat->Nat->(Nat->List DV)->Prop}(hv:v≠ .d .nil)(hk:um S hl v K):zm S sz hl v K:=by
 unfold zm;split
 ·exact (hv rfl).elim
 ·exact hk.elim
 ·exact hk
theorem CA.X0 {v:CA}(h:v.to= .d .nil):v= .d .nil:=by
 cases v with
 |d x=>cases x<;>first|rfl|cases h
 |_=>cases h
theorem b2d (r:RH P h hl){sz:Nat}{v:CA}{k:Nat->Nat->List (List CD)->Bool}(hk:RI sz h v k=AB):
 ∃sz' n rows,k sz' n rows=AB/\ ∀S,Sd P S-> ∀K:Nat->Nat->(Nat->List DV)->Prop,K sz' n (rowAt (CD.VJ rows))->zm S sz hl v.to K:=by
 unfold RI at hk;split at hk
 ·exact⟨_,_,_,hk,fun S _ K hK=>hK⟩
 ·rename_i ck;obtain⟨sz',n,rows,hk,hv⟩:=UA r hk;exact⟨_,_,_,hk,fun S hS K hK=>c6o (fun e=>ck (CA.X0 e)) (hv S hS K hK)⟩
theorem On {A:A2}{ro:Option Nat}{E:BC}{e e2:List (List CD)}{n:Nat}(hn:n<=e.length):
 rowAt (CD.VJ (e.take n++e2))=(Ae P A ro E).app n (rowAt (CD.VJ e)) (rowAt (CD.VJ e2)):=by
 rw[CD.qe,Aa,Aj,c9i _ _ _ (by simpa using hn),<-CD.qe,<-CD.qe];rfl
theorem b4x {A:A2}{ro:Option Nat}{E:BC}{e new:List (List CD)}{i m:Nat}(h1:i+m<=e.length)(h2:m<=new.length):
 rowAt (CD.VJ (e.take i++new.take m++e.drop (i+m)))=(Ae P A ro E).put i m (rowAt (CD.VJ e)) (rowAt (CD.VJ new)):=by
 rw[CD.qe,Aa,Aa,Aj,Aj,Ak,c8z _ _ _ _ (by simpa using h1) (by simpa using h2),<-CD.qe,<-CD.qe];rfl
theorem IM {a b:Nat}{k:Bool}(h:cg (AW a b) k=AB):a<=b/\k=AB:=by obtain⟨h1,h2⟩:=dw h;exact⟨AF h1,h2⟩
theorem JM {a b:Nat}{k:Bool}(h:cg (AN a b) k=AB):a<b/\k=AB:=by obtain⟨h1,h2⟩:=dw h;exact⟨AF h1,h2⟩
theorem a6p (r:RH P h hl){sz:Nat}{x y:CA}{mu:Bool}{k:CA->CH->List Nat->Bool}(hk:Mq h sz x y mu k=AB):
 ∃v h' bu pg,k v h' pg=AB/\RH P h' bu/\ ∀S,Sd P S-> ∀K:AV->List ae->List Nat->Prop,K v.to bu pg->KI S hl sz x.to y.to mu K:=by
 unfold Mq at hk;obtain⟨qf,m,e2,hk,hv⟩:=b2d r hk;obtain⟨h1,hk⟩:=dw hk;split at hk
 ·obtain⟨h2,hk⟩:=IM hk;cases mu with
  |true=>obtain⟨h',hk,hr⟩:=r.V3 hk;refine⟨_,_,_,_,hk,hr _ rfl,?_⟩;rintro S ⟨A,ro,E,rfl⟩ K hK;refine hv _ ⟨A,ro,E,rfl⟩ _ ?_;simp only[CA.to,CD.to,h1,if_true];exact And.intro h2 hK
  |false=>refine⟨_,_,_,_,hk,r,?_⟩;rintro S ⟨A,ro,E,rfl⟩ K hK;refine hv _ ⟨A,ro,E,rfl⟩ _ ?_;simp only[CA.to,CD.to,h1,if_true];exact And.intro h2 hK
 ·rename_i sz' n e;obtain⟨h2,hk⟩:=dw hk;rw[re] at hk;obtain⟨h3,hk⟩:=IM hk;obtain⟨h4,hk⟩:=JM hk;obtain⟨h5,hk⟩:=a7f hk;cases mu with
  |true=>obtain⟨h',hk,hr⟩:=r.V3 hk;refine⟨_,_,_,_,hk,hr _ rfl,?_⟩;rintro S ⟨A,ro,E,rfl⟩ K hK;refine hv _ ⟨A,ro,E,rfl⟩ _ ?_;simp only[CA.to,h1,h2,if_true];rw[On (P:=P) (A:=A) (ro:=ro) (E:=E) h5] at hK;exact And.intro h3 (And.intro h4 hK)
  |false=>refine⟨_,_,_,_,hk,r,?_⟩;rintro S ⟨A,ro,E,rfl⟩ K hK;refine hv _ ⟨A,ro,E,rfl⟩ _ ?_;simp only[CA.to,h1,h2,if_true];simp only[CA.to,CD.to] at hK;rw[On (P:=P) (A:=A) (ro:=ro) (E:=E) h5] at hK;exact And.intro h3 (And.intro h4 hK)
 ·rename_i l sz' n;obtain⟨h2,hk⟩:=dw hk;obtain⟨o,ao,h3,hR,hk⟩:=r.pp hk;cases o with
  |arr ec n' e=>cases hR;obtain⟨h4,hk⟩:=dw hk;obtain⟨h5,hk⟩:=dw hk;rw[re] at hk;obtain⟨h6,hk⟩:=IM hk;obtain⟨h7,hk⟩:=a7f hk;obtain⟨h',hk,hr⟩:=r.ww hk;obtain⟨h'',hk,k9⟩:=b8t (hr _ rfl) hk;refine⟨_,_,_,_,hk,k9,?_⟩;rintro S ⟨A,ro,E,rfl⟩ K hK;refine hv _ ⟨A,ro,E,rfl⟩ _ ?_;simp only[CA.to,h1,h2,h3,h4,if_true];rw[On (P:=P) (A:=A) (ro:=ro) (E:=E) h7] at hK;exact And.intro (AD h5) (And.intro h6 hK)
  |_=>exact absurd hk AA
 ·rename_i l sz' s n;obtain⟨h2,hk⟩:=dw hk;obtain⟨sz3,n3,e,hk,jh⟩:=UA r hk;rw[re] at hk;obtain⟨h3,hk⟩:=IM hk;obtain⟨h4,hk⟩:=JM hk;obtain⟨h5,hk⟩:=a7f hk;cases mu with
  |true=>obtain⟨h',hk,hr⟩:=r.V3 hk;refine⟨_,_,_,_,hk,hr _ rfl,?_⟩;rintro S ⟨A,ro,E,rfl⟩ K hK;refine hv _ ⟨A,ro,E,rfl⟩ _ ?_;simp only[CA.to,h1,h2,if_true];refine jh _ ⟨A,ro,E,rfl⟩ _ ?_;rw[On (P:=P) (A:=A) (ro:=ro) (E:=E) h5] at hK;exact And.intro h3 (And.intro h4 hK)
  |false=>refine⟨_,_,_,_,hk,r,?_⟩;rintro S ⟨A,ro,E,rfl⟩ K hK;refine hv _ ⟨A,ro,E,rfl⟩ _ ?_;simp only[CA.to,h1,h2,if_true];refine jh _ ⟨A,ro,E,rfl⟩ _ ?_;simp only[CA.to,CD.to] at hK;rw[On (P:=P) (A:=A) (ro:=ro) (E:=E) h5] at hK;exact And.intro h3 (And.intro h4 hK)
 ·exact absurd hk AA
theorem b5i (r:RH P h hl){sz:Nat}{x y:CA}{k:CA->CH->Bool}(hk:a8m h sz x y k=AB):
 ∃v h' bu,k v h'=AB/\RH P h' bu/\ ∀S,Sd P S-> ∀K:AV->List ae->Prop,K v.to bu->NT S hl sz x.to y.to K:=by
 unfold a8m at hk;obtain⟨qf,m,e2,hk,hv⟩:=b2d r hk;obtain⟨h1,hk⟩:=dw hk;split at hk
 ·rename_i l sz' s n;obtain⟨h2,hk⟩:=dw hk;obtain⟨o,ao,h3,hR,hk⟩:=r.pp hk;cases o with
  |arr ec n' e=>cases hR;obtain⟨h4,hk⟩:=dw hk;have hk:=KR (P:=P) (A:={}) (ro:=AO) (E:=E0) hk;obtain⟨h6,hk⟩:=IM hk;obtain⟨h7,h8,hk⟩:=b9z hk;obtain⟨h',hk,hr⟩:=r.ww hk;rw[re] at hk;refine⟨_,_,_,hk,hr _ rfl,?_⟩;rintro S ⟨A,ro,E,rfl⟩ K hK;refine hv _ ⟨A,ro,E,rfl⟩ _ ?_;simp only[CA.to,h1,h2,h3,h4,if_true];rw[b4x (P:=P) (A:=A) (ro:=ro) (E:=E) h7 h8] at hK;exact And.intro h6 hK
  |_=>exact absurd hk AA
 ·exact absurd hk AA
theorem b2z (s:Option Nat):c0o s=NS s:=by cases s<;>rfl
theorem Ut (a b:Nat):Us a b=min a b:=by
 unfold Us;split
 ·rename_i e;have:=AF e;omega
 ·rename_i e;have: ¬a<=b:=fun c=>by rw[Nat.ble_eq_true_of_le c] at e;cases e
  omega
theorem c8a {n:Nat}: ∀{e:List (List CD)} {k:List CA->Bool},TV e n k=AB-> ∃cs,cs.length=n/\(∀i,i<n-> ∃x,rowAt (CD.VJ e) i=[x]/\(CA.f9 cs)[i]? =AL (.d x))/\k cs=AB:=by
 induction n with
 |zero=>intro e k hk;simp only[TV] at hk;exact⟨[],rfl,fun i hi=>by omega,hk⟩
 |succ n ih=>
  intro e k hk;cases e with
  |nil=>exact absurd hk AA
  |cons row e=>
   match row,hk with
   |[],hk=>exact absurd hk AA
   |[x],hk=>
    obtain⟨cs,h1,h2,hk⟩:=ih (e:=e) (k:=fun l=>k (.d x::l)) hk;refine⟨_,by simp[h1],fun i hi=> ?_,hk⟩;cases i with
    |zero=>exact⟨x.to,rfl,rfl⟩
    |succ i=>obtain⟨y,h3,h4⟩:=h2 i (by omega);exact⟨y,h3,by simpa [CA.f9] using h4⟩
   |_::_::_,hk=>exact absurd hk AA
theorem d3n {n:Nat}: ∀{e:Nat->List DV} {l:List AV},l.length=n->(∀i,i<n-> ∃x,e i=[x]/\l[i]? =AL (.d x))->zh e n=AL l:=by
 induction n with
 |zero=>intro e l h1 h2;simp[zh];exact (List.length_eq_zero_iff.1 h1)
 |succ n ih=>
  intro e l h1 h2;obtain⟨x,h3,h4⟩:=h2 n (by omega);have h5:=ih (l:=l.take n) (e:=e) (by simp[h1]) (fun i hi=>by obtain⟨y,h6,h7⟩:=h2 i (by omega);exact⟨y,h6,by rw[AP hi];exact h7⟩);simp only[zh,h5,h3,fi];congr 1;refine Aw fun i=> ?_;by_cases c:i<n
  ·rw[AJ (by simp[h1];omega),AP c]
  ·by_cases d:i=n
   ·subst d;rw[AK (by rw[Ax];omega),Ax,h1,show i-min i (i+1)=0 by omega,h4];rfl
   ·rw[At (by simp[h1];omega),At (by omega)]
theorem b7m (r:RH P h hl){sz:Nat}{x y:CA}{k:CA->CH->Bool}(hk:b1r h sz x y k=AB):
 ∃v h' bu,k v h'=AB/\RH P h' bu/\ ∀S,Sd P S-> ∀K:AV->List ae->Prop,K v.to bu->NU S hl sz x.to y.to K:=by
 unfold b1r at hk;obtain⟨qf,m,e2,hk,hv⟩:=b2d r hk;obtain⟨h1,hk⟩:=dw hk;split at hk
 ·rename_i l sz' s n f;obtain⟨h2,hk⟩:=dw hk;obtain⟨o,ao,h3,hR,hk⟩:=r.pp hk;cases o with
  |arr ec n' e=>cases hR;obtain⟨h4,hk⟩:=dw hk;have hk:=KR (P:=P) (A:={}) (ro:=AO) (E:=E0) hk;obtain⟨h6,hk⟩:=IM hk;rw[re] at hk;obtain⟨h7,h8,hk⟩:=b9z hk;obtain⟨h',hk,hr⟩:=r.ww hk;refine⟨_,_,_,hk,hr _ rfl,?_⟩;rintro S ⟨A,ro,E,rfl⟩ K hK;refine hv _ ⟨A,ro,E,rfl⟩ _ ?_;simp only[CA.to,h1,h2,h3,h4,if_true];rw[b4x (P:=P) (A:=A) (ro:=ro) (E:=E) h7 h8,b2z] at hK;simp only[CA.to,CD.to,Ut] at hK;exact And.intro h6 hK
  |_=>exact absurd hk AA
 ·obtain⟨h2,hk⟩:=dw hk;obtain⟨o,ao,h3,hR,hk⟩:=r.pp hk;cases o with
  |var cs=>cases hR;simp only[re] at hk;obtain⟨new,h4,h5,hk⟩:=c8a hk;obtain⟨c,h6,hk⟩:=TP CA.to hk;obtain⟨h',hk,hr⟩:=r.ww hk;refine⟨_,_,_,hk,hr _ rfl,?_⟩;rintro S ⟨A,ro,E,rfl⟩ K hK;refine hv _ ⟨A,ro,E,rfl⟩ _ ?_;have h7:zh (rowAt (CD.VJ e2)) ((Ae P A ro E).WU _ m)=AL (CA.f9 new):=d3n (by rw[CA.Vp,h4,Ut];rfl) (fun i hi=>h5 i (by rw[Ut];exact hi));simp only[CA.to,h1,h2,h3,if_true,h7];rw[CA.gc,CA.gc,h6,<-CA.gc];simp only[CA.to,CD.to,Ut] at hK;exact hK
  |_=>exact absurd hk AA
 ·exact absurd hk AA
end
def MV (base:Nat)(GQ mv:List Nat):Prop:= ∀m,m<base->m∈GQ->m∈mv
structure W9 (P:An)(X:XS):Prop where
 wr: ∀{own:Bool} {f:Ab} {args:List CA} {k:CA->Bool},X.wr own f args k=AB-> ∃r,k r=AB/\au P own f (CA.f9 args) r.to
 call: ∀{f:Ab} {args:List CA} {h:CH} {hl:List ae} {k:List Nat->CA->CH->Bool},RH P h hl->X.call f args h k=AB->
  ∃pg v h' bu,k pg v h'=AB/\RH P h' bu/\ ∀K:List Nat->AV->List ae->Prop,K pg v.to bu->ay P f (CA.f9 args) hl K
 X8: ∀{l:Nat} {args:List CA} {h:CH} {hl:List ae} {k:List Nat->CA->CH->Bool},RH P h hl->X.X8 l args h k=AB->
  ∃pg v h' bu,k pg v h'=AB/\RH P h' bu/\ ∀K:List Nat->AV->List ae->Prop,K pg v.to bu->lh P l (CA.f9 args) hl K
 loop: ∀{A:A2} {base:Nat} {top:Bool} {c:gy} {k:Lv->TS->CH->List Nat->Bool} {t:TS} {ts:List AV} {h:CH} {hl:List ae} {mv GQ:List Nat},
  RT t ts->RH P h hl->MV base GQ mv->X.loop A base top c k t h mv=AB->
  ∃lv t' vv h' bu mv' Gj,k lv t' h' mv'=AB/\RT t' vv/\RH P h' bu/\MV base Gj mv'/\
   ∀(ro:Option Nat) (E:BC) (Q:Lv->St->Prop),(top=AB->ro=AO)->Q lv ⟨vv,bu,Gj⟩-> ∃m,Sa (Ae P A ro E) m c Q ⟨ts,hl,GQ⟩
def gu (P:An)(o:qr)(ts:List AV)(hl:List ae)(k:CA->CH->List Nat->Bool):Prop:=
 ∃v h' bu pg,k v h' pg=AB/\RH P h' bu/\ ∀S,Sd P S-> ∀(mv:List Nat) (K:AV->List ae->List Nat->Prop),K v.to bu pg->af S o ⟨ts,hl,mv⟩ K
section
variable {P:An} {X:XS} {t:TS} {ts:List AV} {h:CH} {hl:List ae} {k:CA->CH->List Nat->Bool}
theorem f2b (r:RT t ts)(rh:RH P h hl){x:ah}(hk:f3i x X t h k=AB):gu P (.mv x) ts hl k:=by obtain⟨v,h1,hk⟩:=dy r hk;exact⟨v,h,hl,[],hk,rh,fun S _ mv K hK=>by simp only[af,h1];exact hK⟩
theorem d0q (rh:RH P h hl){sz:Nat}(hk:c1m sz X t h k=AB):gu P (.VA sz) ts hl k:=by obtain⟨h',hk,hr⟩:=rh.V3 hk;refine⟨_,_,_,_,hk,hr _ rfl,fun S _ mv K hK=> ?_⟩;exact hK
theorem d7y (rh:RH P h hl){sz:Nat}(hk:d5r sz X t h k=AB):gu P (.V5 sz) ts hl k:=by obtain⟨h',hk,hr⟩:=rh.V3 hk;refine⟨_,_,_,_,hk,hr _ rfl,fun S _ mv K hK=> ?_⟩;exact hK
theorem d7n (r:RT t ts)(rh:RH P h hl){c a b:ah}(hk:d6c c a b X t h k=AB):gu P (.pick c a b) ts hl k:=by
 obtain⟨v,h1,hk⟩:=dy r hk;obtain⟨n,rfl,hk⟩:=Rt hk;cases n with
 |true=>obtain⟨v,h2,hk⟩:=dy r hk;exact⟨v,h,hl,[],hk,rh,fun S _ mv K hK=>by simp only[af,h1,CA.to,CD.to,MC,h2];exact hK⟩
 |false=>obtain⟨v,h2,hk⟩:=dy r hk;exact⟨v,h,hl,[],hk,rh,fun S _ mv K hK=>by simp only[af,h1,CA.to,CD.to,MC,h2];exact hK⟩
theorem d1m (rh:RH P h hl){zs:List DV}(hk:c7c zs X t h k=AB):gu P (.alloc zs) ts hl k:=by obtain⟨cs,ez,cp⟩:=JO hk;clear hk;subst ez;obtain⟨ds,h1,hk⟩:=ML cp;obtain⟨h',hk,hr⟩:=rh.V3 hk;refine⟨_,_,_,_,hk,hr _ rfl,fun S _ mv K hK=> ?_⟩;simp only[af,h1];exact hK
theorem e0v (r:RT t ts)(rh:RH P h hl){x:ah}(hk:e4a x X t h k=AB):gu P (.box x) ts hl k:=by obtain⟨v,h1,hk⟩:=dy r hk;obtain⟨h2,hk⟩:=ND hk;obtain⟨h',hk,hr⟩:=rh.V3 hk;refine⟨_,_,_,_,hk,hr _ rfl,fun S _ mv K hK=> ?_⟩;simp only[af,h1,CA.wl,h2,if_true];exact hK
theorem d3d (r:RT t ts)(rh:RH P h hl){zs:List DV}{ps:List (Nat×Nat×ah)}(hk:c6y zs ps X t h k=AB):gu P (.build zs ps) ts hl k:=by obtain⟨cs,ez,cp⟩:=JO hk;clear hk;subst ez;obtain⟨ds,h1,hk⟩:=ML cp;obtain⟨jw,h2,hk⟩:=c9r r hk;refine⟨_,_,_,_,hk,rh,fun S _ mv K hK=> ?_⟩;simp only[af,h1,h2];exact hK
theorem c7k (r:RT t ts)(rh:RH P h hl){sz len:Nat}{zs:List DV}{ps:List (Nat×ah)}{mu:Bool}(hk:c2k sz len zs ps mu X t h k=AB):gu P (.x8 sz len zs ps mu) ts hl k:=by
 obtain⟨cs,ez,cp⟩:=JO hk;clear hk;subst ez;obtain⟨ds,h1,hk⟩:=ML cp;have hk:=Q6 hk;obtain⟨rs,h2,hk⟩:=b8b r hk;obtain⟨rows,h',bu,hk,nf,h3⟩:=b9a rh hk;have yr:zz ts sz (w8 (tu .d (CD.f9 cs)) len) ps=AL (rs.map CA.f9):=by rw[L5,h1];simpa using h2
 cases mu with
 |true=>obtain⟨h'',hk,hr⟩:=nf.V3 hk;refine⟨_,_,_,_,hk,hr _ rfl,fun S hS mv K hK=> ?_⟩;simp only[af,yr,if_true];exact h3 S hS _ hK
 |false=>refine⟨_,_,_,_,hk,nf,fun S hS mv K hK=> ?_⟩;simp only[af,yr];exact h3 S hS _ hK
theorem d4f {rs:List (List CA)}: ∀{k:List (List CD)->Bool},e1q rs k=AB-> ∃rows,MP (rs.map CA.f9)=AL (CD.VJ rows)/\k rows=AB:=by
 induction rs with
 |nil=>intro k hk;exact⟨[],rfl,hk⟩
 |cons r rs ih=>intro k hk;obtain⟨ds,h1,hk⟩:=OF hk;obtain⟨rows,h2,hk⟩:=ih hk;refine⟨ds::rows,?_,hk⟩;simp only[Af,MP,h1,h2];rfl
theorem c4z (r:RT t ts)(rh:RH P h hl){sz len:Nat}{zs:List DV}{ps:List (Nat×ah)}(hk:b8p sz len zs ps X t h k=AB):gu P (.t6 sz len zs ps) ts hl k:=by
 obtain⟨cs,ez,cp⟩:=JO hk;clear hk;subst ez;obtain⟨ds,h1,hk⟩:=ML cp;have hk:=Q6 hk;obtain⟨rs,h2,hk⟩:=b8b r hk;obtain⟨rows,h3,hk⟩:=d4f hk;have yr:zz ts sz (w8 (tu .d (CD.f9 cs)) len) ps=AL (rs.map CA.f9):=by rw[L5,h1];simpa using h2
 refine⟨_,_,_,_,hk,rh,fun S hS mv K hK=> ?_⟩;simp only[af,yr,h3];exact hK
theorem d8o (r:RT t ts)(rh:RH P h hl){agg:Option Nat}{x:ah}(hk:d4z agg x X t h k=AB):gu P (.load agg x) ts hl k:=by obtain⟨v,h1,hk⟩:=dy r hk;obtain⟨u,hk,h2⟩:=b8j rh hk;refine⟨_,_,_,_,hk,rh,fun S hS mv K hK=> ?_⟩;simp only[af,h1];exact h2 S hS _ hK
theorem d2y (r:RT t ts)(rh:RH P h hl){sz:Nat}{a x:ah}(hk:c6r sz a x X t h k=AB):gu P (.store sz a x) ts hl k:=by obtain⟨p,h1,hk⟩:=dy r hk;obtain⟨v,h2,hk⟩:=dy r hk;obtain⟨h',bu,hk,nf,h3⟩:=c4g rh hk;refine⟨_,_,_,_,hk,nf,fun S hS mv K hK=> ?_⟩;simp only[af,h1,h2];exact h3 S hS _ hK
theorem c7v (r:RT t ts)(rh:RH P h hl){x:ah}(hk:c3k x X t h k=AB):gu P (.T8 x) ts hl k:=by obtain⟨v,h1,hk⟩:=dy r hk;obtain⟨h2,hk⟩:=dw hk;refine⟨_,_,_,_,hk,rh,fun S hS mv K hK=> ?_⟩;simp only[af,h1,CA.XM,h2,if_true];exact hK
theorem f1u (r:RT t ts)(rh:RH P h hl){op:Av}{x y:ah}(hk:f2y op x y X t h k=AB):gu P (.bw op x y) ts hl k:=by
 obtain⟨v,h1,hk⟩:=dy r hk;obtain⟨u,h2,hk⟩:=dy r hk;split at hk
 ·split at hk
  ·split at hk
   ·exact absurd hk AA
   ·rename_i n ecl;split at hk
    ·obtain⟨h3,hk⟩:=tj hk;rw[IS] at hk;refine⟨_,_,_,_,hk,rh,?_⟩;rintro S ⟨A,ro,E,rfl⟩ mv K hK;simp only[af,h1,h2,CA.to,CD.to,YU,ecl];exact⟨h3,hK⟩
    ·split at hk
     ·obtain⟨h3,cp⟩:=dw hk;rw[IS] at cp;have e:=yb h3;refine⟨_,_,_,_,cp,rh,?_⟩;rintro S ⟨A,ro,E,rfl⟩ mv K hK;simp only[af,h1,h2,CA.to,CD.to,YU,ecl,if_pos e];exact hK
     ·exact absurd hk AA
  ·exact absurd hk AA
 ·exact absurd hk AA
theorem e3q (r:RT t ts)(rh:RH P h hl){op:Av}{x y:ah}(hk:e3f op x y X t h k=AB):gu P (.bin op x y) ts hl k:=by
 obtain⟨v,h1,hk⟩:=dy r hk;obtain⟨u,h2,hk⟩:=dy r hk;split at hk
 ·split at hk
  ·obtain⟨h3,hk⟩:=dw hk;obtain⟨c,hk,h4⟩:=d1g (P:=P) hk;refine⟨_,_,_,_,hk,rh,fun S hS mv K hK=> ?_⟩;have e:=yb h3;subst e;simp only[af,h1,h2,CA.to,CD.to,if_true];exact h4 S hS _ hK
  ·split at hk
   ·obtain⟨h3,hk⟩:=dw hk;obtain⟨h4,hk⟩:=tj hk;refine⟨_,_,_,_,hk,rh,?_⟩;rintro S ⟨A,ro,E,rfl⟩ mv K hK;have e:=yb h3;subst e;simp only[af,h1,h2,CA.to,CD.to];exact And.intro h4 hK
   ·exact absurd hk AA
  ·exact absurd hk AA
 ·exact absurd hk AA
theorem d7j (r:RT t ts)(rh:RH P h hl){op:Av}{x y:ah}(hk:d5u op x y X t h k=AB):gu P (.WC op x y) ts hl k:=by
 obtain⟨v,h1,hk⟩:=dy r hk;obtain⟨a,rfl,hk⟩:=Rt hk;obtain⟨v,h2,hk⟩:=dy r hk;obtain⟨b,rfl,hk⟩:=Rt hk;cases op
 case eql=>
  cases a<;>cases b<;>
  ·refine⟨_,_,_,_,hk,rh,?_⟩;rintro S ⟨A,ro,E,rfl⟩ mv K hK;simp only[af,h1,h2,CA.to,CD.to];exact hK
 case neq=>
  cases a<;>cases b<;>
  ·refine⟨_,_,_,_,hk,rh,?_⟩;rintro S ⟨A,ro,E,rfl⟩ mv K hK;simp only[af,h1,h2,CA.to,CD.to];exact hK
 all_goals exact absurd hk AA
theorem e2e (r:RT t ts)(rh:RH P h hl){neg:Bool}{ks:List AG}{x y:ah}(hk:e2x neg ks x y X t h k=AB):gu P (.Yb neg ks x y) ts hl k:=by
 obtain⟨v,h1,hk⟩:=dy r hk;obtain⟨u,h2,hk⟩:=dy r hk;split at hk
 ·split at hk
  ·obtain⟨b,hk,h3⟩:=d9l (P:=P) hk;cases neg<;>cases b<;>
   ·refine⟨_,_,_,_,hk,rh,?_⟩;rintro S ⟨A,ro,E,rfl⟩ mv K hK;simp only[af,h1,h2,CA.to,h3 _ ⟨A,ro,E,rfl⟩];exact hK
  ·exact absurd hk AA
 ·exact absurd hk AA
theorem d6p (r:RT t ts)(rh:RH P h hl){neg:Bool}{ks:List CK}{x y:ah}(hk:d5b neg ks x y X t h k=AB):gu P (.Wf neg ks x y) ts hl k:=by
 obtain⟨v,h1,hk⟩:=dy r hk;obtain⟨u,h2,hk⟩:=dy r hk;split at hk
 ·split at hk
  ·obtain⟨b,hk,h3⟩:=d3a (P:=P) hk;cases neg<;>cases b<;>
   ·refine⟨_,_,_,_,hk,rh,?_⟩;rintro S ⟨A,ro,E,rfl⟩ mv K hK;simp only[af,h1,h2,CA.to,h3 _ ⟨A,ro,E,rfl⟩];exact hK
  ·exact absurd hk AA
 ·exact absurd hk AA
theorem f1n (r:RT t ts)(rh:RH P h hl){op:UnOp}{x:ah}(hk:g1j op x X t h k=AB):gu P (.un op x) ts hl k:=by
 obtain⟨v,h1,hk⟩:=dy r hk;split at hk
 ·obtain⟨b,rfl,hk⟩:=Rt hk;cases b<;>
  ·refine⟨_,_,_,_,hk,rh,?_⟩;rintro S ⟨A,ro,E,rfl⟩ mv K hK;simp only[af,h1,CA.to,CD.to];exact hK
 ·split at hk
  ·rw[IS] at hk;obtain⟨h3,hk⟩:=dw hk;refine⟨_,_,_,_,hk,rh,?_⟩;rintro S ⟨A,ro,E,rfl⟩ mv K hK;simp only[af,h1,CA.to,CD.to];exact And.intro (Ns h3) hK
  ·exact absurd hk AA
 ·exact absurd hk AA
theorem d9m (r:RT t ts)(rh:RH P h hl){kd:AG}{x:ah}(hk:d5v kd x X t h k=AB):gu P (.conv kd x) ts hl k:=by
 obtain⟨v,h1,hk⟩:=dy r hk;split at hk
 ·rw[IS] at hk;refine⟨_,_,_,_,hk,rh,?_⟩;rintro S ⟨A,ro,E,rfl⟩ mv K hK;simp only[af,h1,CA.to,CD.to];exact hK
 ·exact absurd hk AA
theorem d8q (r:RT t ts)(rh:RH P h hl){f:Ab}{a b:List ah}(hk:d5h f a b X t h k=AB):gu P (.WT f a b) ts hl k:=by obtain⟨us,h1,hk⟩:=Uu r hk;obtain⟨cs,h2,hk⟩:=Uu r hk;refine⟨_,_,_,_,hk,rh,fun S _ mv K hK=> ?_⟩;simp only[af,h1,h2];exact hK
theorem d4g (rh:RH P h hl){wide:Bool}{ks:List AG}(hk:d0g wide ks X t h k=AB):gu P (.x6 wide ks) ts hl k:=by obtain⟨h',hk,hr⟩:=rh.V3 hk;refine⟨_,_,_,_,hk,hr _ rfl,fun S _ mv K hK=> ?_⟩;exact hK
theorem c8c (rh:RH P h hl){wide:Bool}{ks:List AG}(hk:c2j wide ks X t h k=AB):gu P (.og wide ks) ts hl k:=by obtain⟨h',hk,hr⟩:=rh.V3 hk;refine⟨_,_,_,_,hk,hr _ rfl,fun S _ mv K hK=> ?_⟩;exact hK
theorem b5k {A:A2}{ro:Option Nat}{E:BC}(zs:List CD)(n:Nat):rowAt (CD.VJ (AX n zs))=(Ae P A ro E).rep n (CD.f9 zs):=by rw[CD.qe,List.map_replicate,d0k];rfl
theorem c5q (r:RT t ts)(rh:RH P h hl){sz:Nat}{zs:List DV}{b:Nat}{n:ah}(hk:b6o sz zs b n X t h k=AB):gu P (.mp sz zs b n) ts hl k:=by obtain⟨cs,ez,cp⟩:=JO hk;clear hk;subst ez;obtain⟨v,h1,hk⟩:=dy r cp;obtain⟨n',rfl,hk⟩:=ID hk;obtain⟨h2,hk⟩:=tj hk;obtain⟨h3,hk⟩:=tj hk;have hk:=GR hk;have hk:=Q6 hk;obtain⟨h',hk,hr⟩:=rh.V3 hk;refine⟨_,_,_,_,hk,hr _ rfl,?_⟩;rintro S ⟨A,ro,E,rfl⟩ mv K hK;simp only[af,h1,CA.to,CD.to,ql];refine And.intro h2 (And.intro h3 ?_);rw[j5];rw[b5k (P:=P) (A:=A) (ro:=ro) (E:=E)] at hK;exact hK
theorem d3u (r:RT t ts)(rh:RH P h hl){sz:Nat}{x:ah}{lo hi mx:Option ah}(hk:c7r sz x lo hi mx X t h k=AB):gu P (.slice sz x lo hi mx) ts hl k:=by obtain⟨v,h1,hk⟩:=dy r hk;obtain⟨u,hk,h2⟩:=b4n (P:=P) r hk;refine⟨_,_,_,_,hk,rh,fun S hS mv K hK=> ?_⟩;simp only[af,h1];exact h2 S hS _ hK
theorem d2u (r:RT t ts)(rh:RH P h hl){n:Nat}{x:ah}{lo hi:Option ah}(hk:d0j n x lo hi X t h k=AB):gu P (.VH n x lo hi) ts hl k:=by
 obtain⟨v,h1,hk⟩:=dy r hk;split at hk
 ·obtain⟨Is,hk,kv⟩:=Gr r hk;obtain⟨fw,hk,ly⟩:=Gr r hk;obtain⟨h2,hk⟩:=tj hk;obtain⟨h3,hk⟩:=tj hk;obtain⟨h4,hk⟩:=tj hk;have hk:=GR hk;have hk:=GR hk;rw[re] at hk;split at hk
  ·rename_i e;refine⟨_,_,_,_,hk,rh,?_⟩;rintro S ⟨A,ro,E,rfl⟩ mv K hK;have e':(Ae P A ro E).T9 (nat (Ae P A ro E) fw) (nat (Ae P A ro E) Is)=0:=by rw[j5,j5];exact e
   simp only[af,h1,CA.to];refine kv _ (ly _ (And.intro h2 (And.intro h3 (And.intro h4 ?_))));rw[e'];exact hK
  ·rename_i m e;refine⟨_,_,_,_,hk,rh,?_⟩;rintro S ⟨A,ro,E,rfl⟩ mv K hK;have e':(Ae P A ro E).T9 (nat (Ae P A ro E) fw) (nat (Ae P A ro E) Is)=m+1:=by rw[j5,j5];exact e
   simp only[af,h1,CA.to];refine kv _ (ly _ (And.intro h2 (And.intro h3 (And.intro h4 ?_))));rw[e',j5];exact hK
 ·exact absurd hk AA
theorem d2c (r:RT t ts)(rh:RH P h hl){off:Nat}{x:ah}(hk:c6l off x X t h k=AB):gu P (.VX off x) ts hl k:=by
 obtain⟨v,h1,hk⟩:=dy r hk;split at hk
 ·rw[re] at hk;exact⟨_,_,_,_,hk,rh,fun S _ mv K hK=>by simp only[af,h1,CA.to];exact hK⟩
 ·rw[re] at hk;exact⟨_,_,_,_,hk,rh,fun S _ mv K hK=>by simp only[af,h1,CA.to];exact hK⟩
 ·rw[re] at hk;exact⟨_,_,_,_,hk,rh,fun S _ mv K hK=>by simp only[af,h1,CA.to];exact hK⟩
 ·exact absurd hk AA
theorem d2h (r:RT t ts)(rh:RH P h hl){off:Nat}{agg:Option Nat}{x:ah}(hk:c6v off agg x X t h k=AB):gu P (.field off agg x) ts hl k:=by
 obtain⟨v,h1,hk⟩:=dy r hk;split at hk
 ·cases agg with
  |none=>obtain⟨v,h2,hk⟩:=JW hk;exact⟨_,_,_,_,hk,rh,fun S _ mv K hK=>by simp only[af,h1,CA.to,CA.V1 h2];exact hK⟩
  |some n=>obtain⟨c,h2,hk⟩:=R5 CA.to hk;refine⟨_,_,_,_,hk,rh,fun S _ mv K hK=> ?_⟩;simp only[af,h1,CA.to];rw[CA.gc,h2,<-CA.gc];exact hK
 ·exact absurd hk AA
theorem d3s (r:RT t ts)(rh:RH P h hl){sz:Nat}{x i:ah}(hk:c9b sz x i X t h k=AB):gu P (.VG sz x i) ts hl k:=by obtain⟨v,h1,hk⟩:=dy r hk;obtain⟨n,rfl,hk⟩:=ID hk;obtain⟨u,h2,hk⟩:=dy r hk;obtain⟨w,hk,h3⟩:=b4s (P:=P) hk;refine⟨_,_,_,_,hk,rh,fun S hS mv K hK=> ?_⟩;simp only[af,h1,CA.to,CD.to,ql,h2];exact h3 S hS _ hK
theorem c8r (r:RT t ts)(rh:RH P h hl){n sz:Nat}{x i:ah}(hk:c2m n sz x i X t h k=AB):gu P (.z5 n sz x i) ts hl k:=by
 obtain⟨v,h1,hk⟩:=dy r hk;obtain⟨i',rfl,hk⟩:=ID hk;obtain⟨u,h2,hk⟩:=dy r hk;split at hk
 ·cases i' with
  |l i'=>
   cases i' with
   |ofNat m=>
    obtain⟨h3,hk⟩:=dw hk;rw[re] at hk;refine⟨_,_,_,_,hk,rh,fun S _ mv K hK=> ?_⟩;have h4:BD (Aq m) (Aq m)=AB:=by rw[b9m];simp
    have e:(Aq m).toNat=m:=rfl;simp only[af,h1,CA.to,CD.to,ql,h2,e,h3,h4,Al,if_true];exact hK
   |negSucc m=>exact absurd hk AA
  |v i'=>
   cases i' with
   |ofNat m=>obtain⟨h3,hk⟩:=dw hk;rw[re] at hk;refine⟨_,_,_,_,hk,rh,?_⟩;rintro S ⟨A,ro,E,rfl⟩ mv K hK;have h4:m<n:=AF h3;simp only[af,h1,CA.to,CD.to,ql,h2];exact⟨⟨Int.natCast_nonneg m,Int.ofNat_lt.2 h4⟩,hK⟩
   |negSucc m=>exact absurd hk AA
 ·exact absurd hk AA
theorem Rp {a b k:Bool}(h:cg (match a with|true=>b|false=>AU b) k=AB):a=b/\k=AB:=by obtain⟨h1,h2⟩:=dw h;exact⟨(by cases a<;>cases b<;>first|rfl|cases h1),h2⟩
theorem c9q (r:RT t ts)(rh:RH P h hl){wide:Bool}{ks:List AG}{ok:Bool}{m kx:ah}(hk:c2a wide ks ok m kx X t h k=AB):gu P (.lookup wide ks ok m kx) ts hl k:=by
 obtain⟨v,h1,hk⟩:=dy r hk;split at hk
 ·obtain⟨o,ao,h2,hR,hk⟩:=rh.pp hk;cases o with
  |map ct dt n es=>
   cases hR;obtain⟨h3,hk⟩:=Rp hk;obtain⟨h4,hk⟩:=dw hk;have h4:=QI h4;obtain⟨u,h5,hk⟩:=dy r hk;obtain⟨kc,hk,h6⟩:=RD (P:=P) hk;have hk:=c1g hk;split at hk
   ·rename_i e;cases ok with
    |true=>refine⟨_,_,_,_,hk,rh,?_⟩;rintro S ⟨A,ro,E,rfl⟩ mv K hK;simp only[af,h1,CA.to,h2,h3,h4,and_self,if_true,h5];subst h3 h4;refine h6 _ ⟨A,ro,E,rfl⟩ _ ?_;simp only[Ae,e];exact hK
    |false=>refine⟨_,_,_,_,hk,rh,?_⟩;rintro S ⟨A,ro,E,rfl⟩ mv K hK;simp only[af,h1,CA.to,h2,h3,h4,and_self,if_true,h5];subst h3 h4;refine h6 _ ⟨A,ro,E,rfl⟩ _ ?_;simp only[Ae,e];exact hK
   ·rename_i e;cases ok with
    |true=>refine⟨_,_,_,_,hk,rh,?_⟩;rintro S ⟨A,ro,E,rfl⟩ mv K hK;simp only[af,h1,CA.to,h2,h3,h4,and_self,if_true,h5];subst h3 h4;refine h6 _ ⟨A,ro,E,rfl⟩ _ ?_;simp only[Ae,e];exact hK
    |false=>refine⟨_,_,_,_,hk,rh,?_⟩;rintro S ⟨A,ro,E,rfl⟩ mv K hK;simp only[af,h1,CA.to,h2,h3,h4,and_self,if_true,h5];subst h3 h4;refine h6 _ ⟨A,ro,E,rfl⟩ _ ?_;simp only[Ae,e];exact hK
  |_=>exact absurd hk AA
 ·exact absurd hk AA
theorem c8m (r:RT t ts)(rh:RH P h hl){wide:Bool}{ks:List AG}{m kx x:ah}(hk:c2h wide ks m kx x X t h k=AB):gu P (.Id wide ks m kx x) ts hl k:=by
 obtain⟨v,h1,hk⟩:=dy r hk;split at hk
 ·obtain⟨o,ao,h2,hR,hk⟩:=rh.pp hk;cases o with
  |map ct dt n es=>
   cases hR;obtain⟨h3,hk⟩:=Rp hk;obtain⟨h4,hk⟩:=dw hk;have h4:=QI h4;obtain⟨u,h5,hk⟩:=dy r hk;obtain⟨kc,hk,h6⟩:=RD (P:=P) hk;obtain⟨w,h7,hk⟩:=dy r hk;obtain⟨x',rfl,hk⟩:=ID hk;have hk:=c1g hk;have hm: ∀(A:A2) (ro:Option Nat) (E:BC),(Ae P A ro E).Xx (JK es) kc x'.val=JK ((kc,x'.val)::es):=fun _ _ _=>rfl;split at hk
   ·rename_i e;obtain⟨h',hk,hr⟩:=rh.ww hk;refine⟨_,_,_,_,hk,hr _ rfl,?_⟩;rintro S ⟨A,ro,E,rfl⟩ mv K hK;have hc:(Ae P A ro E).WF (JK es) kc n=n:=by simp only[Ae,e];rfl
    simp only[af,h1,CA.to,h2,h3,h4,and_self,if_true,h5,h7];subst h3 h4;refine h6 _ ⟨A,ro,E,rfl⟩ _ ?_;simp only[CD.to,ql,hm,hc];exact hK
   ·rename_i e;rw[re] at hk;obtain⟨h',hk,hr⟩:=rh.ww hk;refine⟨_,_,_,_,hk,hr _ rfl,?_⟩;rintro S ⟨A,ro,E,rfl⟩ mv K hK;have hc:(Ae P A ro E).WF (JK es) kc n=n+1:=by simp only[Ae,e];rfl
    simp only[af,h1,CA.to,h2,h3,h4,and_self,if_true,h5,h7];subst h3 h4;refine h6 _ ⟨A,ro,E,rfl⟩ _ ?_;simp only[CD.to,ql,hm,hc];exact hK
  |_=>exact absurd hk AA
 ·exact absurd hk AA
theorem c4r (r:RT t ts)(rh:RH P h hl){wide:Bool}{ks:List AG}{ok:Bool}{z:AV}{m kx:ah}(hk:b8n wide ks ok z m kx X t h k=AB):gu P (.m9 wide ks ok z m kx) ts hl k:=by
 obtain⟨z,ez,cp⟩:=UU hk;clear hk;subst ez;obtain⟨v,h1,hk⟩:=dy r cp;split at hk
 ·obtain⟨o,ao,h2,hR,hk⟩:=rh.pp hk;cases o with
  |dz ct dt keys ap=>
   cases hR;obtain⟨h3,hk⟩:=Rp hk;obtain⟨h4,hk⟩:=dw hk;have h4:=QI h4;obtain⟨u,h5,hk⟩:=dy r hk;obtain⟨kc,hk,h6⟩:=RD (P:=P) hk;obtain⟨q,hk,e⟩:=c9f hk;cases q with
   |some q=>
    cases ok with
    |true=>refine⟨_,_,_,_,hk,rh,fun S hS mv K hK=> ?_⟩;simp only[af,h1,CA.to,h2,h3,h4,and_self,if_true,h5];subst h3 h4;refine h6 _ hS _ ?_;simp only[e];exact hK
    |false=>refine⟨_,_,_,_,hk,rh,fun S hS mv K hK=> ?_⟩;simp only[af,h1,CA.to,h2,h3,h4,and_self,if_true,h5];subst h3 h4;refine h6 _ hS _ ?_;simp only[e];exact hK
   |none=>
    cases ok with
    |true=>refine⟨_,_,_,_,hk,rh,fun S hS mv K hK=> ?_⟩;simp only[af,h1,CA.to,h2,h3,h4,and_self,if_true,h5];subst h3 h4;refine h6 _ hS _ ?_;simp only[e];exact hK
    |false=>refine⟨_,_,_,_,hk,rh,fun S hS mv K hK=> ?_⟩;simp only[af,h1,CA.to,h2,h3,h4,and_self,if_true,h5];subst h3 h4;refine h6 _ hS _ ?_;simp only[e];exact hK
  |_=>exact absurd hk AA
 ·exact absurd hk AA
theorem c5r (r:RT t ts)(rh:RH P h hl){wide:Bool}{ks:List AG}{m kx x:ah}(hk:b6k wide ks m kx x X t h k=AB):gu P (.n9 wide ks m kx x) ts hl k:=by
 obtain⟨v,h1,hk⟩:=dy r hk;split at hk
 ·obtain⟨o,ao,h2,hR,hk⟩:=rh.pp hk;cases o with
  |dz ct dt keys ap=>
   cases hR;obtain⟨h3,hk⟩:=Rp hk;obtain⟨h4,hk⟩:=dw hk;have h4:=QI h4;obtain⟨u,h5,hk⟩:=dy r hk;obtain⟨kc,hk,h6⟩:=RD (P:=P) hk;obtain⟨w,h7,hk⟩:=dy r hk;obtain⟨q,hk,e⟩:=d3g hk;cases q with
   |some q=>obtain⟨h',hk,hr⟩:=rh.ww hk;refine⟨_,_,_,_,hk,hr _ rfl,fun S hS mv K hK=> ?_⟩;simp only[af,h1,CA.to,h2,h3,h4,and_self,if_true,h5,h7];subst h3 h4;refine h6 _ hS _ ?_;simp only[e];exact hK
   |none=>have hk:=JL hk;have hk:=JL hk;obtain⟨h',hk,hr⟩:=rh.ww hk;refine⟨_,_,_,_,hk,hr _ rfl,fun S hS mv K hK=> ?_⟩;simp only[af,h1,CA.to,h2,h3,h4,and_self,if_true,h5,h7];subst h3 h4;refine h6 _ hS _ ?_;simp only[e];simpa only[CA.to,e,Option.map_none,fi,CA.gc,Aa,Af,Ap] using hK
  |_=>exact absurd hk AA
 ·exact absurd hk AA
theorem c4u (r:RT t ts)(rh:RH P h hl){x:ah}{i:Nat}(hk:b6i x i X t h k=AB):gu P (.extract x i) ts hl k:=by
 obtain⟨v,h1,hk⟩:=dy r hk;split at hk
 ·obtain⟨v,h2,hk⟩:=JW hk;exact⟨_,_,_,_,hk,rh,fun S _ mv K hK=>by simp only[af,h1,CA.to,CA.V1 h2];exact hK⟩
 ·exact absurd hk AA
theorem e2r {v:CA}{cs:List AV}(h:v.to= .agg cs): ∃ds,v= .agg ds:=by cases v<;>simp[CA.to] at h;exact⟨_,rfl⟩
theorem e3o {v:CA}{l o:Nat}(h:v.to= .ptr l o):v= .ptr l o:=by cases v<;>simp[CA.to] at h;obtain⟨rfl,rfl⟩:=h;rfl
theorem c0m (r:RT t ts)(rh:RH P h hl){x:ah}{i:Nat}(hk:b2x x i X t h k=AB):gu P (.pm x i) ts hl k:=by
 obtain⟨v,h1,hk⟩:=dy r hk;split at hk
 ·obtain⟨v,h2,hk⟩:=JW hk;have h2:=CA.V1 h2;split at hk
  ·obtain⟨jw,h',bu,hk,nf,h3⟩:=RB rh hk;refine⟨_,_,_,_,hk,nf,fun S hS mv K hK=> ?_⟩;simp only[af,h1,CA.to,h2];exact h3 S hS _ hK
  ·obtain⟨v',h',bu,hk,nf,h3⟩:=a7x rh hk;refine⟨_,_,_,_,hk,nf,fun S hS mv K hK=> ?_⟩;simp only[af,h1,CA.to,h2];exact h3 S hS _ hK
  ·rename_i v ck LG;obtain⟨v',h',bu,hk,nf,h3⟩:=a9h rh hk;refine⟨_,_,_,_,hk,nf,fun S hS mv K hK=> ?_⟩;simp only[af,h1,CA.to,h2];split
   ·rename_i cs e;injection e with e
    obtain⟨ds,rfl⟩:=e2r e;exact absurd rfl (ck ds)
   ·rename_i l e;injection e with e
    have:=e3o e;exact absurd this (LG l)
   ·rename_i u _ _ e;injection e with e
    subst e;exact h3 S hS _ hK
   ·rename_i e;cases e
 ·exact absurd hk AA
theorem c4c (r:RT t ts)(rh:RH P h hl){sz b:Nat}{x y:ah}(hk:b7u sz b x y X t h k=AB):gu P (.t5 sz b x y) ts hl k:=by
 obtain⟨v,h1,hk⟩:=dy r hk;obtain⟨u,h2,hk⟩:=dy r hk;split at hk
 ·split at hk
  ·exact⟨_,_,_,_,hk,rh,fun S _ mv K hK=>by simp only[af,h1,h2,CA.to,CD.to];exact hK⟩
  ·obtain⟨h3,hk⟩:=dw hk;obtain⟨h4,hk⟩:=IM hk;refine⟨_,_,_,_,hk,rh,?_⟩;rintro S ⟨A,ro,E,rfl⟩ mv K hK;simp only[af,h1,h2,CA.to,CD.to,if_pos h3];exact⟨h4,hK⟩
  ·exact absurd hk AA
 ·exact absurd hk AA
theorem d2q {kc:List KC}{ks:List (List KC)}: ∀{n:Nat} {k:Option Nat->Bool},Uq kc ks n k=AB->k (pw kc ks n)=AB:=by
 induction ks with
 |nil=>intro n k hk;exact hk
 |cons k' ks ih=>
  intro n k hk;unfold Uq at hk;cases e:Iq kc k' with
  |true=>
   rw[e] at hk;have:kc=k':=by rw[QF] at e;exact of_decide_eq_true e
   rw[pw,if_pos this.symm];exact hk
  |false=>
   rw[e] at hk;have: ¬kc=k':=by rw[QF] at e;exact of_decide_eq_false e
   rw[pw,if_neg (fun h=>this h.symm)];exact ih hk
theorem c6t (r:RT t ts)(rh:RH P h hl){wide:Bool}{ks:List AG}{z:AV}{m kx:ah}(hk:c3h wide ks z m kx X t h k=AB):gu P (.SW wide ks z m kx) ts hl k:=by
 obtain⟨z,ez,cp⟩:=UU hk;clear hk;subst ez;obtain⟨v,h1,hk⟩:=dy r cp;split at hk
 ·obtain⟨o,ao,h2,hR,hk⟩:=rh.pp hk;cases o with
  |dz ct dt keys ap=>
   cases hR;obtain⟨h3,hk⟩:=Rp hk;obtain⟨h4,hk⟩:=dw hk;have h4:=QI h4;obtain⟨u,h5,hk⟩:=dy r hk;obtain⟨kc,hk,h6⟩:=RD (P:=P) hk;have hk:=d2q hk;cases e:pw kc keys 0 with
   |some i=>rw[e] at hk;obtain⟨y,h7,hk⟩:=JW hk;have h7:=CA.V1 h7;refine⟨_,_,_,_,hk,rh,?_⟩;rintro S ⟨A,ro,E,rfl⟩ mv K hK;simp only[af,h1,CA.to,h2,h3,h4,and_self,if_true,h5];subst h3 h4;refine h6 _ ⟨A,ro,E,rfl⟩ _ ?_;simp only[e,h7];exact hK
   |none=>
    rw[e] at hk;have hk:=Nw hk;have hk:=JL hk;have hk:=JL hk;obtain⟨h',hk,hr⟩:=rh.ww hk;refine⟨_,_,_,_,hk,hr _ rfl,?_⟩;rintro S ⟨A,ro,E,rfl⟩ mv K hK;simp only[af,h1,CA.to,h2,h3,h4,and_self,if_true,h5];subst h3 h4;refine h6 _ ⟨A,ro,E,rfl⟩ _ ?_;simp only[e];have hn:(Ae P A ro E).ofNat (az keys)=Aq (A4+keys.length):=by rw[cv,show A4+keys.length=keys.length from A7 _];rfl
    rw[hn];simpa only[CA.to,CA.f9,CD.to,fi,CA.gc,Aa,Af,Ap] using hK
  |_=>exact absurd hk AA
 ·exact absurd hk AA
theorem d3t (r:RT t ts)(rh:RH P h hl){m s x:ah}(hk:c8x m s x X t h k=AB):gu P (.VW m s x) ts hl k:=by
 obtain⟨v,h1,hk⟩:=dy r hk;split at hk
 ·obtain⟨o,ao,h2,hR,hk⟩:=rh.pp hk;cases o with
  |dz wide ks keys ap=>
   cases hR;obtain⟨u,h5,hk⟩:=dy r hk;obtain⟨n,rfl,hk⟩:=ID hk;have hk:=Nw hk;obtain⟨hk,h6⟩:=Un (P:=P) hk;obtain⟨y,h7,hk⟩:=dy r hk;have hk:=c0d hk;obtain⟨h',hk,hr⟩:=rh.ww hk.2;refine⟨_,_,_,_,hk,hr _ rfl,fun S hS mv K hK=> ?_⟩;simp only[af,h1,CA.to,h2,h5,CD.to,ql,h7];have hn:az (CA.f9 ap)=A4+ap.length:=by rw[cv,CA.gc,Ay];exact (A7 _).symm
   rw[hn];refine h6 S hS _ ?_;simpa only[CA.to,fg,CA.gc,Ao] using hK
  |_=>exact absurd hk AA
 ·exact absurd hk AA
end
section
variable {P:An} {X:XS} {t:TS} {ts:List AV} {h:CH} {hl:List ae} {k:CA->CH->List Nat->Bool}
theorem d1t (v:CA):MU v.to=(ON v).to:=by
 cases v with
 |d x=>
  cases x with
  |raw u=>
   cases u with
   |func c us vs=>
    cases c with
    |func f=>simp only[ON,MU,CA.to,CD.to];show (if (AC us.size 0&&AC vs.size 0)=AB then _ else _)=CA.to (match AC us.size 0 with|true=>_|false=>_);cases AC us.size 0<;>cases AC vs.size 0<;>rfl
    |_=>rfl
   |_=>rfl
  |_=>rfl
 |_=>rfl
theorem d9b (x:W9 P X)(r:RT t ts)(rh:RH P h hl){f:ah}{args:List ah}{m:Mode}(hk:d5y f args m X t h k=AB):gu P (.call f args m) ts hl k:=by
 obtain⟨v,h1,hk⟩:=dy r hk;have h1:MU (BE ts f)=(ON v).to:=by rw[h1,d1t]
 revert h1 hk;generalize ON v=v;intro hk h1;split at hk
 ·rename_i g first cap
  obtain⟨as,h2,hk⟩:=Uu r hk;have hk:=JL hk;have hk:=JL hk;have e:ba (CA.f9 first) (ba (CA.f9 as) (CA.f9 cap))=CA.f9 (first++(as++cap)):=by rw[fi,fi,CA.gc,CA.gc,CA.gc,CA.gc];simp
  cases m with
  |borrow=>obtain⟨vs,hk,h3⟩:=d0b rh hk;obtain⟨h4,hk⟩:=Sk hk;obtain⟨ws,hk,h5⟩:=H3 _ hk;obtain⟨u,hk,h6⟩:=x.wr hk;refine⟨_,_,_,_,hk,rh,?_⟩;rintro S ⟨A,ro,E,rfl⟩ mv K hK;simp only[af,h1,CA.to,h2,e];refine h3 _ ⟨A,ro,E,rfl⟩ _ ?_;simp only[h4,if_true];rw[<-h5];exact⟨_,h6,hK⟩
  |share=>obtain⟨vs,h',bu,hk,nf,h3⟩:=b2g rh hk;obtain⟨h4,hk⟩:=Sk hk;obtain⟨ws,hk,h5⟩:=H3 _ hk;obtain⟨u,hk,h6⟩:=x.wr hk;refine⟨_,_,_,_,hk,nf,?_⟩;rintro S ⟨A,ro,E,rfl⟩ mv K hK;simp only[af,h1,CA.to,h2,e];refine h3 _ ⟨A,ro,E,rfl⟩ _ ?_;simp only[h4,if_true];rw[<-h5];exact⟨_,h6,hK⟩
  |data=>obtain⟨h4,hk⟩:=Sk hk;obtain⟨ws,hk,h5⟩:=H3 _ hk;obtain⟨u,hk,h6⟩:=x.wr hk;refine⟨_,_,_,_,hk,rh,?_⟩;rintro S ⟨A,ro,E,rfl⟩ mv K hK;simp only[af,h1,CA.to,h2,e,h4,if_true];rw[<-h5];exact⟨_,h6,hK⟩
  |raw=>obtain⟨ws,hk,h5⟩:=H3 _ hk;obtain⟨pg,u,h',bu,hk,nf,h6⟩:=x.call rh hk;refine⟨_,_,_,_,hk,nf,?_⟩;rintro S ⟨A,ro,E,rfl⟩ mv K hK;simp only[af,h1,CA.to,h2,e];rw[<-h5];exact h6 (fun pg v h''=>K v h'' pg) hK
  |fresh=>exact absurd hk AA
 ·rename_i l;split at hk
  ·obtain⟨as,h2,hk⟩:=Uu r hk;obtain⟨ws,hk,h5⟩:=H3 _ hk;obtain⟨pg,u,h',bu,hk,nf,h6⟩:=x.X8 rh hk;refine⟨_,_,_,_,hk,nf,?_⟩;rintro S ⟨A,ro,E,rfl⟩ mv K hK;simp only[af,h1,CA.to,h2,if_true];rw[<-h5];exact h6 (fun pg v h''=>K v h'' pg) hK
  ·exact absurd hk AA
 ·exact absurd hk AA
theorem e2d (r:RT t ts)(rh:RH P h hl){x:ah}(hk:e2a x X t h k=AB):gu P (.len x) ts hl k:=by
 obtain⟨v,h1,hk⟩:=dy r hk;split at hk<;>first
  |exact absurd hk AA
  |(refine⟨_,_,_,_,hk,rh,?_⟩
    rintro S ⟨A,ro,E,rfl⟩ mv K hK;simp only[af,h1,CA.to,CD.to];exact hK)
theorem d8a (r:RT t ts)(rh:RH P h hl){x:ah}(hk:d4x x X t h k=AB):gu P (.V8 x) ts hl k:=by
 obtain⟨v,h1,hk⟩:=dy r hk;split at hk
 ·obtain⟨o,ao,h2,hR,hk⟩:=rh.pp hk;cases o with
  |map ct dt n es=>cases hR;refine⟨_,_,_,_,hk,rh,?_⟩;rintro S ⟨A,ro,E,rfl⟩ mv K hK;simp only[af,h1,CA.to,h2];exact hK
  |_=>exact absurd hk AA
 ·exact absurd hk AA
theorem e1a (r:RT t ts)(rh:RH P h hl){x:ah}(hk:e1w x X t h k=AB):gu P (.cap x) ts hl k:=by
 obtain⟨v,h1,hk⟩:=dy r hk;split at hk
 ·obtain⟨o,ao,h2,hR,hk⟩:=rh.pp hk;cases o with
  |arr sz' n' e=>
   cases hR;obtain⟨h3,hk⟩:=dw hk;split at hk
   ·refine⟨_,_,_,_,hk,rh,?_⟩;rintro S ⟨A,ro,E,rfl⟩ mv K hK;simp only[af,h1,CA.to,h2,h3,if_true];exact hK
   ·split at hk
    ·refine⟨_,_,_,_,hk,rh,?_⟩;rintro S ⟨A,ro,E,rfl⟩ mv K hK;simp only[af,h1,CA.to,h2,h3,if_true];exact hK
    ·rw[re] at hk;refine⟨_,_,_,_,hk,rh,?_⟩;rintro S ⟨A,ro,E,rfl⟩ mv K hK;simp only[af,h1,CA.to,h2,h3,if_true];exact hK
  |_=>exact absurd hk AA
 ·exact absurd hk AA
theorem e2v (r:RT t ts)(rh:RH P h hl){x y:ah}(hk:e3l x y X t h k=AB):gu P (.min x y) ts hl k:=by
 obtain⟨v,h1,hk⟩:=dy r hk;obtain⟨u,h2,hk⟩:=dy r hk;split at hk
 ·split at hk
  ·obtain⟨h3,hk⟩:=dw hk;have e:=yb h3;split at hk
   ·rename_i c;rw[Mn] at c;refine⟨_,_,_,_,hk,rh,?_⟩;rintro S ⟨A,ro,E,rfl⟩ mv K hK;simp only[af,h1,h2,CA.to,CD.to,e,if_true];simp only[Ae,c,if_true];rw[e] at hK;exact hK
   ·rename_i c;rw[Mn] at c;refine⟨_,_,_,_,hk,rh,?_⟩;rintro S ⟨A,ro,E,rfl⟩ mv K hK;simp only[af,h1,h2,CA.to,CD.to,e,if_true];simp only[Ae,c];rw[e] at hK;exact hK
  ·exact absurd hk AA
 ·exact absurd hk AA
theorem e1v (r:RT t ts)(rh:RH P h hl){x y:ah}(hk:e1f x y X t h k=AB):gu P (.max x y) ts hl k:=by
 obtain⟨v,h1,hk⟩:=dy r hk;obtain⟨u,h2,hk⟩:=dy r hk;split at hk
 ·split at hk
  ·obtain⟨h3,hk⟩:=dw hk;have e:=yb h3;split at hk
   ·rename_i c;rw[Mn] at c;refine⟨_,_,_,_,hk,rh,?_⟩;rintro S ⟨A,ro,E,rfl⟩ mv K hK;simp only[af,h1,h2,CA.to,CD.to,e,if_true];simp only[Ae,c,if_true];rw[e] at hK;exact hK
   ·rename_i c;rw[Mn] at c;refine⟨_,_,_,_,hk,rh,?_⟩;rintro S ⟨A,ro,E,rfl⟩ mv K hK;simp only[af,h1,h2,CA.to,CD.to,e,if_true];simp only[Ae,c];rw[e] at hK;exact hK
  ·exact absurd hk AA
 ·exact absurd hk AA
theorem c8j (r:RT t ts)(rh:RH P h hl){sz b:Nat}{x y:ah}{mu:Bool}(hk:c2g sz b x y mu X t h k=AB):gu P (.append sz b x y mu) ts hl k:=by obtain⟨v,h1,hk⟩:=dy r hk;obtain⟨u,h2,hk⟩:=dy r hk;obtain⟨w,h',bu,pg,hk,nf,h3⟩:=a6p rh hk;refine⟨_,_,_,_,hk,nf,fun S hS mv K hK=> ?_⟩;simp only[af,h1,h2];exact h3 S hS _ hK
theorem d8d (r:RT t ts)(rh:RH P h hl){sz:Nat}{x y:ah}(hk:d5o sz x y X t h k=AB):gu P (.copy sz x y) ts hl k:=by obtain⟨v,h1,hk⟩:=dy r hk;obtain⟨u,h2,hk⟩:=dy r hk;obtain⟨w,h',bu,hk,nf,h3⟩:=b7m rh hk;refine⟨_,_,_,_,hk,nf,fun S hS mv K hK=> ?_⟩;simp only[af,h1,h2];exact h3 S hS _ hK
theorem b9k (r:RT t ts)(rh:RH P h hl){sz:Nat}{x y:ah}(hk:b3i sz x y X t h k=AB):gu P (.oq sz x y) ts hl k:=by obtain⟨v,h1,hk⟩:=dy r hk;obtain⟨u,h2,hk⟩:=dy r hk;obtain⟨w,h',bu,hk,nf,h3⟩:=b5i rh hk;refine⟨_,_,_,_,hk,nf,fun S hS mv K hK=> ?_⟩;simp only[af,h1,h2];exact h3 S hS _ hK
theorem d1q (r:RT t ts)(rh:RH P h hl){sz:Nat}{zs:List DV}{x:ah}(hk:c6w sz zs x X t h k=AB):gu P (.clear sz zs x) ts hl k:=by
 obtain⟨cs,ez,cp⟩:=JO hk;clear hk;subst ez;obtain⟨v,h1,hk⟩:=dy r cp;split at hk
 ·obtain⟨h2,hk⟩:=dw hk;obtain⟨o,ao,h3,hR,hk⟩:=rh.pp hk;cases o with
  |arr ec n' e=>cases hR;obtain⟨h4,hk⟩:=dw hk;have hk:=KR (P:=P) (A:={}) (ro:=AO) (E:=E0) hk;obtain⟨h6,hk⟩:=IM hk;have hk:=Q6 hk;obtain⟨h7,h8,hk⟩:=b9z hk;obtain⟨h',hk,hr⟩:=rh.ww hk;refine⟨_,_,_,_,hk,hr _ rfl,?_⟩;rintro S ⟨A,ro,E,rfl⟩ mv K hK;simp only[af,h1,CA.to,h2,h3,h4,if_true];rw[b4x (P:=P) (A:=A) (ro:=ro) (E:=E) h7 h8,b2z,b5k (P:=P) (A:=A) (ro:=ro) (E:=E)] at hK;exact And.intro h6 hK
  |_=>exact absurd hk AA
 ·exact absurd hk AA
theorem d3v (r:RT t ts)(rh:RH P h hl){neg:Bool}{x:ah}(hk:c7u neg x X t h k=AB):gu P (.Vy neg x) ts hl k:=by
 obtain⟨v,h1,hk⟩:=dy r hk;split at hk
 ·cases neg<;>
  ·refine⟨_,_,_,_,hk,rh,?_⟩;rintro S ⟨A,ro,E,rfl⟩ mv K hK;simp only[af,h1,CA.to,CD.to];exact hK
 ·obtain⟨h2,hk⟩:=JM hk;refine⟨_,_,_,_,hk,rh,?_⟩;rintro S ⟨A,ro,E,rfl⟩ mv K hK;simp only[af,h1,CA.to,CD.to];exact And.intro h2 hK
 ·obtain⟨h2,hk⟩:=JM hk;refine⟨_,_,_,_,hk,rh,?_⟩;rintro S ⟨A,ro,E,rfl⟩ mv K hK;simp only[af,h1,CA.to];exact And.intro h2 hK
 ·obtain⟨h2,hk⟩:=JM hk;refine⟨_,_,_,_,hk,rh,?_⟩;rintro S ⟨A,ro,E,rfl⟩ mv K hK;simp only[af,h1,CA.to];exact And.intro h2 hK
 ·exact absurd hk AA
theorem c9a (r:RT t ts)(rh:RH P h hl){sz:Nat}{x:ah}{lo hi:Option ah}(hk:c1r sz x lo hi X t h k=AB):gu P (.Vo sz x lo hi) ts hl k:=by
 obtain⟨v,h1,hk⟩:=dy r hk;split at hk
 ·obtain⟨h2,hk⟩:=dw hk;obtain⟨o,ao,h3,hR,hk⟩:=rh.pp hk;cases o with
  |arr ec n' e=>cases hR;obtain⟨h4,hk⟩:=dw hk;obtain⟨Is,hk,kv⟩:=Gr r hk;obtain⟨fw,hk,ly⟩:=Gr r hk;obtain⟨h5,hk⟩:=tj hk;obtain⟨h6,hk⟩:=tj hk;have hk:=GR hk;have hk:=KR (P:=P) (A:={}) (ro:=AO) (E:=E0) hk;obtain⟨h7,hk⟩:=IM hk;have hk:=GR hk;rw[re] at hk;obtain⟨s',hk,h8⟩:=Uz (P:=P) hk;refine⟨_,_,_,_,hk,rh,?_⟩;rintro S ⟨A,ro,E,rfl⟩ mv K hK;simp only[af,h1,CA.to,h2,h3,h4,if_true];refine kv _ (ly _ (And.intro h5 (And.intro h6 ?_)));rw[h8 _ ⟨A,ro,E,rfl⟩,j5,j5];exact And.intro h7 hK
  |_=>exact absurd hk AA
 ·exact absurd hk AA
theorem d8y (r:RT t ts)(rh:RH P h hl){l:List UInt8}{x:ah}(hk:d5k l x X t h k=AB):gu P (.idxs l x) ts hl k:=by
 obtain⟨v,h1,hk⟩:=dy r hk;split at hk
 ·rename_i i;have hk:=GR hk;obtain⟨h2,hk⟩:=tj hk;obtain⟨b,h3,hk⟩:=JW hk;rw[re] at hk;refine⟨_,_,_,_,hk,rh,?_⟩;rintro S ⟨A,ro,E,rfl⟩ mv K hK;have hlt:=(AH.1 h3).1;simp only[af,h1,CA.to,CD.to];refine And.intro (show (0:Int)<=_/\_<((az l:Nat):Int) from⟨h2,by rw[cv];simp only[AI] at h2;omega⟩) ?_;have e:(Ae P A ro E).YK l (IX.val ‹IX›)=((b.toNat:Nat):Int):=by simp only[Ae,List.getD_eq_getElem?_getD,h3,Option.getD_some]
  rw[e];exact hK
 ·exact absurd hk AA
theorem b2f (r:RT t ts){sz sz' n:Nat}{lo hi mx:Option ah}{k:Unit->Bool}(hk:b4a t sz sz' n lo hi mx k=AB):k ()=AB/\ ∀S,Sd P S-> ∀K:Prop,K->Iz S ts sz sz' n lo hi mx K:=by obtain⟨h1,hk⟩:=dw hk;obtain⟨Is,hk,kv⟩:=Gr r hk;obtain⟨fw,hk,ly⟩:=Gr r hk;obtain⟨mx',hk,mq⟩:=Gr r hk;obtain⟨h2,hk⟩:=tj hk;obtain⟨h3,hk⟩:=tj hk;obtain⟨h4,hk⟩:=tj hk;obtain⟨h5,hk⟩:=tj hk;refine⟨hk,?_⟩;rintro S ⟨A,ro,E,rfl⟩ K hK;simp only[Iz,h1,if_true];exact kv _ (ly _ (mq _ (And.intro h2 (And.intro h3 (And.intro h4 (And.intro h5 hK))))))
theorem d2n (r:RT t ts)(rh:RH P h hl){sz:Nat}{x:ah}{lo hi mx:Option ah}(hk:c7e sz x lo hi mx X t h k=AB):gu P (.VI sz x lo hi mx) ts hl k:=by
 obtain⟨v,h1,hk⟩:=dy r hk;split at hk
 ·obtain⟨hk,h2⟩:=b2f (P:=P) r hk;refine⟨_,_,_,_,hk,rh,fun S hS mv K hK=> ?_⟩;simp only[af,h1,CA.to];exact h2 S hS _ hK
 ·obtain⟨hk,h2⟩:=b2f (P:=P) r hk;refine⟨_,_,_,_,hk,rh,fun S hS mv K hK=> ?_⟩;simp only[af,h1,CA.to,CD.to];exact h2 S hS _ hK
 ·exact absurd hk AA
theorem e1e (r:RT t ts)(rh:RH P h hl){x y:ah}(hk:e0z x y X t h k=AB):gu P (.XE x y) ts hl k:=by
 obtain⟨v,h1,hk⟩:=dy r hk;obtain⟨u,h2,hk⟩:=dy r hk;split at hk
 ·split at hk
  ·split at hk
   ·exact absurd hk AA
   ·rename_i ck;obtain⟨h3,hk⟩:=JM hk;obtain⟨h4,hk⟩:=JM hk;obtain⟨o,ao,h5,hR,hk⟩:=rh.pp hk;cases o with
    |arr sz n e=>
     cases hR;obtain⟨o',ao',h6,hR',hk⟩:=rh.pp hk;cases o' with
     |arr sz' n' e'=>cases hR';obtain⟨h7,hk⟩:=dw hk;obtain⟨h8,hk⟩:=dw hk;obtain⟨h9,hk⟩:=JM hk;refine⟨_,_,_,_,hk,rh,?_⟩;rintro S ⟨A,ro,E,rfl⟩ mv K hK;have e1:=AD h7;have e2:=AD h8;subst e1 e2;simp only[af,h1,h2,CA.to,ck];refine And.intro h3 (And.intro h4 ?_);simp only[h5,h6];exact And.intro h9 hK
     |_=>exact absurd hk AA
    |_=>exact absurd hk AA
  ·exact absurd hk AA
 ·exact absurd hk AA
theorem b6a {v:CA}(h:Oa v=AB):y7 v.to=AB:=by
 unfold Oa at h;split at h
 ·rfl
 ·have:=AD h;subst this;rfl
 ·have:=AD h;subst this;rfl
 ·have:=AD h;subst this;rfl
 ·cases h
theorem b6x {v:CA}(h:Oa v=AE):y7 v.to=AE:=by
 unfold Oa at h;split at h
 ·cases h
 ·rename_i n _;cases n with
  |zero=>cases h
  |succ n=>rfl
 ·rename_i n _;cases n with
  |zero=>cases h
  |succ n=>rfl
 ·rename_i n _;cases n with
  |zero=>cases h
  |succ n=>rfl
 ·rename_i h1 h2 h3 h4;cases v with
  |d x=>cases x<;>first|rfl|exact (h1 rfl).elim|exact (h2 _ _ _ rfl).elim
  |lm=>exact (h3 _ _ _ rfl).elim
  |bi=>exact (h4 _ _ _ _ _ rfl).elim
  |_=>rfl
theorem d1j {v:CA}(h:c6n v=AE):v.to≠ .d .nil:=by intro e;rw[CA.X0 e] at h;cases h
theorem d6z {v:CA}{s:Nat}{e:Nat->List DV}(h:v.to= .lm s 0 e):Uo v=AB:=by cases v<;>simp[CA.to] at h;obtain⟨_,rfl,_⟩:=h;rfl
theorem c5f (r:RT t ts)(rh:RH P h hl){sz b:Nat}{x y:ah}{mu:Bool}(hk:b6u sz b x y mu X t h k=AB):gu P (.pi sz b x y mu) ts hl k:=by
 obtain⟨v,h1,hk⟩:=dy r hk;obtain⟨u,h2,hk⟩:=dy r hk;have gen: ¬((v.to= .d .nil\/Uo v=AB)/\y7 u.to=AB)->Mq h sz v u mu k=AB->gu P (.pi sz b x y mu) ts hl k:=by
  intro ck hk;obtain⟨w,h',bu,pg,hk,nf,h3⟩:=a6p rh hk;refine⟨_,_,_,_,hk,nf,fun S hS mv K hK=> ?_⟩;simp only[af,h1,h2];split
  ·rename_i e1 e2;exact (ck ⟨.inl e1,e2⟩).elim
  ·rename_i e1 e2;exact (ck ⟨.inr (d6z e1),e2⟩).elim
  ·exact h3 S hS _ hK
 split at hk
 ·rename_i e;split at hk
  ·rename_i e2;have hv:v.to= .d .nil:=by
    unfold c6n at e;split at e
    ·rfl
    ·cases e
   refine⟨_,_,_,_,hk,rh,fun S hS mv K hK=> ?_⟩;simp only[af,h1,h2,hv,b6a e2];exact hK
  ·rename_i e2;exact gen (fun c=>by rw[b6x e2] at c;cases c.2) hk
 ·rename_i e;split at hk
  ·rename_i e3;split at hk
   ·rename_i e2;obtain⟨s0,r0,rfl⟩: ∃s r,v= .lm s 0 r:=by
     unfold Uo at e3;split at e3
     ·rename_i a b c;have:=AD e3;subst this;exact⟨_,_,rfl⟩
     ·cases e3
    refine⟨_,_,_,_,hk,rh,fun S hS mv K hK=> ?_⟩;simp only[af,h1,h2,CA.to,b6a e2];exact hK
   ·rename_i e2;exact gen (fun c=>by rw[b6x e2] at c;cases c.2) hk
  ·rename_i e3;exact gen (fun c=>by
    rcases c.1 with c|c
    ·exact d1j e c
    ·rw[e3] at c;cases c) hk
theorem c4m (rh:RH P h hl){sz:Nat}(hk:b8i sz X t h k=AB):gu P (.v6 sz) ts hl k:=
 ⟨_,_,_,_,hk,rh,fun S _ mv K hK=>by simp only[af];exact hK⟩
theorem Og (x:W9 P X)(r:RT t ts)(rh:RH P h hl){o:qr}(hk:Mp X o t h k=AB):gu P o ts hl k:=by
 cases o with
 |mv=>exact f2b (X:=X) r rh hk
 |VA=>exact d0q (X:=X) (t:=t) rh hk
 |V5=>exact d7y (X:=X) (t:=t) rh hk
 |pick=>exact d7n (X:=X) r rh hk
 |alloc=>exact d1m (X:=X) (t:=t) rh hk
 |box=>exact e0v (X:=X) r rh hk
 |build=>exact d3d (X:=X) r rh hk
 |x8=>exact c7k (X:=X) r rh hk
 |load=>exact d8o (X:=X) r rh hk
 |store=>exact d2y (X:=X) r rh hk
 |T8=>exact c7v (X:=X) r rh hk
 |bin=>exact e3q (X:=X) r rh hk
 |WC=>exact d7j (X:=X) r rh hk
 |Yb=>exact e2e (X:=X) r rh hk
 |un=>exact f1n (X:=X) r rh hk
 |conv=>exact d9m (X:=X) r rh hk
 |WT=>exact d8q (X:=X) r rh hk
 |x6=>exact d4g (X:=X) (t:=t) rh hk
 |mp=>exact c5q (X:=X) r rh hk
 |slice=>exact d3u (X:=X) r rh hk
 |VH=>exact d2u (X:=X) r rh hk
 |VX=>exact d2c (X:=X) r rh hk
 |field=>exact d2h (X:=X) r rh hk
 |VG=>exact d3s (X:=X) r rh hk
 |z5=>exact c8r (X:=X) r rh hk
 |lookup=>exact c9q (X:=X) r rh hk
 |Id=>exact c8m (X:=X) r rh hk
 |extract=>exact c4u (X:=X) r rh hk
 |call=>exact d9b x r rh hk
 |len=>exact e2d (X:=X) r rh hk
 |V8=>exact d8a (X:=X) r rh hk
 |cap=>exact e1a (X:=X) r rh hk
 |min=>exact e2v (X:=X) r rh hk
 |append=>exact c8j (X:=X) r rh hk
 |copy=>exact d8d (X:=X) r rh hk
 |bad=>exact absurd hk AA
 |oq=>exact b9k (X:=X) r rh hk
 |clear=>exact d1q (X:=X) r rh hk
 |Vy=>exact d3v (X:=X) r rh hk
 |Vo=>exact c9a (X:=X) r rh hk
 |idxs=>exact d8y (X:=X) r rh hk
 |VI=>exact d2n (X:=X) r rh hk
 |XE=>exact e1e (X:=X) r rh hk
 |pi=>exact c5f (X:=X) r rh hk
 |bw=>exact f1u (X:=X) r rh hk
 |max=>exact e1v (X:=X) r rh hk
 |Wf=>exact d6p (X:=X) r rh hk
 |og=>exact c8c (X:=X) (t:=t) rh hk
 |m9=>exact c4r (X:=X) r rh hk
 |n9=>exact c5r (X:=X) r rh hk
 |t6=>exact c4z (X:=X) r rh hk
 |pm=>exact c0m (X:=X) r rh hk
 |SW=>exact c6t (X:=X) r rh hk
 |t5=>exact c4c (X:=X) r rh hk
 |v6=>exact c4m (X:=X) (t:=t) rh hk
 |VW=>exact d3t (X:=X) r rh hk
 |Wq=>exact absurd hk AA
 |x5=>exact absurd hk AA
 |Wp=>exact absurd hk AA
 |W8=>exact absurd hk AA
 |W7=>exact absurd hk AA
 |W2=>exact absurd hk AA
end
structure SR (P:An)(base:Nat)(t:TS)(h:CH)(mv:List Nat)(st:St):Prop where
 ts:RT t st.ts
 h:RH P h st.h
 mv:MV base st.mv mv
theorem d3l (pg:List Nat): ∀(st:St) (m:Nat),m∈(st.i5 pg).mv->m∈pg\/m∈st.mv:=by
 induction pg with
 |nil=>intro st m h;exact .inr h
 |cons l pg ih=>
  intro st m h;rcases ih _ m h with h|h
  ·exact .inl (by simp[h])
  ·rcases AR.1 h with h|h
   ·exact .inl (by simp[h])
   ·exact .inr h
def f7m (g:Option (Nat×Bool))(st:St):Prop:= ∃j want,g=AL (j,want)/\(ax st.ts j=AL .lc\/ ∃b,ax st.ts j=AL (.d (.bool b))/\b≠want)
def ZE (g:Option (Nat×Bool))(st:St):Prop:=g=AO\/ ∃j want,g=AL (j,want)/\ax st.ts j=AL (.d (.bool want))
theorem Rc {st:St}{j:Nat}{b:Bool}(h:ax st.ts j=AL (.d (.bool b))):st.VB j b=st:=by
 obtain⟨ts,hl,mv⟩:=st;simp only[St.VB,St.put,fg];rw[cy] at h;congr 1;refine Aw fun i=> ?_;by_cases e:i=j
 ·subst e;have h':ts[i]? =AL (.d (.bool b)):=h;rw[List.getElem?_set,if_pos rfl,if_pos (AH.1 h').1];exact h'.symm
 ·rw[AZ (Ah e)]
section
variable {P:An} {X:XS} {base:Nat} {t:TS} {h:CH} {mv:List Nat} {st:St}
theorem d3h (r:RT t st.ts){dst:Option Nat}{v:CA}{k:TS->Bool}(hk:xh dst v t k=AB): ∃t',RT t' (st.put dst v.to).ts/\k t'=AB:=by
 cases dst with
 |none=>exact⟨t,r,hk⟩
 |some d=>exact r.set (i:=d) hk
theorem e4z (st:St)(dst:Option Nat)(v:AV):(st.put dst v).h=st.h:=by cases dst<;>rfl
theorem d6n (st:St)(dst:Option Nat)(v:AV):(st.put dst v).mv=st.mv:=by cases dst<;>rfl
theorem H4 (r:SR P base t h mv st){dst:Option Nat}{v:CA}{k:TS->Bool}(hk:xh dst v t k=AB): ∃t',SR P base t' h mv (st.put dst v.to)/\k t'=AB:=by obtain⟨t',h1,h2⟩:=d3h r.ts hk;exact⟨t',⟨h1,by rw[e4z];exact r.h,by rw[d6n];exact r.mv⟩,h2⟩
theorem Oe (r:RT t st.ts)(hm:MV base st.mv mv){h':CH}{bu:List ae}(rh:RH P h' bu){pg:List Nat}{k:TS->List Nat->Bool}
 (hk:IE pg t (fun ts=>Gu base pg mv fun mv=>k ts mv)=AB): ∃t' mv',SR P base t' h' mv' ((st.ld bu).i5 pg)/\k t' mv'=AB:=by
 obtain⟨t',hk,r'⟩:=c8l r hk;obtain⟨mv',hk,h1,h2⟩:=d1k hk;have hp:=JV pg (st.ld bu);refine⟨t',mv',⟨by rw[hp.1];exact r',by rw[hp.2];exact rh,fun m hb aq=> ?_⟩,hk⟩;rcases d3l pg _ m aq with h|h
 ·exact h2 m h hb
 ·exact h1 m (hm m hb h)
theorem c6g (r:RT t st.ts)(hm:MV base st.mv mv){h':CH}{bu:List ae}(rh:RH P h' bu){dst:Option Nat}{v:CA}{pg:List Nat}{k:TS->CH->List Nat->Bool}
 (hk:c9g base dst t mv k v h' pg=AB): ∃t' mv',SR P base t' h' mv' (((st.ld bu).i5 pg).put dst v.to)/\k t' h' mv'=AB:=by
 unfold c9g at hk;split at hk
 ·obtain⟨t',h1,h2⟩:=H4 (P:=P) (base:=base) (st:=st.ld bu) ⟨r,rh,hm⟩ hk;exact⟨t',mv,h1,h2⟩
 ·obtain⟨t',mv',h1,hk⟩:=Oe r hm rh (k:=fun ts mv=>xh dst v ts fun ts=>k ts h' mv) hk;obtain⟨HY,h2,hk⟩:=H4 h1 hk;exact⟨HY,mv',h2,hk⟩
theorem e1k (x:W9 P X)(r:SR P base t h mv st){o:jm}{k:TS->CH->List Nat->Bool}(hk:g_ X base o.op o.dst t h mv k=AB):
 ∃t' h' mv' st',k t' h' mv'=AB/\SR P base t' h' mv' st'/\ ∀S,Sd P S-> ∀K:St->Prop,K st'->MQ S o st K:=by
 obtain⟨v,h',bu,pg,hk,nf,h1⟩:=Og x r.ts r.h hk;obtain⟨t',mv',h2,hk⟩:=c6g r.ts r.mv nf hk;exact⟨t',h',mv',_,hk,h2,fun S hS K hK=>h1 S hS _ (fun v h pg=>K (((st.ld h).i5 pg).put o.dst v)) hK⟩
theorem b0y (r:RT t st.ts){g:Option (Nat×Bool)}{off on:Unit->Bool}(hk:Um g t off on=AB):(off ()=AB/\f7m g st)\/(on ()=AB/\ZE g st):=by
 cases g with
 |none=>exact .inr ⟨hk,.inl rfl⟩
 |some g=>
  obtain⟨j,want⟩:=g;obtain⟨v,h1,hk⟩:=r.get (i:=j) (k:=ZD want off on) hk;unfold ZD at hk;split at hk
  ·rename_i b;cases b<;>cases want
   ·exact .inr ⟨hk,.inr ⟨j,_,rfl,h1⟩⟩
   ·exact .inl ⟨hk,j,_,rfl,.inr ⟨_,h1,by simp⟩⟩
   ·exact .inl ⟨hk,j,_,rfl,.inr ⟨_,h1,by simp⟩⟩
   ·exact .inr ⟨hk,.inr ⟨j,_,rfl,h1⟩⟩
  ·exact .inl ⟨hk,j,want,rfl,.inl h1⟩
  ·exact absurd hk AA
theorem a7h {o:jm}{st:St}{off on:St->Prop}(hg:f7m o.guard st)(h:off st):z6 o st off on:=by
 obtain⟨j,want,h1,h2|⟨b,h2,h3⟩⟩:=hg
 ·simp only[z6,h1,h2];exact h
 ·simp only[z6,h1,h2];cases b<;>cases want
  ·exact absurd rfl h3
  ·simp only[Rc h2,if_true];exact h
  ·simp only[Rc h2];exact h
  ·exact absurd rfl h3
theorem So {o:jm}{st:St}{off on:St->Prop}(hg:ZE o.guard st)(h:on st):z6 o st off on:=by
 rcases hg with h1|⟨j,want,h1,h2⟩
 ·simp only[z6,h1];exact h
 ·simp only[z6,h1,h2];cases want
  ·simp only[Rc h2];exact h
  ·simp only[Rc h2,if_true];exact h
theorem a8h {S:We}{o:jm}{st:St}{K:St->Prop}(h:z6 o st (fun st=>K (st.put o.dst .lc)) fun st=>MQ S o st K):MR S o st K:=by
 obtain⟨dst,g,op⟩:=o;cases g with
 |none=>exact h
 |some g=>
  obtain⟨j,want⟩:=g;simp only[z6] at h;simp only[MR];cases e:ax st.ts j with
  |none=>rw[e] at h;exact h.elim
  |some v=>
   rw[e] at h;cases v with
   |d x=>
    cases x with
    |bool b=>cases b<;>cases want<;>exact h
    |_=>exact h.elim
   |lc=>exact h
   |_=>exact h.elim
theorem d3m (x:W9 P X)(r:SR P base t h mv st){o:jm}{k:TS->CH->List Nat->Bool}(hk:e1m X base o t h mv k=AB):
 ∃t' h' mv' st',k t' h' mv'=AB/\SR P base t' h' mv' st'/\ ∀S,Sd P S-> ∀K:St->Prop,K st'->MR S o st K:=by
 obtain⟨dst,g,op⟩:=o;rcases b0y (g:=g) r.ts hk with⟨hk,hg⟩|⟨hk,hg⟩
 ·obtain⟨t',h1,hk⟩:=H4 r (v:= .lc) hk;exact⟨t',h,mv,_,hk,h1,fun S hS K hK=>a8h (a7h (o:=⟨dst,g,op⟩) hg hK)⟩
 ·obtain⟨t',h',mv',st',hk,h1,h2⟩:=e1k x r (o:=⟨dst,g,op⟩) hk;exact⟨t',h',mv',st',hk,h1,fun S hS K hK=>a8h (So (o:=⟨dst,g,op⟩) hg (h2 S hS K hK))⟩
theorem d8v (x:W9 P X){l:List jm}: ∀{t:TS} {h:CH} {mv:List Nat} {st:St} (_:SR P base t h mv st) {k:TS->CH->List Nat->Bool},f2q X base l t h mv k=AB->
 ∃t' h' mv' st',k t' h' mv'=AB/\SR P base t' h' mv' st'/\ ∀S,Sd P S-> ∀K:St->Prop,K st'->R9 S l st K:=by
 induction l with
 |nil=>intro t h mv st r k hk;exact⟨t,h,mv,st,hk,r,fun S hS K hK=>hK⟩
 |cons o l ih=>intro t h mv st r k hk;obtain⟨t1,h1,ye,st1,hk,r1,g1⟩:=d3m x r (o:=o) (k:=fun t h mv=>f2q X base l t h mv k) hk;obtain⟨t2,h2,qd,st2,hk,r2,g2⟩:=ih r1 hk;exact⟨t2,h2,qd,st2,hk,r2,fun S hS K hK=>g1 S hS _ (g2 S hS K hK)⟩
theorem c7i (r:RT t st.ts){l:Nat}{o:qr}{k:CA->qz->Bool}(hk:c6j l o t k=AB):
 ∃v o' ao,k v o'=AB/\o'.R P ao/\ ∀S,Sd P S-> ∀K:AV->ae->Prop,K v.to ao->ti S l o st K:=by
 unfold c6j at hk;split at hk
 ·obtain⟨cs,ez,hk⟩:=JO hk;obtain⟨ds,h1,hk⟩:=ML hk;refine⟨_,_,_,hk,rfl,fun S _ K hK=> ?_⟩;simp only[ti,ez,h1];exact hK
 ·obtain⟨v,h1,hk⟩:=dy r hk;obtain⟨h2,hk⟩:=ND hk;refine⟨_,_,_,hk,rfl,fun S _ K hK=> ?_⟩;simp only[ti,h1,CA.wl,h2,if_true];exact hK
 ·exact⟨_,_,_,hk,rfl,fun S _ K hK=>hK⟩
 ·exact⟨_,_,_,hk,rfl,fun S _ K hK=>hK⟩
 ·exact⟨_,_,_,hk,rfl,fun S _ K hK=>hK⟩
 ·obtain⟨cs,ez,hk⟩:=JO hk;obtain⟨v,h1,hk⟩:=dy r hk;obtain⟨n',rfl,hk⟩:=ID hk;obtain⟨h2,hk⟩:=tj hk;obtain⟨h3,hk⟩:=tj hk;have hk:=GR hk;have hk:=Q6 hk;refine⟨_,_,_,hk,rfl,?_⟩;rintro S ⟨A,ro,E,rfl⟩ K hK;simp only[ti,h1,CA.to,CD.to,ql];refine And.intro h2 (And.intro h3 ?_);rw[j5];rw[b5k (P:=P) (A:=A) (ro:=ro) (E:=E),<-ez] at hK;exact hK
 ·exact absurd hk AA
theorem Te {u v:Kl}(h:LY u v=AB):u=v:=by cases u<;>cases v<;>first|rfl|cases h
theorem d7z {u v:Kl}(h:LY u v=AE):u≠v:=by cases u<;>cases v<;>first|(intro e;cases e;done)|cases h
theorem b5n {ts:List AV}(r:RT t ts){b0:Nat}{d:cz}{k:Unit->Bool}(hk:Rs b0 d t k=AB):yn b0 d ts=AB/\k ()=AB:=by
 unfold Rs at hk;split at hk
 ·rename_i e;simp only[yn,e];exact⟨trivial,hk⟩
 ·rename_i ck;split at hk
  ·rename_i x e;obtain⟨v,h1,hk⟩:=dy r hk;have key: ∀b:Bool,(match BE ts x with
    | .ptr l _=>Gx b0 l d.av
    | .ii l _ _ _=>if d.o.op.kl= .r then Gx b0 l d.av else AE
    | .map l=>if d.o.op.kl= .r then Gx b0 l d.av else AE
    | .d9 _ _=>if d.o.op.kl= .r then AB else AE
    |_=>AE)=b->yn b0 d ts=b:=by
    intro b hb;unfold yn;split
    ·rename_i e';exact (ck e').elim
    ·simp only[e];exact hb
   split at hk
   ·obtain⟨h2,hk⟩:=dw hk;exact⟨key _ (by simp only[h1,CA.to,h2]),hk⟩
   ·obtain⟨h3,hk⟩:=dw hk;obtain⟨h2,hk⟩:=dw hk;exact⟨key _ (by simp only[h1,CA.to,h2,Te h3,if_true]),hk⟩
   ·obtain⟨h3,hk⟩:=dw hk;obtain⟨h2,hk⟩:=dw hk;exact⟨key _ (by simp only[h1,CA.to,h2,Te h3,if_true]),hk⟩
   ·obtain⟨h3,hk⟩:=dw hk;exact⟨key _ (by simp only[h1,CA.to,Te h3,if_true]),hk⟩
   ·exact absurd hk AA
  ·exact absurd hk AA
end
theorem e7k {a b:List UInt8}(h:KM a b=AB):a=b:=by rw[c2y] at h;exact of_decide_eq_true h
theorem e1b {a b:Int}(h:Wn a b=AB):a=b:=by rw[IC] at h;exact of_decide_eq_true h
theorem e4j {a b:Bool}(h:Za a b=AB):a=b:=by rw[d5m] at h;exact of_decide_eq_true h
theorem d8u {a b:Option Nat}(h:g1y a b=AB):a=b:=by
 cases a<;>cases b<;>first|rfl|(cases h;done)|(exact congrArg AL (AD h))
theorem d7o {a b:IX}(h:f7x a b=AB):a=b:=by
 cases a<;>cases b<;>first|(exact congrArg _ (e1b h))|cases h
theorem Ge {a b:Bool}(h:(match a with|true=>b|false=>AE)=AB):a=AB/\b=AB:=by
 cases a<;>first|exact⟨rfl,h⟩|cases h
mutual
theorem c7p:(x y:CD)->zw x y=AB->x=y
 | .int kd n,y,h=>by
   cases y<;>first|(simp only[zw] at h;cases h;done)|(simp only[zw] at h;obtain⟨h1,h2⟩:=Ge h;rw[yb h1,d7o h2])
 | .bool b,y,h=>by
   cases y<;>first|(simp only[zw] at h;cases h;done)|(simp only[zw] at h;cases b<;>simp_all)
 | .str l,y,h=>by
   cases y<;>first|(simp only[zw] at h;cases h;done)|(simp only[zw] at h;rw[e7k h])
 | .nil,y,h=>by
   cases y<;>first|rfl|(simp only[zw] at h;cases h;done)
 | .sl sz n rows,y,h=>by
   cases y with
   |sl sz' n' HV=>simp only[zw] at h;obtain⟨h1,h2⟩:=Ge h;obtain⟨h2,h3⟩:=Ge h2;rw[AD h1,AD h2,b6c rows HV h3]
   |_=>simp only[zw] at h;cases h
 | .raw v,y,h=>by simp only[zw] at h;cases h
theorem c1n:(x y:List CD)->MD x y=AB->x=y
 |[],y,h=>by cases y<;>first|rfl|(simp only[MD] at h;cases h;done)
 |x::xs,y,h=>by
  cases y with
  |nil=>simp only[MD] at h;cases h
  |cons y ys=>simp only[MD] at h;obtain⟨h1,h2⟩:=Ge h;rw[c7p x y h1,c1n xs ys h2]
theorem b6c:(x y:List (List CD))->ME x y=AB->x=y
 |[],y,h=>by cases y<;>first|rfl|(simp only[ME] at h;cases h;done)
 |x::xs,y,h=>by
  cases y with
  |nil=>simp only[ME] at h;cases h
  |cons y ys=>simp only[ME] at h;obtain⟨h1,h2⟩:=Ge h;rw[c1n x y h1,b6c xs ys h2]
end
mutual
theorem c8u:(x y:CA)->qp x y=AB->x=y
 | .d x,y,h=>by
   cases y with
   |d y=>simp only[qp] at h;rw[c7p x y h]
   |_=>simp only[qp] at h;cases h
 | .agg xs,y,h=>by
   cases y with
   |agg ys=>simp only[qp] at h;rw[RZ xs ys h]
   |_=>simp only[qp] at h;cases h
 | .ptr l o,y,h=>by
   cases y with
   |ptr l' o'=>simp only[qp] at h;obtain⟨h1,h2⟩:=Ge h;rw[AD h1,AD h2]
   |_=>simp only[qp] at h;cases h
 | .bi l sz s n f,y,h=>by
   cases y with
   |bi l' sz' s' n' f'=>simp only[qp] at h;obtain⟨h1,h⟩:=Ge h;obtain⟨h2,h⟩:=Ge h;obtain⟨h3,h⟩:=Ge h;obtain⟨h4,h5⟩:=Ge h;rw[AD h1,AD h2,d8u h3,AD h4,e4j h5]
   |_=>simp only[qp] at h;cases h
 | .map l,y,h=>by
   cases y with
   |map l'=>simp only[qp] at h;rw[AD h]
   |_=>simp only[qp] at h;cases h
 | .fn f us cs,y,h=>by
   cases y with
   |fn f' us' jw=>simp only[qp] at h;obtain⟨h1,h⟩:=Ge h;obtain⟨h2,h3⟩:=Ge h;rw[AD h1,RZ us us' h2,RZ cs jw h3]
   |_=>simp only[qp] at h;cases h
 | .yl l,y,h=>by
   cases y with
   |yl l'=>simp only[qp] at h;rw[AD h]
   |_=>simp only[qp] at h;cases h
 | .any,y,h=>by simp only[qp] at h;cases h
 | .lc,y,h=>by simp only[qp] at h;cases h
 | .tuple _,y,h=>by simp only[qp] at h;cases h
 | .ii ..,y,h=>by simp only[qp] at h;cases h
 | .d9 ..,y,h=>by simp only[qp] at h;cases h
 | .lm ..,y,h=>by simp only[qp] at h;cases h
 | .d7 ..,y,h=>by simp only[qp] at h;cases h
 | .ge _,y,h=>by simp only[qp] at h;cases h
theorem RZ:(x y:List CA)->JN x y=AB->x=y
 |[],y,h=>by cases y<;>first|rfl|(simp only[JN] at h;cases h;done)
 |x::xs,y,h=>by
  cases y with
  |nil=>simp only[JN] at h;cases h
  |cons y ys=>simp only[JN] at h;obtain⟨h1,h2⟩:=Ge h;rw[c8u x y h1,RZ xs ys h2]
end
section
variable {P:An} {X:XS} {base:Nat} {t:TS} {h:CH} {mv:List Nat} {st:St}
theorem b1t (x:W9 P X)(r:SR P base t h mv st){b0:Nat}{k:Unit->Bool}{F:List cz}:JG X b0 t h k F=AB->k ()=AB/\ ∀S,Sd P S-> ∀p:Prop,p->qy S b0 st p F:=by
 induction F with
 |nil=>intro hk;exact⟨hk,fun S _ p hp=>hp⟩
 |cons d F ih=>
  intro hk;simp only[JG] at hk;cases e:LY d.o.op.kl .r with
  |false=>rw[e] at hk;obtain⟨h1,h2⟩:=ih hk;exact⟨h1,fun S hS p hp=>by simp only[qy,if_neg (d7z e)];exact h2 S hS p hp⟩
  |true=>
   rw[e] at hk;have ek:=Te e;rcases b0y (st:=st) r.ts hk with⟨hk,hg⟩|⟨hk,hg⟩
   ·obtain⟨h1,h2⟩:=ih hk;exact⟨h1,fun S hS p hp=>by simp only[qy,if_pos ek];exact a7h hg (h2 S hS p hp)⟩
   ·obtain⟨h1,hk⟩:=b5n r.ts hk;obtain⟨v,h',bu,pg,hk,_,h2⟩:=Og x r.ts r.h hk;cases e2:d.o.dst with
    |none=>simp only[e2] at hk;obtain⟨h3,h4⟩:=ih hk;refine⟨h3,fun S hS p hp=> ?_⟩;simp only[qy,if_pos ek];refine So hg ?_;rw[if_pos h1];refine h2 S hS _ _ ?_;simp only[e2];exact h4 S hS p hp
    |some j=>simp only[e2] at hk;obtain⟨u,h5,hk⟩:=r.ts.get hk;obtain⟨h6,hk⟩:=dw hk;obtain⟨h3,h4⟩:=ih hk;refine⟨h3,?_⟩;rintro S ⟨A,ro,E,rfl⟩ p hp;simp only[qy,if_pos ek];refine So hg ?_;rw[if_pos h1];refine h2 _ ⟨A,ro,E,rfl⟩ _ _ ?_;simp only[e2];refine And.intro (show v.to=BE st.ts (.t j) from ?_) (h4 _ ⟨A,ro,E,rfl⟩ p hp);simp only[BE,h5,c8u v u h6]
end
mutual
theorem b3e (pg:List Nat):(v:CA)->N6 pg v=sy pg v.to
 | .agg cs=>by simp only[N6,CA.to,sy,Ru pg cs]
 | .tuple cs=>by simp only[N6,CA.to,sy,Ru pg cs]
 | .fn f us cs=>by simp only[N6,CA.to,sy,Ru pg us,Ru pg cs];cases Ia pg (CA.f9 us)<;>rfl
 | .d _=>rfl
 | .any=>rfl
 | .lc=>rfl
 | .ptr .. =>rfl
 | .ii .. =>rfl
 | .d9 .. =>rfl
 | .lm .. =>rfl
 | .bi .. =>rfl
 | .d7 .. =>rfl
 | .map _=>rfl
 | .ge _=>rfl
 | .yl _=>rfl
theorem Ru (pg:List Nat):(vs:List CA)->Mi pg vs=Ia pg (CA.f9 vs)
 |[]=>rfl
 |v::vs=>by simp only[Mi,CA.f9,Ia,b3e pg v,Ru pg vs];cases sy pg v.to<;>rfl
end
section
variable {P:An} {X:XS} {base:Nat} {t:TS} {h:CH} {mv:List Nat} {st:St}
theorem b3m {ts:List AV}(r:RT t ts){pg:List Nat}{l:List Nat}{k:Unit->Bool}(hk:Rv pg t l k=AB):yp pg ts l=AB/\k ()=AB:=by
 induction l with
 |nil=>exact⟨rfl,hk⟩
 |cons j l ih=>simp only[Rv] at hk;obtain⟨v,h1,hk⟩:=r.get hk;obtain⟨h2,hk⟩:=dw hk;obtain⟨h3,hk⟩:=ih hk;refine⟨?_,hk⟩;simp only[yp,h1,<-b3e,h2,if_true,h3]
theorem c8i {ts:List AV}(r:RT t ts){pg:List Nat}{F:List cz}{k:Unit->Bool}(hk:Uj pg t F k=AB):xj pg ts F=AB/\k ()=AB:=by
 induction F with
 |nil=>exact⟨rfl,hk⟩
 |cons d F ih=>simp only[Uj] at hk;obtain⟨h1,hk⟩:=b3m r hk;obtain⟨h2,hk⟩:=b3m r hk;obtain⟨h3,hk⟩:=ih hk;exact⟨by simp only[xj,h1,h2,h3,if_true],hk⟩
theorem e9g (x:W9 P X)(r:SR P base t h mv st){b0:Nat}{F:List cz}{d:cz}{k:TS->CH->List Nat->Bool}(hk:xD X base b0 F d t h mv k=AB):
 ∃t' h' mv' st',k t' h' mv'=AB/\SR P base t' h' mv' st'/\ ∀S,Sd P S-> ∀K:St->Prop,K st'->WM S b0 F d st K:=by
 unfold xD at hk;cases e:d.o.op.kl with
 |a=>simp only[e,re] at hk;obtain⟨v,o',ao,hk,hR,h1⟩:=c7i (P:=P) (st:=st) r.ts hk;obtain⟨h',hk,hr⟩:=r.h.ww hk;have r1:SR P base t h' mv (st.ld (b8 st.h (b0+d.slot) ao)):=⟨r.ts,hr _ hR,r.mv⟩;obtain⟨t',r2,hk⟩:=H4 r1 hk;exact⟨t',h',mv,_,hk,r2,fun S hS K hK=>by simp only[WM,e];exact h1 S hS _ hK⟩
 |m=>
  simp only[e] at hk;obtain⟨h1,hk⟩:=b5n r.ts hk;obtain⟨v,h',bu,pg,hk,nf,h2⟩:=Og x r.ts r.h hk;cases pg with
  |nil=>simp only at hk;have r1:SR P base t h' mv (st.ld bu):=⟨r.ts,nf,r.mv⟩;obtain⟨t',r2,hk⟩:=H4 r1 hk;obtain⟨hk,h3⟩:=b1t x r2 hk;refine⟨t',h',mv,_,hk,r2,fun S hS K hK=> ?_⟩;simp only[WM,e,if_pos h1];exact h2 S hS _ _ (h3 S hS _ hK)
  |cons p pg=>
   simp only at hk;cases e2:d.alone with
   |true=>simp only[e2] at hk;obtain⟨t',mv',r1,hk⟩:=Oe r.ts r.mv nf (k:=fun ts mv=>xh d.o.dst v ts fun ts=>k ts h' mv) hk;obtain⟨HY,r2,hk⟩:=H4 r1 hk;refine⟨HY,h',mv',_,hk,r2,fun S hS K hK=> ?_⟩;simp only[WM,e,if_pos h1];refine h2 S hS _ _ ?_;simp only[e2,if_true];exact hK
   |false=>simp only[e2] at hk;obtain⟨h3,hk⟩:=dw hk;obtain⟨h4,hk⟩:=c8i r.ts hk;obtain⟨t',mv',r1,hk⟩:=Oe r.ts r.mv nf (k:=fun ts mv=>xh d.o.dst v ts fun ts=>JG X b0 ts h' (fun _=>k ts h' mv) (sx d F)) hk;obtain⟨HY,r2,hk⟩:=H4 r1 hk;obtain⟨hk,h5⟩:=b1t x r2 hk;refine⟨HY,h',mv',_,hk,r2,fun S hS K hK=> ?_⟩;simp only[WM,e,if_pos h1];refine h2 S hS _ _ ?_;simp only[e2,h3,h4,if_true];exact h5 S hS _ hK
 |r=>simp only[e] at hk;obtain⟨h1,hk⟩:=b5n r.ts hk;obtain⟨v,h',bu,pg,hk,_,h2⟩:=Og x r.ts r.h hk;obtain⟨t',r2,hk⟩:=H4 r hk;exact⟨t',h,mv,_,hk,r2,fun S hS K hK=>by simp only[WM,e,if_pos h1];exact h2 S hS _ _ hK⟩
 |i=>simp only[e] at hk;obtain⟨v,h',bu,pg,hk,_,h2⟩:=Og x r.ts r.h hk;obtain⟨t',r2,hk⟩:=H4 r hk;exact⟨t',h,mv,_,hk,r2,fun S hS K hK=>by simp only[WM,e];exact h2 S hS _ _ hK⟩
 |p=>simp only[e] at hk;obtain⟨v,h',bu,pg,hk,_,h2⟩:=Og x r.ts r.h hk;obtain⟨t',r2,hk⟩:=H4 r hk;exact⟨t',h,mv,_,hk,r2,fun S hS K hK=>by simp only[WM,e];exact h2 S hS _ _ hK⟩
theorem e9m (x:W9 P X){b0:Nat}{ds:List cz}: ∀{F:List cz} {t:TS} {h:CH} {mv:List Nat} {st:St} (_:SR P base t h mv st) {k:TS->CH->List Nat->Bool},xR X base b0 F ds t h mv k=AB->
 ∃t' h' mv' st',k t' h' mv'=AB/\SR P base t' h' mv' st'/\ ∀S,Sd P S-> ∀K:St->Prop,K st'->XK S b0 F ds st K:=by
 induction ds with
 |nil=>intro F t h mv st r k hk;simp only[xR] at hk;exact⟨t,h,mv,st,hk,r,fun S hS K hK=>hK⟩
 |cons d ds ih=>
  intro F t h mv st r k hk;simp only[xR] at hk;rcases b0y (st:=st) r.ts hk with⟨hk,hg⟩|⟨hk,hg⟩
  ·obtain⟨t',r1,hk⟩:=H4 (v:= .lc) r hk;obtain⟨t2,h2,qd,st2,hk,r2,g2⟩:=ih r1 hk;exact⟨t2,h2,qd,st2,hk,r2,fun S hS K hK=>by simp only[XK,r9];exact a7h hg (g2 S hS K hK)⟩
  ·obtain⟨t1,h1,ye,st1,hk,r1,g1⟩:=e9g x r hk;obtain⟨t2,h2,qd,st2,hk,r2,g2⟩:=ih r1 hk;exact⟨t2,h2,qd,st2,hk,r2,fun S hS K hK=>by simp only[XK,r9];exact So hg (g1 S hS _ (g2 S hS K hK))⟩
theorem d3w {n:Nat}: ∀{h:CH} {hl:List ae} (_:RH P h hl) {k:CH->Bool},Of n h k=AB-> ∃h',k h'=AB/\RH P h' (ba hl (w8 (.var []) n)):=by
 induction n with
 |zero=>intro h hl r k hk;simp only[Of] at hk;exact⟨h,hk,by rw[fi];simpa [w8] using r⟩
 |succ n ih=>intro h hl r k hk;simp only[Of] at hk;obtain⟨h',hk,hr⟩:=r.V3 hk;obtain⟨h'',hk,r'⟩:=ih (hr (.var []) rfl) hk;refine⟨h'',hk,?_⟩;rw[fi,fi] at r';rw[fi];simpa [w8] using r'
theorem c1t {ts:List AV}{hl:List ae}(r:RT t ts)(rh:RH P h hl){wn:List ym}: ∀{k:List CA->Bool},IF t h wn k=AB->
 ∃vs,k vs=AB/\ ∀S,Sd P S-> ∀(mv:List Nat) (K:List AV->Prop),K (CA.f9 vs)->yj S ⟨ts,hl,mv⟩ wn K:=by
 induction wn with
 |nil=>intro k hk;simp only[IF] at hk;exact⟨[],hk,fun S _ mv K hK=>hK⟩
 |cons ir wn ih=>
  intro k hk;cases ir with
  |t i=>simp only[IF] at hk;obtain⟨v,h1,hk⟩:=r.get hk;obtain⟨vs,hk,h2⟩:=ih hk;refine⟨v::vs,hk,fun S hS mv K hK=> ?_⟩;simp only[yj,BE,h1];exact h2 S hS mv _ hK
  |c i ag=>simp only[IF] at hk;obtain⟨v,h1,hk⟩:=r.get hk;obtain⟨u,hk,h3⟩:=b8j rh hk;obtain⟨vs,hk,h2⟩:=ih hk;refine⟨u::vs,hk,fun S hS mv K hK=> ?_⟩;simp only[yj,BE,h1];exact h3 S hS _ (h2 S hS mv _ hK)
theorem b0t (vs:List CA):(RF vs).to=wc (CA.f9 vs):=by
 match vs with
 |[]=>rfl
 |[v]=>rfl
 |_::_::_=>rfl
theorem b7b {c:ah}{b:Bool}(h:BE st.ts c= .d (.bool b)):st.XX c b=st:=by
 cases c with
 |c v=>rfl
 |t j=>
  simp only[St.XX];refine Rc ?_;simp only[BE] at h;split at h
  ·rename_i v e;rw[e,h]
  ·cases h
theorem c0b {l:Nat}{hl:List ae}{ts:List AV}{GQ:List Nat}{pg:List Nat}(r:RT t ts)(rh:RH P h hl)(hm:MV base GQ mv){k:Lv->TS->CH->List Nat->Bool}(hk:b5l base l t h pg mv k=AB):
 ∃lv t' h' mv' st',k lv t' h' mv'=AB/\SR P base t' h' mv' st'/\ ∀Q:Lv->St->Prop,Q lv st'->TQ l ts GQ Q pg hl:=by
 unfold b5l at hk;split at hk
 ·exact absurd hk AA
 ·rename_i e;have p0:l∉pg:=fun c=>by rw[Tb.2 c] at e;cases e
  obtain⟨o,ao,h1,hR,hk⟩:=rh.pp hk;cases o with
  |loop s tx ps A a b=>
   obtain⟨zk,h2,rfl⟩:=hR;cases s with
   |ready=>obtain⟨h',hk,hr⟩:=rh.ww hk;obtain⟨t',mv',r1,hk⟩:=Oe (st:=⟨ts,hl,GQ⟩) r hm (hr _ ⟨zk,h2,rfl⟩) (k:=fun ts mv=>k .normal ts h' mv) hk;exact⟨_,t',h',mv',_,hk,r1,fun Q hQ=>⟨p0,_,_,_,_,h1,hQ⟩⟩
   |done lv=>
    cases lv with
    |ret=>obtain⟨h',hk,hr⟩:=rh.ww hk;obtain⟨t',mv',r1,hk⟩:=Oe (st:=⟨ts,hl,GQ⟩) r hm (hr _ ⟨zk,h2,rfl⟩) (k:=fun ts mv=>k .ret ts h' mv) hk;exact⟨_,t',h',mv',_,hk,r1,fun Q hQ=>⟨p0,_,_,_,_,h1,hQ⟩⟩
    |exit i=>obtain⟨h',hk,hr⟩:=rh.ww hk;obtain⟨t',mv',r1,hk⟩:=Oe (st:=⟨ts,hl,GQ⟩) r hm (hr _ ⟨zk,h2,rfl⟩) (k:=fun ts mv=>k (.exit i) ts h' mv) hk;exact⟨_,t',h',mv',_,hk,r1,fun Q hQ=>⟨p0,_,_,_,_,h1,hQ⟩⟩
    |normal=>exact absurd hk AA
   |_=>exact absurd hk AA
  |_=>exact absurd hk AA
def e0n (P:An)(base:Nat)(top:Bool)(c:gy)(k:Lv->TS->CH->List Nat->Bool)(st:St)(A:A2):Prop:=
 ∃lv t' h' mv' st',k lv t' h' mv'=AB/\SR P base t' h' mv' st'/\ ∀(ro:Option Nat) (E:BC) (Q:Lv->St->Prop),(top=AB->ro=AO)->Q lv st'->ev (Ae P A ro E) c Q st
theorem Rw (hm:P.follows .mixedOrders=AB)(dp:WO P)(x:W9 P X){A:A2}{top:Bool}{c:gy}: ∀{k:Lv->TS->CH->List Nat->Bool} {t:TS} {h:CH} {mv:List Nat} {st:St} (_:SR P base t h mv st),
 JC X base A top c k t h mv=AB->e0n P base top c k st A:=by
 induction c with
 |skip=>intro k t h mv st r hk;exact⟨_,t,h,mv,st,hk,r,fun ro E Q _ hQ=>hQ⟩
 |ops l=>intro k t h mv st r hk;obtain⟨t',h',mv',st',hk,r',h1⟩:=d8v x r (l:=l) hk;exact⟨_,t',h',mv',st',hk,r',fun ro E Q _ hQ=>h1 _ ⟨A,ro,E,rfl⟩ _ hQ⟩
 |draw n l=>intro k t h mv st r hk;have hk:=r.h.YB (k:=fun n0=>Of n h fun h'=>xR X base n0 [] l t h' mv (k .normal)) hk;obtain⟨h1,hk,r1⟩:=d3w r.h hk;obtain⟨t',h',mv',st',hk,r',h2⟩:=e9m x (st:=⟨st.ts,ba st.h (w8 (.var []) n),st.mv⟩) ⟨r.ts,r1,r.mv⟩ hk;exact⟨_,t',h',mv',st',hk,r',fun ro E Q _ hQ=>h2 _ ⟨A,ro,E,rfl⟩ _ hQ⟩
 |seq a b ia ib=>
  intro k t h mv st r hk;obtain⟨lv,t1,h1,ye,st1,hk,r1,g1⟩:=ia r (k:=d4m (JC X base A top b k) k) hk;cases lv with
  |normal=>obtain⟨lv,t2,h2,qd,st2,hk,r2,g2⟩:=ib r1 hk;exact⟨lv,t2,h2,qd,st2,hk,r2,fun ro E Q hr hQ=>g1 ro E _ hr (g2 ro E Q hr hQ)⟩
  |exit i=>exact⟨_,t1,h1,ye,st1,hk,r1,fun ro E Q hr hQ=>g1 ro E _ hr hQ⟩
  |ret=>exact⟨_,t1,h1,ye,st1,hk,r1,fun ro E Q hr hQ=>g1 ro E _ hr hQ⟩
 |cond c a b ia ib=>
  intro k t h mv st r hk;obtain⟨v,h1,hk⟩:=dy r.ts (o:=c) hk;obtain⟨n,rfl,hk⟩:=Rt hk;cases n with
  |true=>obtain⟨lv,t2,h2,qd,st2,hk,r2,g2⟩:=ia r hk;refine⟨lv,t2,h2,qd,st2,hk,r2,fun ro E Q hr hQ=> ?_⟩;simp only[ev,h1,CA.to,CD.to];rw[b7b h1];exact g2 ro E Q hr hQ
  |false=>obtain⟨lv,t2,h2,qd,st2,hk,r2,g2⟩:=ib r hk;refine⟨lv,t2,h2,qd,st2,hk,r2,fun ro E Q hr hQ=> ?_⟩;simp only[ev,h1,CA.to,CD.to];rw[b7b h1];exact g2 ro E Q hr hQ
 |block id c ic=>
  intro k t h mv st r hk;obtain⟨lv,t1,h1,ye,st1,hk,r1,g1⟩:=ic r (k:=c0e id k) hk;cases lv with
  |normal=>exact⟨_,t1,h1,ye,st1,hk,r1,fun ro E Q hr hQ=>g1 ro E _ hr hQ⟩
  |ret=>exact⟨_,t1,h1,ye,st1,hk,r1,fun ro E Q hr hQ=>g1 ro E _ hr hQ⟩
  |exit i=>
   simp only[c0e] at hk;cases e:AC i id with
   |true=>rw[e] at hk;exact⟨_,t1,h1,ye,st1,hk,r1,fun ro E Q hr hQ=>g1 ro E _ hr (by simp only[RY,e,if_true];exact hQ)⟩
   |false=>rw[e] at hk;exact⟨_,t1,h1,ye,st1,hk,r1,fun ro E Q hr hQ=>g1 ro E _ hr (by simp only[RY,e];exact hQ)⟩
 |loop c _=>intro k t h mv st r hk;obtain⟨lv,t',vv,h',bu,mv',Gj,hk,r1,r2,r3,g⟩:=x.loop r.ts r.h r.mv hk;refine⟨lv,t',h',mv',⟨vv,bu,Gj⟩,hk,⟨r1,r2,r3⟩,fun ro E Q hr hQ=> ?_⟩;obtain⟨m,hg⟩:=g ro E Q hr hQ;exact b2n hm dp hg
 |range f ps a b _ _=>
  intro k t h mv st r hk;obtain⟨HD,hk⟩:=dw hk;obtain⟨v,h1,hk⟩:=dy r.ts hk;split at hk
  ·rename_i g first cap
   obtain⟨h',hk,hr⟩:=r.h.V3 hk;have hk:=JL hk;have hk:=JL hk;obtain⟨ws,hk,h5⟩:=H3 _ hk;obtain⟨pg,u,h2,qt,hk,rh2,h6⟩:=x.call (hr _ ⟨st.ts,r.ts,rfl⟩) hk;obtain⟨lv,t3,h3,L6,st3,hk,r3,g3⟩:=c0b r.ts rh2 r.mv hk;refine⟨lv,t3,h3,L6,st3,hk,r3,fun ro E Q hr hQ=> ?_⟩;have wa:=hr HD;subst wa;refine b9s (f:=f) (ps:=ps) (ia:=a) (ib:=b) h1 ?_;have e:A6 (ba (CA.f9 first) (ba [.yl (az st.h)] (CA.f9 cap)))=CA.f9 ws:=by rw[h5,fi,fi,CA.gc,CA.gc,CA.gc];simp[CA.to]
   rw[e];exact h6 (fun pg _ h2=>TQ (az st.h) st.ts st.mv Q pg h2) (g3 Q hQ)
  ·exact absurd hk AA
 |exit id=>intro k t h mv st r hk;exact⟨_,t,h,mv,st,hk,r,fun ro E Q _ hQ=>hQ⟩
 |scope c ic=>intro k t h mv st r hk;obtain⟨HD,hk⟩:=dw hk;obtain⟨lv,t1,h1,ye,st1,hk,r1,g1⟩:=ic r hk;exact⟨lv,t1,h1,ye,st1,hk,r1,fun ro E Q hr hQ=>And.intro (hr HD) (g1 ro E Q hr hQ)⟩
 |label l=>intro k t h mv st r hk;exact⟨_,t,h,mv,st,hk,r,fun ro E Q _ hQ=>hQ⟩
 |ret=>intro k t h mv st r hk;exact⟨_,t,h,mv,st,hk,r,fun ro E Q _ hQ=>hQ⟩
end
def aw (P:An)(f:Nat)(fn:x7):Prop:=
 ∃(func:Func) (c:Code),P.funcs[f]? =AL func/\func.body=AL c/\func.name≠ "runtime.NumGoroutine" /\comp P fn.A c=AL fn.ic/\MJ P func=AL fn.wn/\func.ntmps=fn.n
def XT.X6 (p:Nat->x7->Prop):XT->Prop
 | .leaf=>True
 | .node key fn l r=>p key fn/\l.X6 p/\r.X6 p
theorem c9p {p:Nat->x7->Prop}{T:XT}{f:Nat}{k:x7->Bool}(hT:T.X6 p)(hk:T.find f k=AB): ∃fn,p f fn/\k fn=AB:=by
 induction T with
 |leaf=>exact absurd hk AA
 |node key fn l r il ir=>
  simp only[XT.find] at hk;split at hk
  ·rename_i e;exact⟨fn,AD e▸hT.1,hk⟩
  ·split at hk
   ·exact il hT.2.1 hk
   ·exact ir hT.2.2 hk
section
variable {P:An}
theorem d4c {args:List CA}: ∀{i:Nat} {t:TS} {pre:List AV} {m:Nat} {k:TS->Bool},pre.length=i->RT t (pre++AX m .lc)->OM args i t k=AB->
 args.length<=m/\ ∃t',RT t' (pre++CA.f9 args++AX (m-args.length) .lc)/\k t'=AB:=by
 induction args with
 |nil=>intro i t pre m k _ r hk;simp only[OM] at hk;exact⟨by simp,t,by simpa [CA.f9] using r,hk⟩
 |cons v args ih=>
  intro i t pre m k hi r hk;simp only[OM] at hk;obtain⟨t',⟨x,h1⟩,h2,h3⟩:=b9h hk;have h4:=r i x h1;have hlt:=(AH.1 h4).1;simp at hlt;cases m with
  |zero=>omega
  |succ m=>
   have r':RT t' ((pre++[v.to])++AX m .lc):=by
    intro j u hj;rw[h2] at hj;split at hj
    ·rename_i e;subst e;cases hj;simp[hi]
    ·rename_i e;have:=r j u hj;rw[List.replicate_succ] at this;by_cases c:j<pre.length
     ·rw[AJ c] at this;rw[Ac,AJ c];exact this
     ·rw[AK (by omega)] at this;rw[Ac,AK (by omega)];obtain⟨q,hq⟩: ∃q,j-pre.length=q+1:=⟨j-pre.length-1,by omega⟩;rw[hq] at this⊢;simpa using this
   obtain⟨h5,HY,h6,h7⟩:=ih (i:=i+1) (by simp[hi]) r' h3;refine⟨by simp;omega,HY,?_,h7⟩;have e:m+1-(v::args).length=m-args.length:=by simp
   rw[e];simpa [CA.f9] using h6
theorem c3m {n:Nat}{args:List CA}{k:TS->Bool}(hk:d9e n args k=AB):args.length<=n/\ ∃t,RT t (y4 (CA.f9 args) (n-args.length))/\k t=AB:=by
 obtain⟨h1,t,h2,h3⟩:=d4c (pre:=[]) (m:=n) rfl (fun i v hv=>by
  obtain⟨h1,h2⟩:=d7r hv;subst h2;simp[h1,CA.to]) hk
 refine⟨h1,t,?_,h3⟩;rw[y4,fi,L5];simpa using h2
theorem d6x {ps:List Nat}: ∀{args:List CA} {t:TS} {ts:List AV} {k:TS->Bool},RT t ts->Uy ps args t k=AB->ps.length=args.length/\ ∃t',RT t' (Iw ps (CA.f9 args) ts)/\k t'=AB:=by
 induction ps with
 |nil=>
  intro args t ts k r hk;cases args with
  |nil=>exact⟨rfl,t,r,hk⟩
  |cons=>exact absurd hk AA
 |cons p ps ih=>
  intro args t ts k r hk;cases args with
  |nil=>exact absurd hk AA
  |cons v args=>simp only[Uy] at hk;obtain⟨t',r',hk⟩:=r.set hk;obtain⟨h1,HY,ze,hk⟩:=ih r' hk;exact⟨by simp[h1],HY,by simpa [CA.f9,Iw] using ze,hk⟩
def K7:AV->Prop
 | .d (.int ..)=>True
 | .d (.bool _)=>True
 | .d (.str _)=>True
 |_=>False
theorem d3p {vs:List CA}{k:Unit->Bool}(hk:c4j vs k=AB):(∀v,v∈CA.f9 vs->K7 v)/\k ()=AB:=by
 induction vs with
 |nil=>exact⟨by simp[CA.f9],hk⟩
 |cons v vs ih=>
  unfold c4j at hk;split at hk
  ·obtain⟨h1,h2⟩:=ih hk;exact⟨by intro u hu;simp only[CA.f9,AR] at hu;rcases hu with rfl|hu;exact trivial;exact h1 u hu,h2⟩
  ·obtain⟨h1,h2⟩:=ih hk;exact⟨by intro u hu;simp only[CA.f9,AR] at hu;rcases hu with rfl|hu;exact trivial;exact h1 u hu,h2⟩
  ·obtain⟨h1,h2⟩:=ih hk;exact⟨by intro u hu;simp only[CA.f9,AR] at hu;rcases hu with rfl|hu;exact trivial;exact h1 u hu,h2⟩
  ·exact absurd hk AA
theorem c7t {w:World}{S:Nat->Prop}{ρ:lw}{x:AV}{v:Value}(hf:K7 x)(h:VR w S ρ x v):VR w (fun _=>False) ρ x v:=by
 cases h with
 |d h=>
  cases h with
  |int k n=>exact .d (.int k n)
  |bool b=>exact .d (.bool b)
  |str l=>exact .d (.str l)
  |_=>exact hf.elim
 |_=>exact hf.elim
theorem e1d {w:World}{S:Nat->Prop}{ρ:lw}{xs:List AV}{v:Value}(hf: ∀x,x∈xs->K7 x)(h:VR w S ρ (wc xs) v):VR w (fun _=>False) ρ (wc xs) v:=by
 have key: ∀{xs:List AV},(∀x,x∈xs->K7 x)->VR w S ρ (.tuple xs) v->VR w (fun _=>False) ρ (.tuple xs) v:=by
  intro xs hf h;cases h with
  |tuple _ vs hl hv=>exact .tuple _ vs hl fun i x v hx fc=>c7t (hf x (List.mem_of_getElem? hx)) (hv i x v hx fc)
 match xs,hf,h with
 |[],hf,h=>exact key hf h
 |[x],hf,h=>exact c7t (hf x (by simp)) h
 |_::_::_,hf,h=>exact key hf h
theorem b4e {f:Ab}{args:List AV}{xs:List AV}(hf: ∀x,x∈xs->K7 x)(h:au P AE f args (wc xs)):au P AB f args (wc xs):=by refine⟨h.1,fun w S vs hS hv=>Calls.mono (h.2 w S vs hS hv) fun e w' hR=> ?_⟩;obtain⟨v,S',h1,h2,_,h3⟩:=hR;exact⟨v,fun _=>False,h1,e1d hf h2,fun b hb=>hb.elim,h3⟩
theorem RH.nil:RH P ⟨.zero,.leaf⟩ []:=⟨rfl,fun i o h=>by simp[BT.get?] at h⟩
variable {X:XS} {T:XT}
theorem c9j (hm:P.follows .mixedOrders=AB)(dp:WO P)(hT:T.X6 (aw P))(x:W9 P X){own:Bool}{f:Ab}{args:List CA}{k:CA->Bool}(hk:d5t T X own f args k=AB):
 ∃r,k r=AB/\au P own f (CA.f9 args) r.to:=by
 obtain⟨fn,⟨func,c,hf,hb,iw,hc,cq,hn⟩,hk⟩:=c9p hT hk;obtain⟨hlen,t,r,hk⟩:=c3m hk;obtain⟨lv,t',h',mv',st',hk,r',g⟩:=Rw hm dp x (base:=0) (st:=⟨y4 (CA.f9 args) (fn.n-args.length),[],[]⟩) ⟨r,.nil,fun m hm _=>absurd hm (Nat.not_lt_zero m)⟩ hk;have key: ∀{lv:Lv},(∀i,lv≠ .exit i)->(IF t' h' fn.wn fun vs=>JE h' vs fun vs _=>IV vs (fun _=>e0p own k vs))=AB->
  (∀(E:BC) (Q:Lv->St->Prop),Q lv st'->ev (Ae P fn.A AO E) fn.ic Q ⟨y4 (CA.f9 args) (fn.n-args.length),[],[]⟩)-> ∃r,k r=AB/\au P own f (CA.f9 args) r.to:=by
  intro lv PY hk g;obtain⟨vs,hk,h1⟩:=c1t r'.ts r'.h hk;obtain⟨ws,h2,qt,hk,_,h3⟩:=b2g r'.h hk;obtain⟨h4,hk⟩:=Sk hk;have hp:au P AE f (CA.f9 args) (wc (CA.f9 ws)):=by
   refine b1p (n:=fn.n-args.length) hm dp hf hb iw fn.A hc cq (by rw[CA.Vp,hn];omega) ?_;rintro E Sg-rfl;refine g E _ ?_;have hq:yj (Ae P fn.A AO E) st' fn.wn fun vs=>wu (Ae P fn.A AO E) st'.h vs fun vs' _=>sd vs'=AB/\ab (wc vs') (wc (CA.f9 ws)):=
    h1 _ ⟨fn.A,AO,E,rfl⟩ st'.mv _ (h3 _ ⟨fn.A,AO,E,rfl⟩ _ ⟨h4,ab.refl _⟩)
   cases lv with
   |exit i=>exact absurd rfl (PY i)
   |normal=>exact hq
   |ret=>exact hq
  cases own with
  |true=>obtain⟨h5,hk⟩:=d3p hk;exact⟨_,hk,by rw[b0t];exact b4e h5 hp⟩
  |false=>exact⟨_,hk,by rw[b0t];exact hp⟩
 cases lv with
 |exit i=>exact absurd hk AA
 |normal=>exact key (fun i e=>by cases e) hk (fun E Q hQ=>g AO E Q (fun _=>rfl) hQ)
 |ret=>exact key (fun i e=>by cases e) hk (fun E Q hQ=>g AO E Q (fun _=>rfl) hQ)
theorem d0h (hm:P.follows .mixedOrders=AB)(dp:WO P)(hT:T.X6 (aw P))(x:W9 P X){f:Ab}{args:List CA}{h:CH}{hl:List ae}{k:List Nat->CA->CH->Bool}(rh:RH P h hl)(hk:d4o T X f args h k=AB):
 ∃pg v h' bu,k pg v h'=AB/\RH P h' bu/\ ∀K:List Nat->AV->List ae->Prop,K pg v.to bu->ay P f (CA.f9 args) hl K:=by
 obtain⟨fn,⟨func,c,hf,hb,iw,hc,cq,hn⟩,hk⟩:=c9p hT hk;obtain⟨hlen,t,r,hk⟩:=c3m hk;have hk:=rh.YB (k:=fun n0=>JC X n0 fn.A AB fn.ic (c1e fn.wn k) t h []) hk;obtain⟨lv,t',h',mv',st',hk,r',g⟩:=Rw hm dp x (base:=az hl) (st:=⟨y4 (CA.f9 args) (fn.n-args.length),hl,[]⟩) ⟨r,rh,fun m _ hm=>by simp at hm⟩ hk;have key: ∀{lv:Lv},(∀i,lv≠ .exit i)->(IF t' h' fn.wn fun vs=>k mv' (RF vs) h')=AB->
  (∀(E:BC) (Q:Lv->St->Prop),Q lv st'->ev (Ae P fn.A AO E) fn.ic Q ⟨y4 (CA.f9 args) (fn.n-args.length),hl,[]⟩)->
  ∃pg v h' bu,k pg v h'=AB/\RH P h' bu/\ ∀K:List Nat->AV->List ae->Prop,K pg v.to bu->ay P f (CA.f9 args) hl K:=by
  intro lv PY hk g;obtain⟨vs,hk,h1⟩:=c1t r'.ts r'.h hk;refine⟨mv',_,h',st'.h,hk,r'.h,fun K hK=> ?_⟩;refine b0s (n:=fn.n-args.length) hm dp hf hb iw fn.A hc cq (by rw[CA.Vp,hn];omega) ?_;rintro E Sg-rfl;refine g E _ ?_;have hq:yj (Ae P fn.A AO E) st' fn.wn fun vs=> ∃pg,(∀l,l<hl.length->l∈st'.mv->l∈pg)/\K pg (wc vs) st'.h:=
   h1 _ ⟨fn.A,AO,E,rfl⟩ st'.mv _ ⟨mv',fun l hlt aq=>r'.mv l (by rw[cv];exact hlt) aq,by rw[b0t] at hK;exact hK⟩
  cases lv with
  |exit i=>exact absurd rfl (PY i)
  |normal=>exact hq
  |ret=>exact hq
 cases lv with
 |exit i=>exact absurd hk AA
 |normal=>exact key (fun i e=>by cases e) hk (fun E Q hQ=>g AO E Q (fun _=>rfl) hQ)
 |ret=>exact key (fun i e=>by cases e) hk (fun E Q hQ=>g AO E Q (fun _=>rfl) hQ)
theorem b8g {l base:Nat}{t:TS}{h:CH}{mv:List Nat}{st:St}{k:List Nat->CA->CH->Bool}{lv:Lv}(hl:l<base)(r:SR P base t h mv st)(hk:b1n l k lv t h mv=AB):
 ∃pg v h' bu,k pg v h'=AB/\RH P h' bu/\ ∀K:List Nat->AV->List ae->Prop,K pg v.to bu->b5b l base K lv st:=by
 unfold b1n at hk;split at hk
 ·exact absurd hk AA
 ·rename_i e;have p0:l∉st.mv:=fun c=>by rw[Tb.2 (r.mv l hl c)] at e;cases e
  obtain⟨o,ao,h1,hR,hk⟩:=r.h.pp hk;cases o with
  |loop s tx ps A a b=>
   obtain⟨zk,h2,rfl⟩:=hR;cases s with
   |busy=>
    cases lv with
    |normal=>obtain⟨h',hk,hr⟩:=r.h.ww hk;exact⟨mv,_,h',_,hk,hr _ ⟨zk,h2,rfl⟩,fun K hK=>⟨p0,_,_,_,h1,mv,fun m hm aq=>r.mv m hm aq,hK⟩⟩
    |ret=>obtain⟨h',hk,hr⟩:=r.h.ww hk;exact⟨mv,_,h',_,hk,hr _ ⟨zk,h2,rfl⟩,fun K hK=>⟨p0,_,_,_,h1,mv,fun m hm aq=>r.mv m hm aq,hK⟩⟩
    |exit i=>obtain⟨h',hk,hr⟩:=r.h.ww hk;exact⟨mv,_,h',_,hk,hr _ ⟨zk,h2,rfl⟩,fun K hK=>⟨p0,_,_,_,h1,mv,fun m hm aq=>r.mv m hm aq,hK⟩⟩
   |_=>exact absurd hk AA
  |_=>exact absurd hk AA
theorem d8z (hm:P.follows .mixedOrders=AB)(dp:WO P)(x:W9 P X){l:Nat}{args:List CA}{h:CH}{hl:List ae}{k:List Nat->CA->CH->Bool}(rh:RH P h hl)(hk:g1p X l args h k=AB):
 ∃pg v h' bu,k pg v h'=AB/\RH P h' bu/\ ∀K:List Nat->AV->List ae->Prop,K pg v.to bu->lh P l (CA.f9 args) hl K:=by
 obtain⟨o,ao,h1,hR,hk⟩:=rh.pp hk;have hlt:l<hl.length:=by rw[cy] at h1;exact (AH.1 h1).1
 cases o with
 |loop s tx ps A a b=>
  obtain⟨zk,h2,rfl⟩:=hR;cases s with
  |ready=>
   obtain⟨vp,t,r,hk⟩:=d6x h2 hk;have hk:=rh.YB (k:=fun n0=>JC X n0 A AE a (a8p X n0 l A b k) t h []) hk;obtain⟨lv,t1,Sp,ye,st1,hk,r1,g1⟩:=Rw hm dp x (base:=az hl) (st:=⟨Iw ps (CA.f9 args) zk,hl,[]⟩) ⟨r,rh,fun m _ hm=>by simp at hm⟩ hk;cases lv with
   |normal=>
    simp only[a8p] at hk;split at hk
    ·exact absurd hk AA
    ·rename_i e;have p0:l∉st1.mv:=fun c=>by rw[Tb.2 (r1.mv l (by rw[cv];exact hlt) c)] at e;cases e
     obtain⟨o,ao,h3,hR,hk⟩:=r1.h.pp hk;cases o with
     |loop s' ts1 ps1 A1 a1 b1=>
      obtain⟨Rm,h4,rfl⟩:=hR;cases s' with
      |ready=>obtain⟨h5,hk,hr⟩:=r1.h.ww hk;obtain⟨lv2,t2,yr,qd,st2,hk,r2,g2⟩:=Rw hm dp x (base:=az hl) (st:=⟨st1.ts,b8 st1.h l (.loop .busy Rm ps1 _),st1.mv⟩) ⟨r1.ts,hr _ ⟨Rm,h4,rfl⟩,r1.mv⟩ hk;obtain⟨pg,v,h',bu,hk,nf,g3⟩:=b8g (by rw[cv];exact hlt) r2 hk;refine⟨pg,v,h',bu,hk,nf,fun K hK=> ?_⟩;refine Mr (A:=A) hm dp h1 (fun ca cb h=>h) (by rw[CA.Vp];exact vp) ?_;rintro ro E Sg rfl;refine g1 ro E _ (fun h=>by cases h) ⟨rfl,p0,_,_,_,h3,?_⟩;refine g2 ro E _ (fun h=>by cases h) ?_;have:=g3 K hK;rw[cv] at this;exact this
      |_=>exact absurd hk AA
     |_=>exact absurd hk AA
   |_=>exact absurd hk AA
  |_=>exact absurd hk AA
 |_=>exact absurd hk AA
theorem e3v:W9 P ZF where
 wr h:=absurd h AA
 call _ h:=absurd h AA
 X8 _ h:=absurd h AA
 loop _ _ _ h:=absurd h AA
theorem e0k (hm:P.follows .mixedOrders=AB)(dp:WO P)(hT:T.X6 (aw P))(x:W9 P X):W9 P (ZG T X) where
 wr h:=c9j hm dp hT x h
 call rh h:=d0h hm dp hT x rh h
 X8 rh h:=d8z hm dp x rh h
 loop:=by
  intro A base top c k t ts h hl mv GQ r rh Wl hk;obtain⟨lv,t1,h1,ye,st1,hk,r1,g1⟩:=Rw hm dp x (st:=⟨ts,hl,GQ⟩) (k:=d5z X A base top c k) ⟨r,rh,Wl⟩ hk;cases lv with
  |normal=>obtain⟨lv,t',vv,h',bu,mv',Gj,hk,q1,q2,q3,g⟩:=x.loop r1.ts r1.h r1.mv hk;refine⟨lv,t',vv,h',bu,mv',Gj,hk,q1,q2,q3,fun ro E Q hr hQ=> ?_⟩;obtain⟨m,hg⟩:=g ro E Q hr hQ;exact⟨m+1,g1 ro E _ hr hg⟩
  |exit i=>exact⟨_,t1,st1.ts,h1,st1.h,ye,st1.mv,hk,r1.ts,r1.h,r1.mv,fun ro E Q hr hQ=>⟨1,g1 ro E _ hr hQ⟩⟩
  |ret=>exact⟨_,t1,st1.ts,h1,st1.h,ye,st1.mv,hk,r1.ts,r1.h,r1.mv,fun ro E Q hr hQ=>⟨1,g1 ro E _ hr hQ⟩⟩
theorem e4i (hm:P.follows .mixedOrders=AB)(dp:WO P)(hT:T.X6 (aw P))(n:Nat):W9 P (YR T n):=by
 induction n with
 |zero=>exact e3v
 |succ n ih=>exact e0k hm dp hT ih
theorem c0g (hm:P.follows .mixedOrders=AB)(dp:WO P)(hT:T.X6 (aw P))(n:Nat){own:Bool}{f:Ab}{args:List CA}{k:CA->Bool}(hk:(YR T n).wr own f args k=AB):
 ∃r,k r=AB/\au P own f (CA.f9 args) r.to:=(e4i hm dp hT n).wr hk
end
noncomputable section
abbrev m1w:=Bool->Ab->List CA->Option ((CA->Bool)->Bool)
section
variable {P:An} {T:XT} {X:XS} {fx:m1w}
end
end
end Go.Vf
