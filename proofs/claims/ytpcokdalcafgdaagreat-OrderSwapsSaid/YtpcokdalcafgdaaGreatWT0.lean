/- The table, in parts. Conditions: none. -/
import Derived.Test.YtpcokdalcafgdaaGreatWMk
set_option maxHeartbeats 0
set_option maxRecDepth 100000
namespace Go.Proofs.Tryz.Dec
open Go Go.Vf
noncomputable section
variable {α β:Type}
def dg:Nat->Nat->List Nat->List Nat
 |0,_,r=>r
 |k+1,n,r=>(n % 256)::dg k (n/256) r
def bs:List Nat->List Nat
 |[]=>[]
 |n::l=>dg 64 n (bs l)
def rb (k:Nat->List Nat->β):List Nat->β
 |[]=>k 0 []
 |x::l=>k x l
def rle (k:Nat->List Nat->β):Nat->Nat->Nat->List Nat->β
 |0,n,_,l=>k n l
 |_+1,n,_,[]=>k n []
 |c+1,n,p,x::l=>rle k c (n+x*p) (p*256) l
def rn (k:Nat->List Nat->β)(l:List Nat):β:=
 rb (fun x l=>(match Nat.blt x 250 with|true=>k x l|false=>(match Nat.beq x 250 with|true=>rle k 2 0 1 l|false=>rb (fun c l=>rle k c 0 1 l) l))) l
def rlc (f:(α->List Nat->β)->List Nat->β)(k:List α->List Nat->β):Nat->List Nat->β
 |0,l=>k [] l
 |_+1,[]=>k [] []
 |n+1,x::l=>f (fun x l=>rlc f (fun xs l=>k (x::xs) l) n l) (x::l)
def rl (f:(α->List Nat->β)->List Nat->β)(k:List α->List Nat->β)(l:List Nat):β:=rn (fun n l=>rlc f k n l) l
def ro (f:(α->List Nat->β)->List Nat->β)(k:Option α->List Nat->β)(l:List Nat):β:=
 rb (fun x l=>(match Nat.beq x 0 with|true=>k none l|false=>f (fun y l=>k (some y) l) l)) l
def nb:Nat->Bool
 |0=>false
 |_+1=>true
def rt (k:Bool->List Nat->β)(l:List Nat):β:=rb (fun x l=>k (nb x) l) l
def nk:Nat->IntKind
 |0=> .i8
 |1=> .i16
 |2=> .i32
 |3=> .i64
 |4=> .u8
 |5=> .u16
 |6=> .u32
 |_=> .u64
def nop (n:Nat):BinOp:=([.add,.sub,.mul,.quo,.rem,.and,.or,.xor,.shl,.shr,.andNot,.eql,.neq,.lss,.leq,.gtr]:List BinOp).getD n .geq
def nun:Nat->UnOp
 |0=> .neg
 |1=> .xor
 |2=> .not
 |_=> .plus
def nmd:Nat->Vf.Mode
 |0=> .borrow
 |1=> .share
 |2=> .raw
 |3=> .data
 |_=> .fresh
def rk (k:IntKind->List Nat->β)(l:List Nat):β:=rb (fun x l=>k (nk x) l) l
def di (k:IntKind)(n:Nat):DV:= .int k (.l (.ofNat n))
def rd (k:DV->List Nat->β)(l:List Nat):β:=rb (fun x l=>
 (match Nat.blt x 200 with|true=>k (di .i64 x) l|false=>(match Nat.beq x 250 with|true=>k .nil l|false=>(match Nat.blt x 240 with|true=>k (di .u8 (x-200)) l|false=>(match Nat.blt x 248 with|true=>rn (fun n l=>k (di (nk (x-240)) n) l) l|false=>(match Nat.beq x 248 with|true=>rn (fun n l=>k (.int .i64 (.l (.negSucc n))) l) l|false=>(match Nat.beq x 249 with|true=>k (.str []) l|false=>(match Nat.beq x 251 with|true=>k (.bool false) l|false=>(match Nat.beq x 252 with|true=>k (.bool true) l|false=>(match Nat.beq x 253 with|true=>k (.raw .nilFunc) l|false=>(match Nat.beq x 254 with|true=>k (.raw (.pointer none)) l|false=>k (.raw (.map none)) l))))))))))) l
def rx (k:a0o->List Nat->β)(l:List Nat):β:=rb (fun x l=>
 (match Nat.blt x 192 with|true=>k (.t x) l|false=>(match Nat.blt 199 x with|true=>k (.c (.d (di .i64 (x-200)))) l|false=>(match Nat.beq x 192 with|true=>rn (fun n l=>k (.t n) l) l|false=>(match Nat.beq x 193 with|true=>rd (fun d l=>k (.c (.d d)) l) l|false=>(match Nat.beq x 194 with|true=>k (.c (.d .nil)) l|false=>(match Nat.blt x 197 with|true=>k (.c (.d (.bool (nb (x-195))))) l|false=>rn (fun n l=>k (.c (.fn n [] [])) l) l))))))) l
def rlu (k:List UInt8->List Nat->β):Nat->List Nat->β
 |0,l=>k [] l
 |_+1,[]=>k [] []
 |n+1,x::l=>rn (fun a l=>rn (fun c l=>rlu (fun xs l=>k (List.replicate c (UInt8.ofNat a)++xs) l) n l) l) (x::l)
def g4z (k:IOp->List Nat->β)(x:Nat)(l:List Nat):β:=
 (match Nat.beq x 150 with|true=>rx (fun x l=>k (.nilchk x) l) l|false=>(match Nat.beq x 151 with|true=>rn (fun n l=>rx (fun x l=>ro rx (fun a l=>ro rx (fun b l=>ro rx (fun c l=>k (.slice n x a b c) l) l) l) l) l) l|false=>(match Nat.beq x 152 with|true=>rn (fun n l=>rl rx (fun a l=>rl rx (fun b l=>k (.mkfn n a b) l) l) l) l|false=>(match Nat.beq x 153 with|true=>rn (fun n l=>rl rd (fun z l=>rn (fun b l=>rx (fun x l=>k (.mkslice n z b x) l) l) l) l) l|false=>(match Nat.beq x 154 with|true=>rn (fun n l=>rn (fun m l=>rx (fun x l=>rx (fun y l=>k (.iaddrA n m x y) l) l) l) l) l|false=>(match Nat.beq x 155 with|true=>rk (fun a l=>rx (fun x l=>k (.conv a x) l) l) l|false=>(match Nat.beq x 156 with|true=>rt (fun w l=>rl rk (fun a l=>rt (fun o l=>rx (fun x l=>rx (fun y l=>k (.lookup w a o x y) l) l) l) l) l) l|false=>(match Nat.beq x 157 with|true=>rn (fun n l=>rx (fun x l=>rx (fun y l=>k (.copy n x y) l) l) l) l|false=>(match Nat.beq x 158 with|true=>rt (fun w l=>rl rk (fun a l=>k (.mkmap w a) l) l) l|false=>(match Nat.beq x 159 with|true=>rt (fun w l=>rl rk (fun a l=>rx (fun x l=>rx (fun y l=>rx (fun z l=>k (.mapupd w a x y z) l) l) l) l) l) l|false=>(match Nat.beq x 160 with|true=>rt (fun w l=>rl rk (fun a l=>rx (fun x l=>rx (fun y l=>k (.aeq w a x y) l) l) l) l) l|false=>(match Nat.beq x 161 with|true=>rn (fun n l=>ro rn (fun a l=>rx (fun x l=>k (.field n a x) l) l) l) l|false=>(match Nat.beq x 162 with|true=>rn (fun n l=>rx (fun x l=>ro rx (fun a l=>ro rx (fun b l=>k (.slarr n x a b) l) l) l) l) l|false=>(match Nat.beq x 163 with|true=>rn (fun n l=>k (.bnew n) l) l|false=>(match Nat.beq x 164 with|true=>rx (fun x l=>k (.lenm x) l) l|false=>(match Nat.beq x 165 with|true=>rn (fun n l=>rx (fun x l=>rx (fun y l=>k (.appendIn n x y) l) l) l) l|false=>(match Nat.beq x 166 with|true=>rn (fun n l=>rx (fun x l=>ro rx (fun a l=>ro rx (fun b l=>k (.slicex n x a b) l) l) l) l) l|false=>(match Nat.beq x 167 with|true=>rn (fun n l=>rlu (fun a l=>rx (fun x l=>k (.idxs a x) l) l) n l) l|false=>(match Nat.blt x 170 with|true=>rn (fun n l=>rn (fun m l=>rx (fun a l=>rx (fun b l=>k (.append n m a b (nb (x-168))) l) l) l) l) l|false=>(match Nat.beq x 170 with|true=>rn (fun n l=>rx (fun x l=>ro rx (fun a l=>ro rx (fun b l=>ro rx (fun c l=>k (.slchk n x a b c) l) l) l) l) l) l|false=>(match Nat.beq x 171 with|true=>rn (fun n l=>rl rd (fun z l=>rx (fun x l=>k (.clear n z x) l) l) l) l|false=>(match Nat.beq x 172 with|true=>rt (fun w l=>rx (fun x l=>k (.isnil w x) l) l) l|false=>(match Nat.beq x 173 with|true=>rx (fun x l=>k (.cap x) l) l|false=>(match Nat.beq x 174 with|true=>rx (fun x l=>rx (fun y l=>k (.ovl x y) l) l) l|false=>(match Nat.beq x 175 with|true=>rn (fun n l=>k (.newnil n) l) l|false=>(match Nat.beq x 177 with|true=>rx (fun x l=>rx (fun y l=>k (.min x y) l) l) l|false=>(match Nat.beq x 178 with|true=>rb (fun b l=>rx (fun x l=>rx (fun y l=>k (.binb (nop b) x y) l) l) l) l|false=>(match Nat.beq x 179 with|true=>rb (fun m l=>rx (fun f l=>rl rx (fun a l=>k (.call f a (nmd m)) l) l) l) l|false=>(match Nat.beq x 180 with|true=>rb (fun m l=>rx (fun y l=>k (.un (nun m) y) l) l) l|false=>k .bad l
)))))))))))))))))))))))))))))def rop (k:IOp->List Nat->β) (x:Nat) (l:List Nat):β:=
  (match Nat.blt x 128 with|true=>k (.mv (.t x)) l|false=>(match Nat.blt 191 x with|true=>rx (fun a l=>rx (fun b l=>k (.bin (nop (x-192)) a b) l) l) l|false=>(match Nat.beq x 128 with|true=>rx (fun x l=>k (.mv x) l) l|false=>(match Nat.beq x 129 with|true=>rx (fun x l=>k (.load none x) l) l|false=>(match Nat.beq x 130 with|true=>rn (fun n l=>rx (fun x l=>k (.load (some n) x) l) l) l|false=>(match Nat.beq x 131 with|true=>rn (fun n l=>rx (fun x l=>k (.faddr n x) l) l) l|false=>(match Nat.beq x 132 with|true=>rn (fun n l=>rx (fun a l=>rx (fun b l=>k (.iaddr n a b) l) l) l) l|false=>(match Nat.blt x 138 with|true=>rn (fun n l=>rl rx (fun a l=>k (.call (.c (.fn n [] [])) a (nmd (x-133))) l) l) l|false=>(match Nat.beq x 138 with|true=>rx (fun x l=>k (.len x) l) l|false=>(match Nat.beq x 139 with|true=>rn (fun n l=>rx (fun a l=>rx (fun b l=>k (.store n a b) l) l) l) l|false=>(match Nat.beq x 140 with|true=>rx (fun a l=>rx (fun b l=>rx (fun c l=>k (.pick a b c) l) l) l) l|false=>(match Nat.beq x 141 with|true=>rx (fun a l=>rn (fun n l=>k (.extract a n) l) l) l|false=>(match Nat.beq x 142 with|true=>rx (fun a l=>k (.un .not a) l) l|false=>(match Nat.beq x 143 with|true=>rx (fun a l=>k (.box a) l) l|false=>(match Nat.beq x 144 with|true=>rl rd (fun z l=>k (.alloc z) l) l|false=>(match Nat.blt x 147 with|true=>rn (fun n l=>rn (fun m l=>rl rd (fun z l=>rl (fun k l=>rn (fun i l=>rx (fun a l=>k (i,a) l) l) l) (fun p l=>k (.bslice n m z p (nb (x-145))) l) l) l) l) l|false=>(match Nat.blt x 149 with|true=>rn (fun n l=>rn (fun m l=>rx (fun a l=>rx (fun b l=>k (.appendN n m a b (nb (x-147))) l) l) l) l) l|false=>(match Nat.beq x 149 with|true=>rl rd (fun z l=>rl (fun k l=>rn (fun i l=>rn (fun j l=>rx (fun a l=>k (i,j,a) l) l) l) l) (fun p l=>k (.build z p) l) l) l|false=>g4z k x l
))))))))))))))))))def rpg (k:Nat->a2b->List Nat->β) (d:Nat) (t:Option Nat) (x:Nat) (l:List Nat):β:=
  (match Nat.beq x 253 with|true=>rn (fun n l=>rb (fun x l=>rop (fun o l=>k d ⟨t,some (n,false),o⟩ l) x l) l) l|false=>(match Nat.beq x 254 with|true=>rn (fun n l=>rb (fun x l=>rop (fun o l=>k d ⟨t,some (n,true),o⟩ l) x l) l) l|false=>rop (fun o l=>k d ⟨t,none,o⟩ l) x l))
def mx (n d:Nat):Nat:=(match Nat.blt n d with|true=>d|false=>n)
def rpp (k:Nat->a2b->List Nat->β)(d:Nat)(l:List Nat):β:=rb (fun x l=>
 (match Nat.beq x 255 with|true=>rn (fun n l=>rb (fun x l=>rpg k (mx n d) (some n) x l) l) l|false=>(match Nat.beq x 252 with|true=>rb (fun x l=>rpg k d none x l) l|false=>rpg k (d+1) (some (d+1)) x l))) l
def rps (k:Nat->List a2b->List Nat->β):Nat->Nat->List Nat->β
 |0,d,l=>k d [] l
 |_+1,d,[]=>k d [] []
 |n+1,d,x::l=>rpp (fun d x l=>rps (fun d xs l=>k d (x::xs) l) n d l) d (x::l)
def rdp (k:Nat->a0u->List Nat->β)(d:Nat)(l:List Nat):β:=rpp (fun d o l=>rb (fun i l=>
 (match Nat.blt i 128 with|true=>k d ⟨o,i,0,[],[],false,false⟩ l|false=>rn (fun s l=>rl rn (fun a l=>rl rn (fun b l=>rb (fun f l=>k d ⟨o,i-128,s,a,b,nb (f % 2),nb (f/2)⟩ l) l) l) l) l)) l) d l
def rds (k:Nat->List a0u->List Nat->β):Nat->Nat->List Nat->β
 |0,d,l=>k d [] l
 |_+1,d,[]=>k d [] []
 |n+1,d,x::l=>rdp (fun d x l=>rds (fun d xs l=>k d (x::xs) l) n d l) d (x::l)
def rc (k:Nat->a2d->List Nat->β):Nat->Nat->List Nat->β
 |0,d,l=>k d .skip l
 |_+1,d,[]=>k d .skip []
 |f+1,d,x::l=>
  (match Nat.blt 143 x with|true=>rps (fun d o l=>k d (.ops o) l) (x-144) d l|false=>(match Nat.blt 31 x with|true=>rps (fun d o l=>rc (fun d c l=>k d (.seq (.ops o) c) l) f d l) (x-32) d l|false=>(match Nat.beq x 0 with|true=>k d .skip l|false=>(match Nat.beq x 11 with|true=>k d .ret l|false=>(match Nat.beq x 1 with|true=>rn (fun n l=>rps (fun d o l=>k d (.ops o) l) n d l) l|false=>(match Nat.beq x 2 with|true=>rn (fun n l=>rn (fun m l=>rds (fun d o l=>k d (.draw n o) l) m d l) l) l|false=>(match Nat.beq x 3 with|true=>rc (fun d a l=>rc (fun d b l=>k d (.seq a b) l) f d l) f d l|false=>(match Nat.beq x 4 with|true=>rx (fun c l=>rc (fun d a l=>rc (fun d b l=>k d (.cond c a b) l) f d l) f d l) l|false=>(match Nat.beq x 5 with|true=>rn (fun n l=>rc (fun d a l=>k d (.block n a) l) f d l) l|false=>(match Nat.beq x 6 with|true=>rc (fun d a l=>k d (.loop a) l) f d l|false=>(match Nat.beq x 7 with|true=>rx (fun g l=>rl rn (fun p l=>rc (fun d a l=>rc (fun d b l=>k d (.range g p a b) l) f d l) f d l) l) l|false=>(match Nat.beq x 8 with|true=>rn (fun n l=>k d (.exit n) l) l|false=>(match Nat.beq x 9 with|true=>rc (fun d a l=>k d (.scope a) l) f d l|false=>rn (fun n l=>k d (.label n) l) l)))))))))))))
def rir (k:c7e->List Nat->β)(l:List Nat):β:=rb (fun x l=>rn (fun n l=>(match Nat.beq x 0 with|true=>k (.t n) l|false=>ro rn (fun a l=>k (.c n a) l) l)) l) l
def dx (h:List Nat):XFn:=
 rl (fun k l=>rn (fun a l=>rn (fun b l=>rn (fun c l=>k (a,b,c) l) l) l) l) (fun o l=>rn (fun n l=>rl rir (fun r l=>rc (fun _ c _=>⟨⟨o,[]⟩,n,r,c⟩) 100 0 l) l) l) (bs h)
end
end Go.Proofs.Tryz.Dec
namespace Go.Proofs.Tryz.Run
open Go Go.Vf
abbrev Qx (l:List Nat):={x:XFn//x=Dec.dx l}
noncomputable section
def q13:Qx [0x1021601021501021401021301051201021101011001010f01010e01010d01020c01070b00000a010109000708000d0600010501010401010300010201010117,0x268d2826ff270112850127ff272502ff2401ff01218d00218d2321ff22012d86cb03ca02c901c80004000104019122ff27c38000ff21000001f8004417004117,0x12850736ff273408ff3307ff01308d00308d3230ffc8ca310325860131ff272f06ff2e05ff012b8d002b8d2d2bff2c011486012cff272a04ff2903ff01268d00,0x1c90004000104019144fd0544fd4342c4408cc841cc40fd0640fd3f3ec43c8cce3dcc3cfd033cfd3bc83acc043c03390aff3809ff01358d00358d3735ff3601,0xff21550454c4528cd153cc52fd0952fd5150c44e8cc84fcc4efd0a4efd4d4cc44a8cc84bcc4afd084afd4948c4448c478e44fd464502178544fdca03c902ca,0x1128501030400010502060000865c0159000200fafafafa05020591055b05820258058259ff04c85a058403015aff01c8570584000157ff0d000203000bc380,0xff01618d00618d6361ff62012d86cb03c902ca01c80004000104019162ff270c600cff0b5f0bff0a01568d0900568d085e56ff0103040001050206070000875d,0xfafafafa05020591056f0582026c05826dff04c86e0584030d6eff01c86b058400016bff0c0002036904ff01668d00668d6766ffc201128567ff25650eff640d,0x2c901c8000300010301910176ff270b7406ff0a016a8d09006a8d08726aff01030400010502060700008771011486010304000105020600008670016d000200,0x83800fff01808d00808d828080ff00f8c1810224860181ff277f0aff017b8d007b8d7d7bffcb7c022486017cff267a08ff01758d00758d7875ff7776022886ca,0x9590ff2a8e8014ff8d8013ff018a8d008a8d8c808affccc88b032586018bff27898012ff888011ff01858d00858d878085ffc8cc860325860186ff27848010ff,0x4c903c902c901ca0006000106019128958017ff948016ff938015ff028f8d018f8d008f8d92808fff9101198690000100fafafafa050105910000fafafafa05,0x18058bfc00fafafafa059018ff9a9796032e86990198000200c802020291c901010100c802950000c80295cd05cc04cb03ca02c901c800060001060191c905c9,0x11e86a3010201fafafa0395c800010001010191a3ff28a1801affa08019ff019c8d009c8d9f809cff9e011c869d000100fafafafa050105911805829dff289b,0x911d0582acff2aaa1d058bfc00fafafafa05901dffa9c2c2032e86a8000100c802010291cb01010100c8029525a7801cffa6801bff01a28d00a28da580a2ffa4,0x8c04ceb5cbb4fe030bb4fe02b38001c8b2cb000c47000203b18020ffb0801fffaf801eff02ab8d01ab8d00ab8dae80abffad011986ac000100fafafafa050105,0xc3c08011c3c2c0c0c08c10ccc1c0cbc0fe0f08c0fe0ebf800dc3bebc8c0ccabdcbbcfe0b06bcfe0abb8009c3bab88c08cfb9cbb8fe0704b8fe06b78005c3b6b4,0x801dc3cec0ccc08c1ccbcdc0cbccfe1b12ccfe1acbc08019c3cac0c8c08c18cbc9c0cbc8fe1710c8fe16c7c08015c3c6c0c4c08c14cbc5c0cbc4fe130ac4fe12,0xc3dac0d8c08c28cdd9c0cbd8fe271ad8fe26d7c08025c3d6c0d4c08c24ccd5c0cbd4fe2317d4fe22d3c08021c3d2c0d0c08c20cbd1c0cbd0fe1f14d0fe1ecfc0,0xe6c0cbe4fe34e5c08ae4fe331fe4fe32e3c08031c3e2c0e0c08c30c8e1c0cbe0fe2f20e0fe2edfc0802dc3dec0dcc08c2cccddc0cbdcfe2b1cdcfe2adbc08029,0x582eefe3ff0c00582eefe3ec8efc00584eefe3d1eeefe3cedc0803bc3ecc0e9c08c3ac9ebc0cbe9fe39eac08ae9fe381ee9fe37e8c08036c3e7c0e4c08c35c8,0x10402050806090c0a0d100e111412151816191c1a1d201e212422252826292c2a2d302e313532363a373b3d3e3c403f410000c1f2c0f1c0022f85eefe401d,0x1a1d201e212422252826292c2a2d302e313532363a373b3c414243440000c4001185f5fe43f4c08042c3f3c0eec08c01383933342f2b27231f1b17130f0b0703,0xb46f7c08000ff45c3f6c0f5c08c013d3e403f383933342f2b27231f1b17130f0b070300010402050806090c0a0d100e111412151816191c]:=⟨_,by cbv⟩
def x13:XFn:=q13.1
def q17:Qx [0x17ff27c38000ff210000018a00390b00300b00270b00220b001c0b00160b000d0b01070a01010901010801010701010601010501010400010301010201010111,0xff011b8d001b8d1d1bff1c012d86cb03c902ca01c8000400010401911cff271a02ff1901ff01168d00168d1816ff17012d86cb03ca02c901c800040001040191,0x8d2c2affc92b022486032bff272908ff2807ff01258d00258d2725ff260114860326ff272406ff2305ff01208d00208d2220ff210112850321ff271f04ff1e03,0xfff380eff370dff02348d01348d00348d3634ff350119860335ff29330cff320bff012f8d002f8d312fffc8ca300325860130ff272e0aff2d09ff012a8d002a,0x9945ff2d4313ff4212ff013f8d003f8d413fff40011c861040ff273e11ff3d10ff013a8d003a8d3c3aff3b012d86ca03c802c901cb000400010401913bff2739,0xca0101cfc101000200000000c80595ca0104cbc101000200000000c80595c90104cbc101000200000000c80595cbc101000100000000c80595cb200000f90303,0x8cd152cb51fe0551fe50c84fcb065c4e15ff4d14ff01448d00448d4c44ff4b011e864a010145010002fafafa039549034802470146000400000000c805040591,0x962fe61c3605e8cc85fcb5efe0a5efe5dc35c598c5b5a02178559feca03ca02cc01c90004000104019159fe0759fe58c357558cc856cb55fe0855fe54c35351,0x400010401916dfe0f6dfe0d6dfe6cc36b678c6a696803358567fecb03c902c801ca0004000104019167fe0c67fe0b67fe66c365628c6463021b8562fe0162fe,0xc37a788cc879cb78fe1378fe77c376738c757402178573fec803ca02ca01c80004000104019173fe0e73fe72c3716d8c706f6e0335856dfeca03cb02c901c800,0xffc388858c878602178585fec902c801ca0003000103019185fe1485fe8480c383818cc882cb81fe1581fe8080c37f7c8c7e7d021b857cfe017cfe127cfe7b,0xb8980]:=⟨_,by cbv⟩
def x17:XFn:=q17.1
def q18:Qx [0xff05230c04c80bcc0522030a05ff0904048bfcfafafafa049004ff01068d00068d0806ff070136860007ff28c880c88002ff2203000200021000010401010102,0xbc88003ff0f02ff0e01378504048224000b0d03ffc88002]:=⟨_,by cbv⟩
def x18:XFn:=q18.1
def q20:Qx [0xb0803ff0702ff01068d00068d05040239860038c5010001fd019527c880c28002ff2203000200020901020101]:=⟨_,by cbv⟩
def x20:XFn:=q20.1
def q23:Qx [0x11ff090002030105030008000e040d0bcd0c8a00052403060005c88005ff2103000bc38004ff210a040907cc088a01068a0006ff2503c38004ff210400011a00,0xbc48004ff211005ffc90fc010ff050fff93000bc38004ff211904081814cc07178103138114ff06161501840505040115ff021211018401050000]:=⟨_,by cbv⟩
def x23:XFn:=q23.1
def q25:Qx [0x5ff01118d00118d1311ff120136860012ff28c880c280c28002ff23040003000200035a01041903041700011303071203061202010a03050801010501010109,0x4031b1ccd21060005c8801a8a190138860504822403c28006ff21000b1804ffc28003ffc28002ff04241704c816cc0422031504ff1405048bfcfafafafa0490,0x3c870622271cffc91cc0922606ff25211002942400010000020102912301012201000200000295080706972008ff1e07ff1f811c1a01841c250105030008001d,0xff300b048bfcfafafafa04900bff050482252f0a028bfc000002900aff2e02822c2a0284240305030208002d04032b2ccd21060205c8802a8a0623033dc52802,0x50e3dff030a00833bff0105008339ff0a010203370eff35220505030408003604033435cd21060405c880338a32813101830500832503c8800dff00f8c1800c,0x8090001893f0f048bfc073e38024088063d3c3a03418808fafafafa04900fff0000000100843b813cff0000000100823902823aff00000001008005048238ff,0x35c092004b0dff4a0cff490b048bfc0e100f048296480447c4448c4645cd44fd0c44fd1044fd43c842cd0c274110ff400137850f048223010605040302010007,0x50000854d05048bfc0002030103000084504e0801940002010000834f0001000101019102000000800b04824dff020d0200000081034eff0700024c35ffc9,0xbc88004ff5903ff5802ff03570002a1565302408655815401830500830504822a522cffc92cc092065103ff0102030104]:=⟨_,by cbv⟩
def x25:XFn:=q25.1
def q27:Qx [0x2030105030008000e040d0bcd0c8a00052403060005c88005ff2103000bc38004ff210a040907cc088a01068a0006ff2503c38004ff210400011b00080601,0x93000bc38004ff211a0409198e010504060100020703080000881814022f85071705820313058214ff06161505840505040115ff02121105840105000011ff0a,0xbc48004ff211005ffc90fc010ff050fff]:=⟨_,by cbv⟩
def x27:XFn:=q27.1
def q28:Qx [0xcc0511ff230005030f05ff0e04048bfcfafafafa049004ff010b8d000b8d0d0bff0c013686000cff28c880c28002ff2203000200022f00010a01020901010103,0x9007fffafafafa049006ff04048225000bcd8003ffc28002ff2214041914ffcd18cf178a168115008304008315ff260b1303ffc28002ff052310041210ffc811,0x2109048bfcfafafafa049009ff201f024086080404821fff2502051e08ff911e011d070105001c0143981b0282040083230300f8c107018bfc1a06048bfc0001,0x8003ff2e02ff2d8106028324002c07018bfc2b06048bfc0a090482942a0429c4268c2827cd26fd078126fd0a26fd25c824cd078127230aff2201378509048223,0xbc8]:=⟨_,by cbv⟩
def x28:XFn:=q28.1
def q30:Qx [0x203000b1103ffc28002ff04231004c80fcc04220e04ff0d0145850103820dff230309c880c280008f2303000200024802021402070d01010901000400010105,0x386fa019006ff0000000285fa019005ff02000001841501fb0101990001a312ff0200000183148a0200030201000401821381020000018101008313ff0904,0x1bcd21060005c880198a18810101832403000a031707ff05060200469822010503020100070406080004881606018bfc0006000503010104871205018bfc0000,0x200184230305030208002304032122cd21060205c880208a1f014786090582241e09058bfc00000000c8059009ff1d05821b190584240105030008001c04031a,0x3781010083358a05812633012d02b33281310483302f05840b2e8101018307280003082c04cbc12bcc2a81290083282705840b26810101832703250bff248122,0x44014302b30c0793420cff40220505030408004104033f40cd21060405c8803e8a3d8101008324033c1bffc91bc0923b22ffc922c0920000083a043936cb388a,0xbc88003ff4702ff0581234640ffc940c092]:=⟨_,by cbv⟩
def x30:XFn:=q30.1
def q36:Qx [0xff230005030c07ff0b06048bfcfafafafa049006ff01088d00088d0a08ff090136860009ff28c880c28004ff22050004000229010c06010b0600070401010104,0xffc28004ff2211041a11ff198e1816c8034e85170001000101019101ca15c1148a138112018306008312ff2a0b1005ffc28004ff07230d040f0dffc80ecc070e,0x2120018422ff051f8120ff021c02821dff02000000800604821bff0ac924c0090124ff060121ff041e0183030600831eff010600831cff10000203000bcb8005,0xb0fc88005ff0e2804ff0d270002a101090304060507010a08020b000c00008c261b02408600090304060507010a08020a00008b25231d03418608228123ff07]:=⟨_,by cbv⟩
def x36:XFn:=q36.1
def q37:Qx [0xff230005030e09ff0d08048bfcfafafafa049008ff010a8d000a8d0c0aff0b013686000bff28c880c28006ff2207000600022601060601050600080401010104,0x6ff2213041d13ff1c8e1b18c8034e851a0119000200010201910201c917c1168a158114018308008314ff2b0b1207ffc28006ff09230f04110fffc810cc0910,0x6000086231e024086000104030204000085222120034186021f028220ff02000000800804821eff0402030121ff010800831fff0a000203000bcb8007ffc280,0xb09c88007ff082506ff07240002a101010403020500]:=⟨_,by cbv⟩
def x37:XFn:=q37.1
def q40:Qx [0xcc070eff230005030c07ff0b06048bfcfafafafa049006ff01088d00088d0a08ff090136860009ff28c880c28004ff2205000400021b01020600030401010103,0x190002a118170240860106048226000bcc8005ffc28004ff2211041611ff158e1413024f850112028206008312ff260b1005ffc28004ff07230d040f0dffc80e,0xbc88005ff1a04ff]:=⟨_,by cbv⟩
def x40:XFn:=q40.1
def q45:Qx [0x6028bfc00c8029006ff0000c802950bff230105030008000804d807cd0507ff2203060005c8802103c28021c380c28002ff2203000200022401030903030802,0x282049500c91a018bfc060183921904c318128c1715cb12feca16c412fe0512feca14c412feca13c312fe0512fe11100dcbca0fc4cc0ec305d00cc3052e030b,0x100fafafafa0501059121201f032e860400ca03ca02ca01ca00040001040191270a05ffc909c00aff0509ff931e04ff1d1b1002941c000100c80201029106,0xbc48003ff2302ff22]:=⟨_,by cbv⟩
def x45:XFn:=q45.1
def q46:Qx [0xfafafafa059007ff0b01010901000200fafafafa05950ac20801940108c20801940008ff2700fafafafa059006ff2105010601011801050203030103010103,0xd8d0000000186130dff0102030401000500018512c80f0e045186041108000101990000000100800705820eff03108a020001020fff0c0102030c07058bfc,0x705822201070605040302010009080a0b00018b1516018bfc000000018a070483000604030201000507080001891407058bfc0200000188010d8d0000000187,0xb1706058bfc]:=⟨_,by cbv⟩
def x46:XFn:=q46.1
def q47:Qx [0xcfd0301830cfd0d810cfd0201830cfd0b0a8e09070217850881030083068102008306ff4603c380018f008f02ff2304000150001a06001301000b0100040104,0x8a1cfd1d811cfd0203831cfd1b1ac4148c198e14fd181602528514fd178114fd03028314fd158114fd02028314fd1312c40c8c118e0cfd100e0217850cfd0f81,0x5ff2103000bc38004ff212b042ac4258c2927cc25fd288125fd03048325fd268125fd02048325fd2423c41c8c221fcc1cfd218a1cfd20811cfd0303831cfd1e,0x37ff033534028436ff01338134ff08053bff0603038339ff020535ff0002038333ff1d00020301050300080030042f2ccd2e8a2d81020383052503060005c880,0x418140fd42ff160540fd49ff1403038340fd47ff100540fd43ff0e02038340fd0d3f0c3e38cc0b3d810a3c0083093b3a02840739813aff05378138ff04360083,0xd19131a00009a4c4602178540fd194b8140fd184a018340fd174948028440fd15478140fd48ff13458140fd46ff1244018340fd45ff114342028440fd44ff0f,0xbc48004ff213205ffc931c032ff0531ff93000bc38004ff214f041c4ec4408c1b4d8e40fd011416151718060807090a00020103040b050c0e100f1112]:=⟨_,by cbv⟩
def x47:XFn:=q47.1
def q53:Qx [0x13120217850efe020efe11810efe1001830efec80f05840efe000efe0dc30c098cc90bcb09fe0a8a09fe0009fe08c807cb0130c38006ff2106000116000d0101,0xb1506ffc3140e8c]:=⟨_,by cbv⟩
def x53:XFn:=q53.1
def q54:Qx [0x58400000c000203000bcf8003ff0b02048bfc020482230a04c809cb088a0008ff2303c880fafafafa049002ff22030004010201023502040c03040a01010703,0x8bfc0a15010214020002fafafafa0495081301010f010002fafa029514ff07128113ff030e810fff090015ff0611018305c8100584040010ff020d008301c80c,0x1c05058bfc00fafafafa059005ff1b058219170584240105030008001a04031819cd21060005c880178a00230301090807060504030201000a0b00008b160204,0x94280001fa0101019106268102038397000b2503ff2402048bfc07020482242304c822cc0722032107ff2006ff011d8d001d8d1f1dff1e0157860505821eff27,0x48bfc02048223000bca8003ff3302048bfc020482233204318e302d025887002f0159982e02820200830026032c19ffc919c0922a2b018bfc02038329271801,0xbc88003ff3402]:=⟨_,by cbv⟩
def x54:XFn:=q54.1
def q55:Qx [0x920e02ff0d0cc00402940b04ff0a8108060184230105030008000904030708cd21060005c880068a0501388601048205ff2403c880008f220200011101010101,0xb1002ff02220f08ffc908c0]:=⟨_,by cbv⟩
def x55:XFn:=q55.1
def q56:Qx [0x28324031905ff1804ff030303030303030303030303030d019e030402019e241703ff160800010199158a148113008301008313ff26c280008f220200017600,0x83242408ff230800010199228a2181070383252007058bfc00fafafafa059007ff1f05821d1b0584240105030008001e04031c1dcd21060005c8801b8a1a8101,0xd952d810a0083252c0a028bfc2a09fffa0002900aff2b02822826028428260305030208002904032728cd21060205c880268a25810703,0x813331018433250505030408003404033233cd21060405c880318a30810a018324032f0b0d8bfc000000000000000000000000000d900bff2e01000100000000,0x2900eff450282444202844300f8c1c10d4181070283280005083e40018bfc3a3f010c9a0b01833d813c3b01840d080c283904c838d00d2203370dff350cff36,0x4f030402019ffc5200f8c1c151a4040e028204964e044d8e10224c10ff4b0fff01478d00478d4a47ff494801030402019c0e02820448ff2803460e028bfc00c8,0xff5d5c01030303030303030303030303030d019c0b0d82055cff285a33ffc933c0925759018bfc5458010c9a0b0183565500030402019c0e0282040c97005350,0x68018469810a00830398676665030303030303030303030303030d019ffc110b0d8205246411ff63a405236204618e1222036012ff5f11ff015b8d005b8d5e5b,0xb7502ff0322741dffc91dc0927328ffc928c0927172018bfc706f018411090895006d6e018bfc6a680184c96cc06b816a]:=⟨_,by cbv⟩
def x56:XFn:=q56.1
def q57:Qx [0x4c80dcc0722030c07ff0b06048bfcfafafafa049006ff01088d00088d0a08ff090136860109ff28c880c28004ff008f02ff2305000400021402030401010102,0xbc88005ff1304ff12011102b3060482108102008326000b0f05ffc28004ff07230e]:=⟨_,by cbv⟩
def x57:XFn:=q57.1
def q60:Qx [0xc0b08c807055c87010a015d8509079b040400970604ff058a0005ff23000e02060100040102]:=⟨_,by cbv⟩
def x60:XFn:=q60.1
def q61:Qx [0x8ff01058106ff02000000870300830cff02000000850200830aff0202018307ff000301830d000203c880018f008f02ff2304000111000b0100090100040103,0xe01090002000102019101020003010705040806090000890d0b023f850002000301040000840806023f8509ff02000000880c8102000000860a810bff030781,0xb0c1004ff01070508060200030104090a0b00008b0f013e8501070508060200030109040a00008a]:=⟨_,by cbv⟩
def x61:XFn:=q61.1
def q62:Qx [0x92000b0f02ff05220e040d0ccc0305230b05ff0a8108060184230105030008000904030708cd21060005c880068a0006ff2303c88021c88002ff210200011200,0xb1102ff03221008ffc908c0]:=⟨_,by cbv⟩
def x62:XFn:=q62.1
def q63:Qx [0x2103000b00f8c18004ff21000bc88004ff210c040621030b040521030a06ff09015e8501230805ff07015e850007ff23c88004ff210400011400010200010102,0xbc88004ff21000bc98004ff2113041211cf01002303000b00f8c18004ff2110040f0ecd01002303000bc98004ff210d0406]:=⟨_,by cbv⟩
def x63:XFn:=q63.1
def q64:Qx [0xe020002fafafafa04950f810203830d01010c010002fafa0295010b810a00830200830aff2afafafafa049004ff008f02ff2204010401012a03040601050502,0x1b811a00830200831aff2c1807ff178115130184230105030008001604031415cd21060005c880138a128102038324031105048bfcfafafafa049005ff100103,0xfc050283252368059424000100fafafafa050105910805822281050283972109ff2008058bfc00fafafafa059008ff01198d00198d1f19ff1e1d1c035f860701,0xb2904048bfc050482222815ffc915c0922627018b]:=⟨_,by cbv⟩
def x64:XFn:=q64.1
def q65:Qx [0x36187c911c007070e0162870d81030183280c07ff0b0a02608501098103018309ff25c28006ff008f03ff220600011902040301030302060202020200030105,0xb1806ff1715140363871600010001010192010208261308ff12100f]:=⟨_,by cbv⟩
def x65:XFn:=q65.1
def q67:Qx [0xc2010602b30481920504018bfc0403020300649822fd019021018f008f02ff22000802010301]:=⟨_,by cbv⟩
def x67:XFn:=q67.1
def q69:Qx [0x950004040c04ff0bb8faf3c10bcf0a8a0981010183250004040804ffce07cf068a058101008305ff2503000503c880008f220200012900020c00060700020503,0x83c918c1178a168101018316ff290bcb8002ff2111041411ff67c513026685128101008312ff240bcd8002ff2104041004ff0bb8faf3c10fcf0e8a0d81010283,0x2698503010382242303ff21220205030108002204032021cd21060105c8801f8a1e810101832403000bcc8002ff2115041d15ff1c8e1b19c80368851a810102,0xbc88002ff212821ffc921c092000bcc8002ff212704268e2524]:=⟨_,by cbv⟩
def x69:XFn:=q69.1
def q70:Qx [0xf02018bfc0e0c0801940d0001000101019100028195c40b018bfc0a090184000181240804078e06810504018400018104ff25001003030201]:=⟨_,by cbv⟩
def x70:XFn:=q70.1
def q71:Qx [0x210b040e0bffcdc10dcd0c810100830cff240005030a03ff09020701050003000103019108810103830681010283048101018304ff28c280008f220200011c00,0x1a02ff00ca0100190197032315041815ffd9c117cd168101008316ff240b1402ff00c9010013019703230f04120fffcec111ce108101008310ff240bc28002ff,0xb1b02ff0322000b]:=⟨_,by cbv⟩
def x71:XFn:=q71.1
def q78:Qx [0xb0906ff0807026b87040302006c980224c38006ff018f008f03ff230600010a02020101]:=⟨_,by cbv⟩
def x78:XFn:=q78.1
def q79:Qx [0xb0904ffc808cb0706026d8501058102008326c38004ff008f02ff220400010a00030101]:=⟨_,by cbv⟩
def x79:XFn:=q79.1
end
end Go.Proofs.Tryz.Run
