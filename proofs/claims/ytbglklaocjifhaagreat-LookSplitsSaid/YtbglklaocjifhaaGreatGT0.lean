/- The table, in parts. Conditions: none. -/
import Derived.Test.YtbglklaocjifhaaGreatGMn
open Nat renaming beq->AA,blt->AB
open Go.Vf renaming x7->AC
set_option linter.unusedSimpArgs false
set_option linter.unusedVariables false
set_option maxHeartbeats 0
set_option maxRecDepth 100000
namespace Go.Proofs.Tryz.Dec
open Go Go.Vf
noncomputable section
variable {α β:Type}
def dg:Nat->Nat->List Nat->List Nat
 |0,_,r=>r
 |k+1,n,r=>(n % 256)::dg k (n/256) r
def bs:List Nat->List Nat
 |[]=>[]
 |n::l=>dg 64 n (bs l)
def rb (k:Nat->List Nat->β):List Nat->β
 |[]=>k 0 []
 |x::l=>k x l
def rle (k:Nat->List Nat->β):Nat->Nat->Nat->List Nat->β
 |0,n,_,l=>k n l
 |_+1,n,_,[]=>k n []
 |c+1,n,p,x::l=>rle k c (n+x*p) (p*256) l
def rn (k:Nat->List Nat->β)(l:List Nat):β:=
 rb (fun x l=>(match AB x 250 with|true=>k x l|false=>(match AA x 250 with|true=>rle k 2 0 1 l|false=>rb (fun c l=>rle k c 0 1 l) l))) l
def rlc (f:(α->List Nat->β)->List Nat->β)(k:List α->List Nat->β):Nat->List Nat->β
 |0,l=>k [] l
 |_+1,[]=>k [] []
 |n+1,x::l=>f (fun x l=>rlc f (fun xs l=>k (x::xs) l) n l) (x::l)
def rl (f:(α->List Nat->β)->List Nat->β)(k:List α->List Nat->β)(l:List Nat):β:=rn (fun n l=>rlc f k n l) l
def ro (f:(α->List Nat->β)->List Nat->β)(k:Option α->List Nat->β)(l:List Nat):β:=
 rb (fun x l=>(match AA x 0 with|true=>k none l|false=>f (fun y l=>k (some y) l) l)) l
def nb:Nat->Bool
 |0=>false
 |_+1=>true
def rt (k:Bool->List Nat->β)(l:List Nat):β:=rb (fun x l=>k (nb x) l) l
def nk:Nat->IntKind
 |0=> .i8
 |1=> .i16
 |2=> .i32
 |3=> .i64
 |4=> .u8
 |5=> .u16
 |6=> .u32
 |_=> .u64
def nop (n:Nat):BinOp:=([.add,.sub,.mul,.quo,.rem,.and,.or,.xor,.shl,.shr,.andNot,.eql,.neq,.lss,.leq,.gtr]:List BinOp).getD n .geq
def nun:Nat->UnOp
 |0=> .neg
 |1=> .xor
 |2=> .not
 |_=> .plus
def nmd:Nat->Vf.Mode
 |0=> .borrow
 |1=> .share
 |2=> .raw
 |3=> .data
 |_=> .fresh
def rk (k:IntKind->List Nat->β)(l:List Nat):β:=rb (fun x l=>k (nk x) l) l
def di (k:IntKind)(n:Nat):DV:= .int k (.l (.ofNat n))
def rd (k:DV->List Nat->β)(l:List Nat):β:=rb (fun x l=>
 (match AB x 200 with|true=>k (di .i64 x) l|false=>(match AA x 250 with|true=>k .nil l|false=>(match AB x 240 with|true=>k (di .u8 (x-200)) l|false=>(match AB x 248 with|true=>rn (fun n l=>k (di (nk (x-240)) n) l) l|false=>(match AA x 248 with|true=>rn (fun n l=>k (.int .i64 (.l (.negSucc n))) l) l|false=>(match AA x 249 with|true=>k (.str []) l|false=>(match AA x 251 with|true=>k (.bool false) l|false=>(match AA x 252 with|true=>k (.bool true) l|false=>(match AA x 253 with|true=>k (.raw .nilFunc) l|false=>(match AA x 254 with|true=>k (.raw (.pointer none)) l|false=>k (.raw (.map none)) l))))))))))) l
def rx (k:ah->List Nat->β)(l:List Nat):β:=rb (fun x l=>
 (match AB x 192 with|true=>k (.t x) l|false=>(match AB 199 x with|true=>k (.c (.d (di .i64 (x-200)))) l|false=>(match AA x 192 with|true=>rn (fun n l=>k (.t n) l) l|false=>(match AA x 193 with|true=>rd (fun d l=>k (.c (.d d)) l) l|false=>(match AA x 194 with|true=>k (.c (.d .nil)) l|false=>(match AB x 197 with|true=>k (.c (.d (.bool (nb (x-195))))) l|false=>rn (fun n l=>k (.c (.fn n [] [])) l) l))))))) l
def rlu (k:List UInt8->List Nat->β):Nat->List Nat->β
 |0,l=>k [] l
 |_+1,[]=>k [] []
 |n+1,x::l=>rn (fun a l=>rn (fun c l=>rlu (fun xs l=>k (List.replicate c (UInt8.ofNat a)++xs) l) n l) l) (x::l)
def rck (k:CK->List Nat->β)(l:List Nat):β:=rb (fun x l=>(match AA x 8 with|true=>k .o l|false=>k (.i (nk x)) l)) l
def rav (k:AV->List Nat->β):Nat->List Nat->β
 |0,l=>k (.agg []) l
 |_+1,[]=>k (.agg []) []
 |f+1,x::l=>(match AA x 0 with|true=>rd (fun d l=>k (.d d) l) l|false=>rl (fun k l=>rav k f l) (fun xs l=>k (.agg xs) l) l)
def j1v (k:qr->List Nat->β)(x:Nat)(l:List Nat):β:=
 (match AA x 0 with|true=>rb (fun b l=>rx (fun x l=>rx (fun y l=>k (.bw (nop b) x y) l) l) l) l|false=>(match AA x 1 with|true=>rx (fun x l=>rx (fun y l=>k (.max x y) l) l) l|false=>(match AA x 2 with|true=>rt (fun w l=>rl rck (fun a l=>rx (fun x l=>rx (fun y l=>k (.Wf w a x y) l) l) l) l) l|false=>(match AA x 3 with|true=>rt (fun w l=>rl rk (fun a l=>k (.og w a) l) l) l|false=>(match AA x 4 with|true=>rt (fun w l=>rl rk (fun a l=>rt (fun o l=>rav (fun z l=>rx (fun x l=>rx (fun y l=>k (.m9 w a o z x y) l) l) l) 9 l) l) l) l|false=>(match AA x 5 with|true=>rt (fun w l=>rl rk (fun a l=>rx (fun x l=>rx (fun y l=>rx (fun z l=>k (.n9 w a x y z) l) l) l) l) l) l|false=>(match AA x 6 with|true=>rn (fun n l=>rn (fun m l=>rl rd (fun z l=>rl (fun k l=>rn (fun i l=>rx (fun a l=>k (i,a) l) l) l) (fun p l=>k (.t6 n m z p) l) l) l) l) l|false=>(match AA x 7 with|true=>rx (fun a l=>rn (fun n l=>k (.pm a n) l) l) l|false=>(match AA x 8 with|true=>rt (fun w l=>rl rk (fun a l=>rav (fun z l=>rx (fun x l=>rx (fun y l=>k (.SW w a z x y) l) l) l) 9 l) l) l|false=>(match AA x 9 with|true=>rx (fun x l=>rx (fun y l=>rx (fun z l=>k (.VW x y z) l) l) l) l|false=>(match AA x 10 with|true=>rn (fun n l=>rn (fun m l=>rx (fun a l=>rx (fun b l=>k (.t5 n m a b) l) l) l) l) l|false=>(match AA x 11 with|true=>rn (fun n l=>k (.v6 n) l) l|false=>(match AA x 12 with|true=>k .Wq l|false=>(match AA x 13 with|true=>rn (fun n l=>k (.Wp n) l) l|false=>(match AA x 14 with|true=>rn (fun n l=>rx (fun a l=>rx (fun b l=>k (.x5 n a b) l) l) l) l|false=>(match AA x 15 with|true=>rx (fun x l=>k (.W8 x) l) l|false=>(match AA x 16 with|true=>rx (fun x l=>k (.W7 x) l) l|false=>(match AA x 17 with|true=>rx (fun x l=>k (.W2 x) l) l|false=>k .bad l))))))))))))))))))
def j0m (k:qr->List Nat->β)(x:Nat)(l:List Nat):β:=
 (match AA x 150 with|true=>rx (fun x l=>k (.T8 x) l) l|false=>(match AA x 151 with|true=>rn (fun n l=>rx (fun x l=>ro rx (fun a l=>ro rx (fun b l=>ro rx (fun c l=>k (.slice n x a b c) l) l) l) l) l) l|false=>(match AA x 152 with|true=>rn (fun n l=>rl rx (fun a l=>rl rx (fun b l=>k (.WT n a b) l) l) l) l|false=>(match AA x 153 with|true=>rn (fun n l=>rl rd (fun z l=>rn (fun b l=>rx (fun x l=>k (.mp n z b x) l) l) l) l) l|false=>(match AA x 154 with|true=>rn (fun n l=>rn (fun m l=>rx (fun x l=>rx (fun y l=>k (.z5 n m x y) l) l) l) l) l|false=>(match AA x 155 with|true=>rk (fun a l=>rx (fun x l=>k (.conv a x) l) l) l|false=>(match AA x 156 with|true=>rt (fun w l=>rl rk (fun a l=>rt (fun o l=>rx (fun x l=>rx (fun y l=>k (.lookup w a o x y) l) l) l) l) l) l|false=>(match AA x 157 with|true=>rn (fun n l=>rx (fun x l=>rx (fun y l=>k (.copy n x y) l) l) l) l|false=>(match AA x 158 with|true=>rt (fun w l=>rl rk (fun a l=>k (.x6 w a) l) l) l|false=>(match AA x 159 with|true=>rt (fun w l=>rl rk (fun a l=>rx (fun x l=>rx (fun y l=>rx (fun z l=>k (.Id w a x y z) l) l) l) l) l) l|false=>(match AA x 160 with|true=>rt (fun w l=>rl rk (fun a l=>rx (fun x l=>rx (fun y l=>k (.Yb w a x y) l) l) l) l) l|false=>(match AA x 161 with|true=>rn (fun n l=>ro rn (fun a l=>rx (fun x l=>k (.field n a x) l) l) l) l|false=>(match AA x 162 with|true=>rn (fun n l=>rx (fun x l=>ro rx (fun a l=>ro rx (fun b l=>k (.VH n x a b) l) l) l) l) l|false=>(match AA x 163 with|true=>rn (fun n l=>k (.V5 n) l) l|false=>(match AA x 164 with|true=>rx (fun x l=>k (.V8 x) l) l|false=>(match AA x 165 with|true=>rn (fun n l=>rx (fun x l=>rx (fun y l=>k (.oq n x y) l) l) l) l|false=>(match AA x 166 with|true=>rn (fun n l=>rx (fun x l=>ro rx (fun a l=>ro rx (fun b l=>k (.Vo n x a b) l) l) l) l) l|false=>(match AA x 167 with|true=>rn (fun n l=>rlu (fun a l=>rx (fun x l=>k (.idxs a x) l) l) n l) l|false=>(match AB x 170 with|true=>rn (fun n l=>rn (fun m l=>rx (fun a l=>rx (fun b l=>k (.append n m a b (nb (x-168))) l) l) l) l) l|false=>(match AA x 170 with|true=>rn (fun n l=>rx (fun x l=>ro rx (fun a l=>ro rx (fun b l=>ro rx (fun c l=>k (.VI n x a b c) l) l) l) l) l) l|false=>(match AA x 171 with|true=>rn (fun n l=>rl rd (fun z l=>rx (fun x l=>k (.clear n z x) l) l) l) l|false=>(match AA x 172 with|true=>rt (fun w l=>rx (fun x l=>k (.Vy w x) l) l) l|false=>(match AA x 173 with|true=>rx (fun x l=>k (.cap x) l) l|false=>(match AA x 174 with|true=>rx (fun x l=>rx (fun y l=>k (.XE x y) l) l) l|false=>(match AA x 175 with|true=>rn (fun n l=>k (.VA n) l) l|false=>(match AA x 177 with|true=>rx (fun x l=>rx (fun y l=>k (.min x y) l) l) l|false=>(match AA x 178 with|true=>rb (fun b l=>rx (fun x l=>rx (fun y l=>k (.WC (nop b) x y) l) l) l) l|false=>(match AA x 179 with|true=>rb (fun m l=>rx (fun f l=>rl rx (fun a l=>k (.call f a (nmd m)) l) l) l) l|false=>(match AA x 180 with|true=>rb (fun m l=>rx (fun y l=>k (.un (nun m) y) l) l) l|false=>(match AA x 181 with|true=>rb (fun x l=>j1v k x l) l|false=>k .bad l)
)))))))))))))))))))))))))))))def rop (k:qr->List Nat->β) (x:Nat) (l:List Nat):β:=
  (match AB x 128 with|true=>k (.mv (.t x)) l|false=>(match AB 191 x with|true=>rx (fun a l=>rx (fun b l=>k (.bin (nop (x-192)) a b) l) l) l|false=>(match AA x 128 with|true=>rx (fun x l=>k (.mv x) l) l|false=>(match AA x 129 with|true=>rx (fun x l=>k (.load none x) l) l|false=>(match AA x 130 with|true=>rn (fun n l=>rx (fun x l=>k (.load (some n) x) l) l) l|false=>(match AA x 131 with|true=>rn (fun n l=>rx (fun x l=>k (.VX n x) l) l) l|false=>(match AA x 132 with|true=>rn (fun n l=>rx (fun a l=>rx (fun b l=>k (.VG n a b) l) l) l) l|false=>(match AB x 138 with|true=>rn (fun n l=>rl rx (fun a l=>k (.call (.c (.fn n [] [])) a (nmd (x-133))) l) l) l|false=>(match AA x 138 with|true=>rx (fun x l=>k (.len x) l) l|false=>(match AA x 139 with|true=>rn (fun n l=>rx (fun a l=>rx (fun b l=>k (.store n a b) l) l) l) l|false=>(match AA x 140 with|true=>rx (fun a l=>rx (fun b l=>rx (fun c l=>k (.pick a b c) l) l) l) l|false=>(match AA x 141 with|true=>rx (fun a l=>rn (fun n l=>k (.extract a n) l) l) l|false=>(match AA x 142 with|true=>rx (fun a l=>k (.un .not a) l) l|false=>(match AA x 143 with|true=>rx (fun a l=>k (.box a) l) l|false=>(match AA x 144 with|true=>rl rd (fun z l=>k (.alloc z) l) l|false=>(match AB x 147 with|true=>rn (fun n l=>rn (fun m l=>rl rd (fun z l=>rl (fun k l=>rn (fun i l=>rx (fun a l=>k (i,a) l) l) l) (fun p l=>k (.x8 n m z p (nb (x-145))) l) l) l) l) l|false=>(match AB x 149 with|true=>rn (fun n l=>rn (fun m l=>rx (fun a l=>rx (fun b l=>k (.pi n m a b (nb (x-147))) l) l) l) l) l|false=>(match AA x 149 with|true=>rl rd (fun z l=>rl (fun k l=>rn (fun i l=>rn (fun j l=>rx (fun a l=>k (i,j,a) l) l) l) l) (fun p l=>k (.build z p) l) l) l|false=>j0m k x l
))))))))))))))))))def rpg (k:Nat->jm->List Nat->β) (d:Nat) (t:Option Nat) (x:Nat) (l:List Nat):β:=
  (match AA x 253 with|true=>rn (fun n l=>rb (fun x l=>rop (fun o l=>k d ⟨t,some (n,false),o⟩ l) x l) l) l|false=>(match AA x 254 with|true=>rn (fun n l=>rb (fun x l=>rop (fun o l=>k d ⟨t,some (n,true),o⟩ l) x l) l) l|false=>rop (fun o l=>k d ⟨t,none,o⟩ l) x l))
def mx (n d:Nat):Nat:=(match AB n d with|true=>d|false=>n)
def rpp (k:Nat->jm->List Nat->β)(d:Nat)(l:List Nat):β:=rb (fun x l=>
 (match AA x 255 with|true=>rn (fun n l=>rb (fun x l=>rpg k (mx n d) (some n) x l) l) l|false=>(match AA x 252 with|true=>rb (fun x l=>rpg k d none x l) l|false=>rpg k (d+1) (some (d+1)) x l))) l
def rps (k:Nat->List jm->List Nat->β):Nat->Nat->List Nat->β
 |0,d,l=>k d [] l
 |_+1,d,[]=>k d [] []
 |n+1,d,x::l=>rpp (fun d x l=>rps (fun d xs l=>k d (x::xs) l) n d l) d (x::l)
def rdp (k:Nat->cz->List Nat->β)(d:Nat)(l:List Nat):β:=rpp (fun d o l=>rb (fun i l=>
 (match AB i 128 with|true=>k d ⟨o,i,0,[],[],false,false⟩ l|false=>rn (fun s l=>rl rn (fun a l=>rl rn (fun b l=>rb (fun f l=>k d ⟨o,i-128,s,a,b,nb (f % 2),nb (f/2)⟩ l) l) l) l) l)) l) d l
def rds (k:Nat->List cz->List Nat->β):Nat->Nat->List Nat->β
 |0,d,l=>k d [] l
 |_+1,d,[]=>k d [] []
 |n+1,d,x::l=>rdp (fun d x l=>rds (fun d xs l=>k d (x::xs) l) n d l) d (x::l)
def rc (k:Nat->gy->List Nat->β):Nat->Nat->List Nat->β
 |0,d,l=>k d .skip l
 |_+1,d,[]=>k d .skip []
 |f+1,d,x::l=>
  (match AB 143 x with|true=>rps (fun d o l=>k d (.ops o) l) (x-144) d l|false=>(match AB 31 x with|true=>rps (fun d o l=>rc (fun d c l=>k d (.seq (.ops o) c) l) f d l) (x-32) d l|false=>(match AA x 0 with|true=>k d .skip l|false=>(match AA x 11 with|true=>k d .ret l|false=>(match AA x 1 with|true=>rn (fun n l=>rps (fun d o l=>k d (.ops o) l) n d l) l|false=>(match AA x 2 with|true=>rn (fun n l=>rn (fun m l=>rds (fun d o l=>k d (.draw n o) l) m d l) l) l|false=>(match AA x 3 with|true=>rc (fun d a l=>rc (fun d b l=>k d (.seq a b) l) f d l) f d l|false=>(match AA x 4 with|true=>rx (fun c l=>rc (fun d a l=>rc (fun d b l=>k d (.cond c a b) l) f d l) f d l) l|false=>(match AA x 5 with|true=>rn (fun n l=>rc (fun d a l=>k d (.block n a) l) f d l) l|false=>(match AA x 6 with|true=>rc (fun d a l=>k d (.loop a) l) f d l|false=>(match AA x 7 with|true=>rx (fun g l=>rl rn (fun p l=>rc (fun d a l=>rc (fun d b l=>k d (.range g p a b) l) f d l) f d l) l) l|false=>(match AA x 8 with|true=>rn (fun n l=>k d (.exit n) l) l|false=>(match AA x 9 with|true=>rc (fun d a l=>k d (.scope a) l) f d l|false=>rn (fun n l=>k d (.label n) l) l)))))))))))))
def rir (k:ym->List Nat->β)(l:List Nat):β:=rb (fun x l=>rn (fun n l=>(match AA x 0 with|true=>k (.t n) l|false=>ro rn (fun a l=>k (.c n a) l) l)) l) l
def dx (h:List Nat):AC:=
 rl (fun k l=>rn (fun a l=>rn (fun b l=>rn (fun c l=>k (a,b,c) l) l) l) l) (fun o l=>rn (fun n l=>rl rir (fun r l=>rc (fun _ c _=>⟨⟨o,[]⟩,n,r,c⟩) 100 0 l) l) l) (bs h)
end
end Go.Proofs.Tryz.Dec
namespace Go.Proofs.Tryz.Run
open Go Go.Vf
abbrev Qx (l:List Nat):={x:AC//x=Dec.dx l}
noncomputable section
def q19:Qx [0x1080801010701030601020601010601050501030501020501010501030401020401010401030301020301010301030201020201010201030101020101010124,0x6000106019113ff2cc38000ff2100000196005008014f08014e08014d08004908004408003b08003208002d08002208001908011808011608000a08010908,0xc8000600010601911bff2c1903ff1802ff1701038bfcfafa00039001ff02128d01128d00128d1612ff1501148614013f8613014086c905c904c803c802c801c8,0x1c80006000106019123ff292106ff2005ff1f04038bfcfafa00039004ff021a8d011a8d001a8d1e1aff1d0114861c013f861b014086c905c804c803c802c801,0x13f862a014086c905c804c803c802c801c8000600010601912aff2b2808ff2707ff01228d00228d2622ff25011c8624013f8623014086c805c904c803c902c8,0x102019100418633013f8632014086c905c904c803c802c801c80006000106019132ff2b300bff2f0aff2e09ff02298d01298d00298d2d29ffca2c023a862b,0xfafa0d900effc93c021e863b013f863a014086c805c904c803c902c801c80006000106019126390dff380cff01318d00318d3731ff363534032686c801c90002,0x48468cca47cb46fe0246fe45c844cb03734311ff4210ff410fff023e8d013e8d003e8d403eff3f011f860e0d823fff293d0e0d8bfc00fafafafa00fafafafafa,0x8658fe04038258fe57c356548cc955cb54fe0554fe53c352508cc851cb50fe0650fe4fc34e4a8c4d4c0219854afe0041864afe4b0124864afe0103824afe49c3,0xc10100f8c10003000103019163fe0763fe62c3615f8cc860cb5ffe085ffe5ec35d588c5c5a02198558fe5bca02428658fecf01c80002000102019158fe590124,0x6cfe6f016e000200c8020202916cfecf01010100c802956cfe0000c802956cfe096cfe6bc36a688cc869cb68fe0b68fe67c366638c656402218563fec80200f8,0x1c8000200010201917cfe0c7cfe7bc37a788cc879cb78fe0d78fe77c376738c757402218573fec901cd0002000102019173fe0a73fe72c3716c8c706d023e85,0x201918afe108afe8980c388858c878602218585fec801c80002000102019185fe0f85fe8480c383818cc882cb81fe1181fe8080c37f7c8c7e7d0221857cfec9,0x9392022f858ffe0041868ffe91013f868ffe900140868ffec905c904c803c802c801c8000600010601918ffe8e80c38d8a8c8c8b0221858afeca01c800020001,0xb958000ffc3948f8c]:=⟨_,by cbv⟩
def ZW:AC:=q19.1
def q20:Qx [0x102830bff020000008301018308ff0001008316000203c880c880fafa000390008f2404000300030102010318010f01010e01010b0101080101050101020106,0x8d110582020000008a0e05820fff02000000870b810cff0200000084088109ff01058106ff020000008c01088311ff02000000890103830eff0200000086,0x709080a0b00008b0f01468610ff000001030204060507080000880c014b860dff0000010302040500008509014a860aff0000010200008206014a8607ff0200,0x8d1000148d010c0d090a0607030400010e0b0805020f00008f13100d0a0705498601000103020406050709080a0c0b0d0e00008e120146860000010302040605,0xb151704ff141603ff0112110e0d0c0b0a090807060504030201000f10130000931502038bfc1202148d110114]:=⟨_,by cbv⟩
def ZX:AC:=q20.1
def q25:Qx [0xfd0f0d023e850bfd0e810bfd0301830bfd0c810bfd0201830bfd0a0907cc0881030083068102008306ff3603c380018f008f02ff230400012f000a06000a0102,0x52503060005c88005ff2103000bc38004ff211b041ac4138c1916cc13fd188a13fd178113fd03028313fd158a13fd148113fd02028313fd1211c40b8c108e0b,0x288129ff0426038227ff032524038426ff01238124ff07052aff0503028328ff020525ff0002028323ff0c00020301050300080020041f1ccd1e8a1d81020283,0xbc48004ff212205ffc921c022ff0521ff93000bc38004ff212e040b2d8e01050706080002010309040a00008a2c27021985092b0382082a29038406]:=⟨_,by cbv⟩
def ZY:AC:=q25.1
def q28:Qx [0x3830dff02000000860102830aff020000008301018307ff0001008314000203c880c280008f23030002000216010f01010e01010b0101080101050101020106,0x8205014a8606ff020000008d100582020000008a0d05820eff02000000870a810bff0200000084078108ff01048105ff020000008c01088310ff020000008901,0x8600000103020406050709080a0b00008b0e0146860fff000001030204060507080000880b014b860cff0000010302040500008508014a8609ff000001020000,0x3ff121402ff1101138d1000138d010c0d090a0607030400010e0b0805020f00008f120f0c090605508601000103020406050709080a0c0b0d0e00008e110146,0xb1315]:=⟨_,by cbv⟩
def ZZ:AC:=q28.1
def q30:Qx [0x2000000860202830bff030108ff0102028300050bb50e00020300fafafafa00fafafafafafafa0d9004ff008f02ff220d0104010113030b0103050102000103,0x500008509056805940aff020000008a00000e010c059702000000870b810cff040008010007059709ff02068107ff0200000089c90dc00200000088010dff,0xb12040d8bfc020d8222010a090807060504030201000b0c0d00008d1011018bfc0c020283010806090701030204000a050b00008b0f0a6805940001030204]:=⟨_,by cbv⟩
def Z0:AC:=q30.1
def q31:Qx [0x2000000860102830bff020000008301018308ff0001008316000203c880c280c280008f240400030002000318010f01010e01010b0101080101050101020106,0x8607ff020000008d110582020000008a0e05820fff02000000870b810cff0200000084088109ff01058106ff020000008c01088311ff02000000890103830eff,0x3020406050709080a0b00008b0f01468610ff000001030204060507080000880c014b860dff0000010302040500008509014a860aff0000010200008206014a,0x148d1101148d1000148d010c0d090a0607030400010e0b0805020f00008f13100d0a0705518601000103020406050709080a0c0b0d0e00008e12014686000001,0xb151704ff141603ff131502ff1202]:=⟨_,by cbv⟩
def Z1:AC:=q31.1
def q33:Qx [0x11ff090002030105030008000e040d0bcd0c8a00052403060005c88005ff2103000bc38004ff210a040907cc088a01068a0006ff2503c38004ff210400011a00,0xbc48004ff211005ffc90fc010ff050fff93000bc38004ff211904081814cc07178103138114ff06161501840505040115ff021211018401050000]:=⟨_,by cbv⟩
def Z2:AC:=q33.1
def q35:Qx [0xb0a02ff04220904ff0803ff01058d00058d0705ff0601258501038206ff27c880008f220200010b00010101]:=⟨_,by cbv⟩
def Z3:AC:=q35.1
def q36:Qx [0xb0402038bfcce0302528601038223fafa000390008f2203010201010501010101]:=⟨_,by cbv⟩
def Z4:AC:=q36.1
def q37:Qx [0xc88002ff220d040c8e0522030b05ff0a04ff01068d00068d0906ffcc0802538507030001fafa00039501038207ff28c880c880008f2303000200020f00020101,0xbc88003ff0e02ff0423000bcc8003ff]:=⟨_,by cbv⟩
def Z5:AC:=q37.1
def q38:Qx [0x10ff02000000850301830dff02000000820300830aff12000203c880c28006ff018f008f03ff24070006000218010d01010c01010a0101070101040101010106,0x860cff0000010000810801248609ff0200000089108111ff02000000860d810eff02000000830a810bff0004038208ff020000008b0213ff0200000088030283,0x807090a0b0c00008c13014a8600000201030504060807090a00008a11014b8612ff0000020103050406070000870e014a860fff0000020103040000840b014a,0xb111707ff101606ff0f01158d0e00158d010b080905060203000c0a0704010d00008d14120f0c090554860100020103050406]:=⟨_,by cbv⟩
def Z6:AC:=q38.1
def q40:Qx [0xfafafafa059007ff0b01010901000200fafafafa05950ac20801a80108c20801a80008ff2700fafafafa059006ff2105010601011802050200030100010103,0xd8d0000000186130dff0102030401000500018512c80f0e045887041108000101990000000100800705820eff03108a020001020fff0c0102030c07058bfc,0x705822201070605040302010009080a0b00018b1516018bfc000000018a070483000604030201000507080001891407058bfc0200000188010d8d0000000187,0xb1706058bfc]:=⟨_,by cbv⟩
def Z7:AC:=q40.1
def q45:Qx [0x8141301840706060113ff030f0e01840206010000050dff0c00020105030008000a040907cd088a00062403060005c8802103c88021c88004ff210400011900,0xb1804ff05220c06ffc90bc00cff060bff930b1705ff0a1612c009158105110dc212ff04108111ff]:=⟨_,by cbv⟩
def Z8:AC:=q45.1
def q47:Qx [0x202830dff02000000850201830aff020000008202008307ff13000203c380018f008f02ff2304000117001101011001010d01010a0101070101040101010107,0x8c10058211ff02000000890d810eff02000000860a810bff0200000083078108ff0003038205ff020000008e02088313ff020000008b02038310ff0200000088,0x8a0e014b860fff0000020103050406070000870b014a860cff00000201030400008408014a8609ff0000010000810501248606ff020000008f13058202000000,0x8501000201030504060807090b0a0c0e0d0f100000901401468600000201030504060807090b0a0c0d00008d1101468612ff00000201030504060807090a0000,0xb121604ff010e0f0b0c08090506020300100d0a0704011100009115120f0c09060659]:=⟨_,by cbv⟩
def Z9:AC:=q47.1
def q58:Qx [0x860202830dff02000000830201830aff0002008317000203c880c280c28004ff008f02ff24060005000400031b011001010e01010b0101080101050101020106,0x8a10058211ff02000000870d810eff02000000840a810bff01078108ff020000008f0116ff020000008c02088313ff020000008902038310ff02000000,0x1468612ff000001030204060507080000880e014b860fff000001030204050000850b014a860cff0000010200008208014a8609ff020000008d13058214ff02,0x400010f0e0b080502100000901615120f0c0906618600000103020406050709080a0c0b0d0e00008e1401468615ff00000103020406050709080a0b00008b11,0xb161a06ff151905ff141804ff1302178d1201178d1100178d010c0d090a060703]:=⟨_,by cbv⟩
def q':AC:=q58.1
def q62:Qx [0x11ff090002030105030008000e040d0bcd0c8a00052403060005c88005ff2103000bc38004ff210a040907cc088a01068a0006ff2503c38004ff210400011a00,0xc48004ff211005ffc90fc010ff050fff93000bc38004ff21190408181403040201a0071702820313028214ff06161502840505040115ff021211028401050000,0xb]:=⟨_,by cbv⟩
def E':AC:=q62.1
def q63:Qx [0x6b50e00020300fafafafa00fafafafafafafa0d90008f220d0102010110010a010209010208010107010206010105010204010103010202010201010200010b,0x2c901c800060001060106b507ff02c905c904c903c802c801c800060001060106b50200000081c901c800020001020106b50200000080cb01ca000200010201,0x200000089c905c904c903c902c901c900060001060106b50cff0200000086cf05c804c803c802c801c800060001060106b509ff0200000084ca05c904c803ca,0xfafafafa05030506b50bff00020304050605000087090140860aff00020304030000850701408608ff0002010000830501408606ff020000008b0105820eff,0x8bfc0c0e05080d05030b01020401010301000500fafafafa00fafafafafafafa0d9500020304050607090700008a0c0140860dff02000000880a020801060003,0xb010b090807060504030201000a0c0d00008d0f020d]:=⟨_,by cbv⟩
def I':AC:=q63.1
def q64:Qx [0x2950e810d0c01840400030bff9901050300080008040705cd068a00042403060005c8802103c2802100fafafafa059002ff2105010201011701030603070502,0xfc15141303288603c901c800020001020191cb01ca00020001020191250a04ffc909c00aff0409ff931203ff110b10029410000100c8020102910f01010100c8,0xb1602058b]:=⟨_,by cbv⟩
def J':AC:=q64.1
def q65:Qx [0x24286ca02c901c800030001030191004386020101000200c802020291c901010100c802950000c8029529fafa00039000ff2103010001010901050101030102,0xb0800038bfc070102030101c8010003fafa0003950601040002fafa000302039105c9]:=⟨_,by cbv⟩
def M':AC:=q65.1
def q66:Qx [0xa8a01062403060005c88006ff21030805038bfcfafa00039005ff07010001fafa0003950007ff24fafa00039004ff21030104010120030d05010b0503080503,0xc8029515ff05138114ff02000000810f8110ff020000008905028318ff04121101840306020111ff02000000800501830fff1200020105030008000c040b09cd,0x20000008e0501831dff00030204050600070108000088161010029417ff0003020405060500008715000100c80201029116ff020000008a1881061401010100,0x70108090b0c0a0d00008d1b193803941cff000302040506000701080b0a00008c1a0001fafa00030103911bff000302040506000701080900008b0043861aff,0x93010e0c0b0a090807060504030201000f0d10110000911c1e018bfc10050283010b0c0a0907060504030201000d080e0f00008f171d018bfc00030204050600,0xb1f04038bfc050382220e06ffc90dc00eff060dff]:=⟨_,by cbv⟩
def O':AC:=q66.1
def q67:Qx [0xb0100038bfc00f8c1010001fafa00039522fafa00039000ff2103010001010200]:=⟨_,by cbv⟩
def P':AC:=q67.1
def q70:Qx [0x58106ff090104830eff060102830bff0301018308ff0001008305ff0e01020300fafafafa0590008f2205010201012c031105030e0504080103050103020105,0x10020ab50dff0509014a880aff0206014a8807ff0c00fafafafa059003ff00000001008a0e810000000100870b810cff000000010084088109ff000000010081,0x1281010383042503060005c88004ff2103010a090706050403020100080b0c0d00018d1003058bfc0b0f01040d01020a01010701000400fafafafa0595080cc2,0x2841dff031a811bff0200000081188119ff0a0422ff0801038320ff04041cff020103831aff020000008003038318ff14000201050300080015041411cd138a,0xe070f0e000090270001fa00020102910f2601011f010002fa0002950e25014a880d24810c2301830b2221028409208121ff071e811fff061d00831eff051c1b,0x9080706050403020100111213000093292a018bfc1203038301080a090b0c0d0204030506070f000e100111000091281920029400080a090b0c0d0204030506,0xb2b02058bfc030582221704ffc916c017ff0416ff9301100f0e0d0c0b0a]:=⟨_,by cbv⟩
def Q':AC:=q70.1
def q73:Qx [0xdff010f8d000f8d150fff1413121110056c8609058208058202010010ff2bc880c880fafa000390048f038f08ff250c000b0003010a01032701010401050102,0xeff200bff1f0a038bfc021c8d011c8d001c8d1e1cff1d016d860d1dff29000b1b0cffc8800bff1a0a038bfc0c00fafa000395251904c818cc0c2203170cff16,0xbc8800cff260bff250a038bfc0b0a038225000bcf800cffc8800bff240a038bfc00fafa000395242304228e0e220321]:=⟨_,by cbv⟩
def U':AC:=q73.1
def q74:Qx [0xb0402ff03c20801940023c28002ff210200010503010101]:=⟨_,by cbv⟩
def V':AC:=q74.1
def q75:Qx [0x50105910f0146860e05820d0c05840400030bff9901050300080008040705cd068a00042403060005c8802103c28021c28002ff210200011403070501050502,0xb1302ff03220a04ffc909c00aff0409ff931203ff110b68059410000100fafafafa]:=⟨_,by cbv⟩
def X':AC:=q75.1
def q80:Qx [0xdff1f0cff01188d00188d1e18ff1d1c1b1a19056c8609058208058202010019ff2bc880c280048f038f08ff240b000a00024803031103060e01010401050104,0x42a8e1022032910ff280fff270e038bfcfafa0003900eff02248d01248d00248d2624ff25016d860c25ff2a000b230bffc2800aff0d232204c821cc0d220320,0x18bfc311301049a1223fbfbfbfb049013ff213012ff2e220105030008002f04032d2ecd21060005c8802c8a022303c28011ff21000bcf800bffc2800aff222b,0x8d073a33ff06393834036e880bfafa00039015ff000000010085130482000000010084378103360483023596010c000c34ff0f0102030300f8c18014ff21c432,0x3fc10f16943e041721000000018e3d17ff000000018d3c16ff000705040302010006080b0a00018c3b15038bfc020000008a02338d020000008901338d080033,0xbc8800bff470aff1123462effc92ec0924511ff44420801944300010001010191141195004114ff40]:=⟨_,by cbv⟩
def Y':AC:=q80.1
def q81:Qx [0xff01128d00128d1812ff1716151413056c8609058208058202010013ff2bc880c280c280048f038f08ff250c000b000a00035201190b010b0b00070901050104,0x2321098423260105030008002404032223cd21060005c880218a20811f04831e960d2603000b1d0cffc2800bffc2800aff0c241c04c81bcc0c22031a0cff190d,0x2032b2c018bfc1008832a8e29810f0883252810098bfcfb00c800c800c800c8099010ff0f098223270f098bfc250efffb00c800c800c800c809900fff260982,0x1d0002033604c835d01122083411ff0100010204030605070000873332026f85061009820500003101300997032f8130ff040e31ff022e0483012d96000d0900,0x3830200000091479602000000900d47ff020000008e440083020000008d4396020000008c0d43ff080e3fff063c0383053b96040d3bff02380083013796000d,0x814aff020000008f45028246ff0a408141ff093f3e018440ff073d813eff033902823aff02000000964c4bc002000000951102000000940e4bff020000009248,0x121613170c0d0e0b180f190000994f46027086000405060807090001020a030b00008b413a02708642ff02000000984e8102000000974d4a0184020000009349,0xbcf800cffc2800bffc2800aff235123ffc923c092000b1cc8800cff1b500bff1a420aff010405060807090001020a0315141011]:=⟨_,by cbv⟩
def Z':AC:=q81.1
def q82:Qx [0xab50000000100830981000000010081078108ff0202018309ff0002008307ff08010203fafa00039004ff008f02ff22030104010126030b0501090504040103,0xdcd0f8a0e81020283062903060005c88006ff21030103020100040506070001870c05038bfc06fafa00039005ff050b010108010002fafa000395040ac21002,0x1bff0200000081188119ff08c91fc107011fff04061cff020202831aff020000008005028318ff0e00020105030008001504c314128cc813cf12fe0112fe1110,0x8b22193803940007020403050806090800008a210001fafa0003010391000702040305080607000089201e025286061d03821eff051c1b03841dff031a81,0xb2504038bfc050382221706ffc916c017ff0616ff93010a090807060504030201000b0c0d00008d2324018bfc0c050283010702040305080600090a010b]:=⟨_,by cbv⟩
def a_:AC:=q82.1
def q83:Qx [0xfd0104019174c5010001fd019573c5010001fd019572c5010001fd019571c5010001fd01950bff26c380c88004ff008f02ff2305000400023200040b02020202,0xc48005ffc88004ff221704c816cd15811400830200832403000bc38005ffc88004ff221304128e111002758702010076980624030f06ff0e030d020c010b0004,0x39008ff2003821e1c0384240105030008001f04031d1ecd21060005c8801c8a1b811a02830200832503000bc38005ffc88004ff221904c818cb012203000b,0xbc38005ffc88004ff222b042a8e0a2203290aff2809ff01228d00228d2722ff2624025385c925c10123030001fafa00039508038223ff2a2108038bfcfafa,0xbc48005ff3104ffc930c004242f1effc91ec0922e04ff2d2c01b5090494]:=⟨_,by cbv⟩
def b_:AC:=q83.1
def q84:Qx [0xaff0c231a04c819cc0c22180cff1701238505038217ff2303c880c2800aff008f05ff230b000a00026e03041d00031a01061900050a01020700020400010107,0xfafafa05900eff01228d00228d2522ffc22423037886020123ff29000b210bffc2800aff0d232004c81fcc0d221e0dff1d1c02778502012403000b1b0bffc280,0xc2800aff10233204c831cc10223010ff2f2e2d2c2b0562850e05820e05820302012703000b2a0bffc2800aff0f232904c828cc0f2203270fff260e058bfc00fa,0xff3d11ff3e813b3901843b250105030008003c04033a3bcd21060005c880398a042303000bcb800bffc2800aff2238043735cc368a01348a042503000b330bff,0x20503c28013ff214a3bffc93bc092000bcb800bffc2800aff22490448c4428c4743d042fd468142fd4544018442fd1142fd0142fd1242fd41c840cd122a3f12,0x27986045705825654058455810500830354ff2d000bcf800bffc2800aff225204514fd0508a034e81050083250303050208004d04c84cd04b81050083230306,0x831326000bcf800bffc2800aff226204c861cd1622036016ff5f5e027a851402825d81050183255c15ff5b14028bfc00c8029014ff01538d00538d5a53ff5958,0xbc8800bff6d0aff13236c05038bfc6b03826a690384166881050283966713ff6663080194650001000101019164810500]:=⟨_,by cbv⟩
def c_:AC:=q84.1
end
end Go.Proofs.Tryz.Run
