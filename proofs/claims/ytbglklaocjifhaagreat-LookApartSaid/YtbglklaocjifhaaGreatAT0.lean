/- The table, in parts. Conditions: none. -/
import Derived.Test.YtbglklaocjifhaaGreatAMk
set_option linter.unusedSimpArgs false
set_option linter.unusedVariables false
set_option maxHeartbeats 0
set_option maxRecDepth 100000
namespace Go.Proofs.Tryz.Dec
open Go Go.Vf
noncomputable section
variable {α β:Type}
def dg:Nat->Nat->List Nat->List Nat
 |0,_,r=>r
 |k+1,n,r=>(n % 256)::dg k (n/256) r
def bs:List Nat->List Nat
 |[]=>[]
 |n::l=>dg 64 n (bs l)
def rb (k:Nat->List Nat->β):List Nat->β
 |[]=>k 0 []
 |x::l=>k x l
def rle (k:Nat->List Nat->β):Nat->Nat->Nat->List Nat->β
 |0,n,_,l=>k n l
 |_+1,n,_,[]=>k n []
 |c+1,n,p,x::l=>rle k c (n+x*p) (p*256) l
def rn (k:Nat->List Nat->β)(l:List Nat):β:=
 rb (fun x l=>(match Nat.blt x 250 with|true=>k x l|false=>(match Nat.beq x 250 with|true=>rle k 2 0 1 l|false=>rb (fun c l=>rle k c 0 1 l) l))) l
def rlc (f:(α->List Nat->β)->List Nat->β)(k:List α->List Nat->β):Nat->List Nat->β
 |0,l=>k [] l
 |_+1,[]=>k [] []
 |n+1,x::l=>f (fun x l=>rlc f (fun xs l=>k (x::xs) l) n l) (x::l)
def rl (f:(α->List Nat->β)->List Nat->β)(k:List α->List Nat->β)(l:List Nat):β:=rn (fun n l=>rlc f k n l) l
def ro (f:(α->List Nat->β)->List Nat->β)(k:Option α->List Nat->β)(l:List Nat):β:=
 rb (fun x l=>(match Nat.beq x 0 with|true=>k none l|false=>f (fun y l=>k (some y) l) l)) l
def nb:Nat->Bool
 |0=>false
 |_+1=>true
def rt (k:Bool->List Nat->β)(l:List Nat):β:=rb (fun x l=>k (nb x) l) l
def nk:Nat->IntKind
 |0=> .i8
 |1=> .i16
 |2=> .i32
 |3=> .i64
 |4=> .u8
 |5=> .u16
 |6=> .u32
 |_=> .u64
def nop (n:Nat):BinOp:=([.add,.sub,.mul,.quo,.rem,.and,.or,.xor,.shl,.shr,.andNot,.eql,.neq,.lss,.leq,.gtr]:List BinOp).getD n .geq
def nun:Nat->UnOp
 |0=> .neg
 |1=> .xor
 |2=> .not
 |_=> .plus
def nmd:Nat->Vf.Mode
 |0=> .borrow
 |1=> .share
 |2=> .raw
 |3=> .data
 |_=> .fresh
def rk (k:IntKind->List Nat->β)(l:List Nat):β:=rb (fun x l=>k (nk x) l) l
def di (k:IntKind)(n:Nat):DV:= .int k (.l (.ofNat n))
def rd (k:DV->List Nat->β)(l:List Nat):β:=rb (fun x l=>
 (match Nat.blt x 200 with|true=>k (di .i64 x) l|false=>(match Nat.beq x 250 with|true=>k .nil l|false=>(match Nat.blt x 240 with|true=>k (di .u8 (x-200)) l|false=>(match Nat.blt x 248 with|true=>rn (fun n l=>k (di (nk (x-240)) n) l) l|false=>(match Nat.beq x 248 with|true=>rn (fun n l=>k (.int .i64 (.l (.negSucc n))) l) l|false=>(match Nat.beq x 249 with|true=>k (.str []) l|false=>(match Nat.beq x 251 with|true=>k (.bool false) l|false=>(match Nat.beq x 252 with|true=>k (.bool true) l|false=>(match Nat.beq x 253 with|true=>k (.raw .nilFunc) l|false=>(match Nat.beq x 254 with|true=>k (.raw (.pointer none)) l|false=>k (.raw (.map none)) l))))))))))) l
def rx (k:a0h->List Nat->β)(l:List Nat):β:=rb (fun x l=>
 (match Nat.blt x 192 with|true=>k (.t x) l|false=>(match Nat.blt 199 x with|true=>k (.c (.d (di .i64 (x-200)))) l|false=>(match Nat.beq x 192 with|true=>rn (fun n l=>k (.t n) l) l|false=>(match Nat.beq x 193 with|true=>rd (fun d l=>k (.c (.d d)) l) l|false=>(match Nat.beq x 194 with|true=>k (.c (.d .nil)) l|false=>(match Nat.blt x 197 with|true=>k (.c (.d (.bool (nb (x-195))))) l|false=>rn (fun n l=>k (.c (.fn n [] [])) l) l))))))) l
def rlu (k:List UInt8->List Nat->β):Nat->List Nat->β
 |0,l=>k [] l
 |_+1,[]=>k [] []
 |n+1,x::l=>rn (fun a l=>rn (fun c l=>rlu (fun xs l=>k (List.replicate c (UInt8.ofNat a)++xs) l) n l) l) (x::l)
def rck (k:CK->List Nat->β)(l:List Nat):β:=rb (fun x l=>(match Nat.beq x 8 with|true=>k .o l|false=>k (.i (nk x)) l)) l
def rav (k:AV->List Nat->β):Nat->List Nat->β
 |0,l=>k (.agg []) l
 |_+1,[]=>k (.agg []) []
 |f+1,x::l=>(match Nat.beq x 0 with|true=>rd (fun d l=>k (.d d) l) l|false=>rl (fun k l=>rav k f l) (fun xs l=>k (.agg xs) l) l)
def j1v (k:IOp->List Nat->β)(x:Nat)(l:List Nat):β:=
 (match Nat.beq x 0 with|true=>rb (fun b l=>rx (fun x l=>rx (fun y l=>k (.bw (nop b) x y) l) l) l) l|false=>(match Nat.beq x 1 with|true=>rx (fun x l=>rx (fun y l=>k (.max x y) l) l) l|false=>(match Nat.beq x 2 with|true=>rt (fun w l=>rl rck (fun a l=>rx (fun x l=>rx (fun y l=>k (.aeqw w a x y) l) l) l) l) l|false=>(match Nat.beq x 3 with|true=>rt (fun w l=>rl rk (fun a l=>k (.mkmapv w a) l) l) l|false=>(match Nat.beq x 4 with|true=>rt (fun w l=>rl rk (fun a l=>rt (fun o l=>rav (fun z l=>rx (fun x l=>rx (fun y l=>k (.lookupv w a o z x y) l) l) l) 9 l) l) l) l|false=>(match Nat.beq x 5 with|true=>rt (fun w l=>rl rk (fun a l=>rx (fun x l=>rx (fun y l=>rx (fun z l=>k (.mapupdv w a x y z) l) l) l) l) l) l|false=>(match Nat.beq x 6 with|true=>rn (fun n l=>rn (fun m l=>rl rd (fun z l=>rl (fun k l=>rn (fun i l=>rx (fun a l=>k (i,a) l) l) l) (fun p l=>k (.bsliceP n m z p) l) l) l) l) l|false=>(match Nat.beq x 7 with|true=>rx (fun a l=>rn (fun n l=>k (.extractF a n) l) l) l|false=>(match Nat.beq x 8 with|true=>rt (fun w l=>rl rk (fun a l=>rav (fun z l=>rx (fun x l=>rx (fun y l=>k (.mapent w a z x y) l) l) l) 9 l) l) l|false=>(match Nat.beq x 9 with|true=>rx (fun x l=>rx (fun y l=>rx (fun z l=>k (.entst x y z) l) l) l) l|false=>(match Nat.beq x 10 with|true=>rn (fun n l=>rn (fun m l=>rx (fun a l=>rx (fun b l=>k (.appendP n m a b) l) l) l) l) l|false=>(match Nat.beq x 11 with|true=>rn (fun n l=>k (.bslice0 n) l) l|false=>(match Nat.beq x 12 with|true=>k .bnewv l|false=>(match Nat.beq x 13 with|true=>rn (fun n l=>k (.bnewm n) l) l|false=>(match Nat.beq x 14 with|true=>rn (fun n l=>rx (fun a l=>rx (fun b l=>k (.appendV n a b) l) l) l) l|false=>k .bad l)))))))))))))))
def j0m (k:IOp->List Nat->β)(x:Nat)(l:List Nat):β:=
 (match Nat.beq x 150 with|true=>rx (fun x l=>k (.nilchk x) l) l|false=>(match Nat.beq x 151 with|true=>rn (fun n l=>rx (fun x l=>ro rx (fun a l=>ro rx (fun b l=>ro rx (fun c l=>k (.slice n x a b c) l) l) l) l) l) l|false=>(match Nat.beq x 152 with|true=>rn (fun n l=>rl rx (fun a l=>rl rx (fun b l=>k (.mkfn n a b) l) l) l) l|false=>(match Nat.beq x 153 with|true=>rn (fun n l=>rl rd (fun z l=>rn (fun b l=>rx (fun x l=>k (.mkslice n z b x) l) l) l) l) l|false=>(match Nat.beq x 154 with|true=>rn (fun n l=>rn (fun m l=>rx (fun x l=>rx (fun y l=>k (.iaddrA n m x y) l) l) l) l) l|false=>(match Nat.beq x 155 with|true=>rk (fun a l=>rx (fun x l=>k (.conv a x) l) l) l|false=>(match Nat.beq x 156 with|true=>rt (fun w l=>rl rk (fun a l=>rt (fun o l=>rx (fun x l=>rx (fun y l=>k (.lookup w a o x y) l) l) l) l) l) l|false=>(match Nat.beq x 157 with|true=>rn (fun n l=>rx (fun x l=>rx (fun y l=>k (.copy n x y) l) l) l) l|false=>(match Nat.beq x 158 with|true=>rt (fun w l=>rl rk (fun a l=>k (.mkmap w a) l) l) l|false=>(match Nat.beq x 159 with|true=>rt (fun w l=>rl rk (fun a l=>rx (fun x l=>rx (fun y l=>rx (fun z l=>k (.mapupd w a x y z) l) l) l) l) l) l|false=>(match Nat.beq x 160 with|true=>rt (fun w l=>rl rk (fun a l=>rx (fun x l=>rx (fun y l=>k (.aeq w a x y) l) l) l) l) l|false=>(match Nat.beq x 161 with|true=>rn (fun n l=>ro rn (fun a l=>rx (fun x l=>k (.field n a x) l) l) l) l|false=>(match Nat.beq x 162 with|true=>rn (fun n l=>rx (fun x l=>ro rx (fun a l=>ro rx (fun b l=>k (.slarr n x a b) l) l) l) l) l|false=>(match Nat.beq x 163 with|true=>rn (fun n l=>k (.bnew n) l) l|false=>(match Nat.beq x 164 with|true=>rx (fun x l=>k (.lenm x) l) l|false=>(match Nat.beq x 165 with|true=>rn (fun n l=>rx (fun x l=>rx (fun y l=>k (.appendIn n x y) l) l) l) l|false=>(match Nat.beq x 166 with|true=>rn (fun n l=>rx (fun x l=>ro rx (fun a l=>ro rx (fun b l=>k (.slicex n x a b) l) l) l) l) l|false=>(match Nat.beq x 167 with|true=>rn (fun n l=>rlu (fun a l=>rx (fun x l=>k (.idxs a x) l) l) n l) l|false=>(match Nat.blt x 170 with|true=>rn (fun n l=>rn (fun m l=>rx (fun a l=>rx (fun b l=>k (.append n m a b (nb (x-168))) l) l) l) l) l|false=>(match Nat.beq x 170 with|true=>rn (fun n l=>rx (fun x l=>ro rx (fun a l=>ro rx (fun b l=>ro rx (fun c l=>k (.slchk n x a b c) l) l) l) l) l) l|false=>(match Nat.beq x 171 with|true=>rn (fun n l=>rl rd (fun z l=>rx (fun x l=>k (.clear n z x) l) l) l) l|false=>(match Nat.beq x 172 with|true=>rt (fun w l=>rx (fun x l=>k (.isnil w x) l) l) l|false=>(match Nat.beq x 173 with|true=>rx (fun x l=>k (.cap x) l) l|false=>(match Nat.beq x 174 with|true=>rx (fun x l=>rx (fun y l=>k (.ovl x y) l) l) l|false=>(match Nat.beq x 175 with|true=>rn (fun n l=>k (.newnil n) l) l|false=>(match Nat.beq x 177 with|true=>rx (fun x l=>rx (fun y l=>k (.min x y) l) l) l|false=>(match Nat.beq x 178 with|true=>rb (fun b l=>rx (fun x l=>rx (fun y l=>k (.binb (nop b) x y) l) l) l) l|false=>(match Nat.beq x 179 with|true=>rb (fun m l=>rx (fun f l=>rl rx (fun a l=>k (.call f a (nmd m)) l) l) l) l|false=>(match Nat.beq x 180 with|true=>rb (fun m l=>rx (fun y l=>k (.un (nun m) y) l) l) l|false=>(match Nat.beq x 181 with|true=>rb (fun x l=>j1v k x l) l|false=>k .bad l)
)))))))))))))))))))))))))))))def rop (k:IOp->List Nat->β) (x:Nat) (l:List Nat):β:=
  (match Nat.blt x 128 with|true=>k (.mv (.t x)) l|false=>(match Nat.blt 191 x with|true=>rx (fun a l=>rx (fun b l=>k (.bin (nop (x-192)) a b) l) l) l|false=>(match Nat.beq x 128 with|true=>rx (fun x l=>k (.mv x) l) l|false=>(match Nat.beq x 129 with|true=>rx (fun x l=>k (.load none x) l) l|false=>(match Nat.beq x 130 with|true=>rn (fun n l=>rx (fun x l=>k (.load (some n) x) l) l) l|false=>(match Nat.beq x 131 with|true=>rn (fun n l=>rx (fun x l=>k (.faddr n x) l) l) l|false=>(match Nat.beq x 132 with|true=>rn (fun n l=>rx (fun a l=>rx (fun b l=>k (.iaddr n a b) l) l) l) l|false=>(match Nat.blt x 138 with|true=>rn (fun n l=>rl rx (fun a l=>k (.call (.c (.fn n [] [])) a (nmd (x-133))) l) l) l|false=>(match Nat.beq x 138 with|true=>rx (fun x l=>k (.len x) l) l|false=>(match Nat.beq x 139 with|true=>rn (fun n l=>rx (fun a l=>rx (fun b l=>k (.store n a b) l) l) l) l|false=>(match Nat.beq x 140 with|true=>rx (fun a l=>rx (fun b l=>rx (fun c l=>k (.pick a b c) l) l) l) l|false=>(match Nat.beq x 141 with|true=>rx (fun a l=>rn (fun n l=>k (.extract a n) l) l) l|false=>(match Nat.beq x 142 with|true=>rx (fun a l=>k (.un .not a) l) l|false=>(match Nat.beq x 143 with|true=>rx (fun a l=>k (.box a) l) l|false=>(match Nat.beq x 144 with|true=>rl rd (fun z l=>k (.alloc z) l) l|false=>(match Nat.blt x 147 with|true=>rn (fun n l=>rn (fun m l=>rl rd (fun z l=>rl (fun k l=>rn (fun i l=>rx (fun a l=>k (i,a) l) l) l) (fun p l=>k (.bslice n m z p (nb (x-145))) l) l) l) l) l|false=>(match Nat.blt x 149 with|true=>rn (fun n l=>rn (fun m l=>rx (fun a l=>rx (fun b l=>k (.appendN n m a b (nb (x-147))) l) l) l) l) l|false=>(match Nat.beq x 149 with|true=>rl rd (fun z l=>rl (fun k l=>rn (fun i l=>rn (fun j l=>rx (fun a l=>k (i,j,a) l) l) l) l) (fun p l=>k (.build z p) l) l) l|false=>j0m k x l
))))))))))))))))))def rpg (k:Nat->a1c->List Nat->β) (d:Nat) (t:Option Nat) (x:Nat) (l:List Nat):β:=
  (match Nat.beq x 253 with|true=>rn (fun n l=>rb (fun x l=>rop (fun o l=>k d ⟨t,some (n,false),o⟩ l) x l) l) l|false=>(match Nat.beq x 254 with|true=>rn (fun n l=>rb (fun x l=>rop (fun o l=>k d ⟨t,some (n,true),o⟩ l) x l) l) l|false=>rop (fun o l=>k d ⟨t,none,o⟩ l) x l))
def mx (n d:Nat):Nat:=(match Nat.blt n d with|true=>d|false=>n)
def rpp (k:Nat->a1c->List Nat->β)(d:Nat)(l:List Nat):β:=rb (fun x l=>
 (match Nat.beq x 255 with|true=>rn (fun n l=>rb (fun x l=>rpg k (mx n d) (some n) x l) l) l|false=>(match Nat.beq x 252 with|true=>rb (fun x l=>rpg k d none x l) l|false=>rpg k (d+1) (some (d+1)) x l))) l
def rps (k:Nat->List a1c->List Nat->β):Nat->Nat->List Nat->β
 |0,d,l=>k d [] l
 |_+1,d,[]=>k d [] []
 |n+1,d,x::l=>rpp (fun d x l=>rps (fun d xs l=>k d (x::xs) l) n d l) d (x::l)
def rdp (k:Nat->a0m->List Nat->β)(d:Nat)(l:List Nat):β:=rpp (fun d o l=>rb (fun i l=>
 (match Nat.blt i 128 with|true=>k d ⟨o,i,0,[],[],false,false⟩ l|false=>rn (fun s l=>rl rn (fun a l=>rl rn (fun b l=>rb (fun f l=>k d ⟨o,i-128,s,a,b,nb (f % 2),nb (f/2)⟩ l) l) l) l) l)) l) d l
def rds (k:Nat->List a0m->List Nat->β):Nat->Nat->List Nat->β
 |0,d,l=>k d [] l
 |_+1,d,[]=>k d [] []
 |n+1,d,x::l=>rdp (fun d x l=>rds (fun d xs l=>k d (x::xs) l) n d l) d (x::l)
def rc (k:Nat->a0c->List Nat->β):Nat->Nat->List Nat->β
 |0,d,l=>k d .skip l
 |_+1,d,[]=>k d .skip []
 |f+1,d,x::l=>
  (match Nat.blt 143 x with|true=>rps (fun d o l=>k d (.ops o) l) (x-144) d l|false=>(match Nat.blt 31 x with|true=>rps (fun d o l=>rc (fun d c l=>k d (.seq (.ops o) c) l) f d l) (x-32) d l|false=>(match Nat.beq x 0 with|true=>k d .skip l|false=>(match Nat.beq x 11 with|true=>k d .ret l|false=>(match Nat.beq x 1 with|true=>rn (fun n l=>rps (fun d o l=>k d (.ops o) l) n d l) l|false=>(match Nat.beq x 2 with|true=>rn (fun n l=>rn (fun m l=>rds (fun d o l=>k d (.draw n o) l) m d l) l) l|false=>(match Nat.beq x 3 with|true=>rc (fun d a l=>rc (fun d b l=>k d (.seq a b) l) f d l) f d l|false=>(match Nat.beq x 4 with|true=>rx (fun c l=>rc (fun d a l=>rc (fun d b l=>k d (.cond c a b) l) f d l) f d l) l|false=>(match Nat.beq x 5 with|true=>rn (fun n l=>rc (fun d a l=>k d (.block n a) l) f d l) l|false=>(match Nat.beq x 6 with|true=>rc (fun d a l=>k d (.loop a) l) f d l|false=>(match Nat.beq x 7 with|true=>rx (fun g l=>rl rn (fun p l=>rc (fun d a l=>rc (fun d b l=>k d (.range g p a b) l) f d l) f d l) l) l|false=>(match Nat.beq x 8 with|true=>rn (fun n l=>k d (.exit n) l) l|false=>(match Nat.beq x 9 with|true=>rc (fun d a l=>k d (.scope a) l) f d l|false=>rn (fun n l=>k d (.label n) l) l)))))))))))))
def rir (k:c5p->List Nat->β)(l:List Nat):β:=rb (fun x l=>rn (fun n l=>(match Nat.beq x 0 with|true=>k (.t n) l|false=>ro rn (fun a l=>k (.c n a) l) l)) l) l
def dx (h:List Nat):XFn:=
 rl (fun k l=>rn (fun a l=>rn (fun b l=>rn (fun c l=>k (a,b,c) l) l) l) l) (fun o l=>rn (fun n l=>rl rir (fun r l=>rc (fun _ c _=>⟨⟨o,[]⟩,n,r,c⟩) 100 0 l) l) l) (bs h)
end
end Go.Proofs.Tryz.Dec
namespace Go.Proofs.Tryz.Run
open Go Go.Vf
abbrev Qx (l:List Nat):={x:XFn//x=Dec.dx l}
noncomputable section
def n0:Nat:=nat_lit 0
def n1:Nat:=nat_lit 1
def n2:Nat:=nat_lit 2
def n3:Nat:=nat_lit 3
def n4:Nat:=nat_lit 4
def n5:Nat:=nat_lit 5
def n6:Nat:=nat_lit 6
def n7:Nat:=nat_lit 7
def n8:Nat:=nat_lit 8
def n9:Nat:=nat_lit 9
def n10:Nat:=nat_lit 10
def n11:Nat:=nat_lit 11
def n12:Nat:=nat_lit 12
def n13:Nat:=nat_lit 13
def n14:Nat:=nat_lit 14
def n15:Nat:=nat_lit 15
def n16:Nat:=nat_lit 16
def n17:Nat:=nat_lit 17
def n18:Nat:=nat_lit 18
def n19:Nat:=nat_lit 19
def n20:Nat:=nat_lit 20
def n21:Nat:=nat_lit 21
def n22:Nat:=nat_lit 22
def n23:Nat:=nat_lit 23
def n24:Nat:=nat_lit 24
def n25:Nat:=nat_lit 25
def n26:Nat:=nat_lit 26
def n27:Nat:=nat_lit 27
def n28:Nat:=nat_lit 28
def n29:Nat:=nat_lit 29
def n30:Nat:=nat_lit 30
def n31:Nat:=nat_lit 31
def n32:Nat:=nat_lit 32
def n33:Nat:=nat_lit 33
def n34:Nat:=nat_lit 34
def n35:Nat:=nat_lit 35
def n36:Nat:=nat_lit 36
def n37:Nat:=nat_lit 37
def n38:Nat:=nat_lit 38
def n39:Nat:=nat_lit 39
def n40:Nat:=nat_lit 40
def n41:Nat:=nat_lit 41
def n42:Nat:=nat_lit 42
def n43:Nat:=nat_lit 43
def n44:Nat:=nat_lit 44
def n45:Nat:=nat_lit 45
def n46:Nat:=nat_lit 46
def n47:Nat:=nat_lit 47
def n48:Nat:=nat_lit 48
def n49:Nat:=nat_lit 49
def n50:Nat:=nat_lit 50
def n51:Nat:=nat_lit 51
def n52:Nat:=nat_lit 52
def n53:Nat:=nat_lit 53
def n54:Nat:=nat_lit 54
def n55:Nat:=nat_lit 55
def n56:Nat:=nat_lit 56
def n57:Nat:=nat_lit 57
def n58:Nat:=nat_lit 58
def n59:Nat:=nat_lit 59
def n60:Nat:=nat_lit 60
def n61:Nat:=nat_lit 61
def n62:Nat:=nat_lit 62
def n63:Nat:=nat_lit 63
def n64:Nat:=nat_lit 64
def n65:Nat:=nat_lit 65
def n66:Nat:=nat_lit 66
def n67:Nat:=nat_lit 67
def n68:Nat:=nat_lit 68
def n69:Nat:=nat_lit 69
def n70:Nat:=nat_lit 70
def n71:Nat:=nat_lit 71
def n72:Nat:=nat_lit 72
def n73:Nat:=nat_lit 73
def n74:Nat:=nat_lit 74
def n75:Nat:=nat_lit 75
def n76:Nat:=nat_lit 76
def n77:Nat:=nat_lit 77
def n78:Nat:=nat_lit 78
def n79:Nat:=nat_lit 79
def n80:Nat:=nat_lit 80
def n81:Nat:=nat_lit 81
def n82:Nat:=nat_lit 82
def n83:Nat:=nat_lit 83
def n84:Nat:=nat_lit 84
def n85:Nat:=nat_lit 85
def n86:Nat:=nat_lit 86
def n87:Nat:=nat_lit 87
def n88:Nat:=nat_lit 88
def n89:Nat:=nat_lit 89
def n90:Nat:=nat_lit 90
def n91:Nat:=nat_lit 91
def n92:Nat:=nat_lit 92
def n93:Nat:=nat_lit 93
def n94:Nat:=nat_lit 94
def n95:Nat:=nat_lit 95
def n96:Nat:=nat_lit 96
def n97:Nat:=nat_lit 97
def n98:Nat:=nat_lit 98
def n99:Nat:=nat_lit 99
def c1w:Nat:=nat_lit 100
def b9n:Nat:=nat_lit 101
def c2d:Nat:=nat_lit 102
def b8s:Nat:=nat_lit 103
def b0g:Nat:=nat_lit 104
def b9l:Nat:=nat_lit 105
def c1v:Nat:=nat_lit 106
def b3k:Nat:=nat_lit 107
def a9u:Nat:=nat_lit 108
def b7w:Nat:=nat_lit 109
def b8f:Nat:=nat_lit 110
def c2p:Nat:=nat_lit 111
def b8v:Nat:=nat_lit 112
def c3o:Nat:=nat_lit 113
def c3g:Nat:=nat_lit 114
def b4y:Nat:=nat_lit 115
def c1y:Nat:=nat_lit 116
def c3q:Nat:=nat_lit 117
def b1a:Nat:=nat_lit 118
def b2v:Nat:=nat_lit 119
def b8r:Nat:=nat_lit 120
def c3u:Nat:=nat_lit 121
def c1h:Nat:=nat_lit 122
def c3f:Nat:=nat_lit 123
def b8e:Nat:=nat_lit 124
def c6b:Nat:=nat_lit 125
def d0w:Nat:=nat_lit 126
def d0x:Nat:=nat_lit 127
def d0z:Nat:=nat_lit 128
def c3l:Nat:=nat_lit 129
def c1j:Nat:=nat_lit 130
def c5d:Nat:=nat_lit 131
def c5o:Nat:=nat_lit 132
def b4f:Nat:=nat_lit 133
def d0n:Nat:=nat_lit 134
def d0t:Nat:=nat_lit 135
def d1a:Nat:=nat_lit 136
def d0u:Nat:=nat_lit 137
def b8c:Nat:=nat_lit 138
def d4v:Nat:=nat_lit 139
def d6b:Nat:=nat_lit 140
def d1l:Nat:=nat_lit 141
def d3x:Nat:=nat_lit 142
def c7z:Nat:=nat_lit 143
def c5y:Nat:=nat_lit 144
def d5e:Nat:=nat_lit 145
def d6v:Nat:=nat_lit 146
def d5a:Nat:=nat_lit 147
def d8x:Nat:=nat_lit 148
def d9j:Nat:=nat_lit 149
def e2f:Nat:=nat_lit 150
def e6l:Nat:=nat_lit 151
def c5e:Nat:=nat_lit 152
def d4n:Nat:=nat_lit 153
def e5y:Nat:=nat_lit 154
def d0p:Nat:=nat_lit 155
def d9o:Nat:=nat_lit 156
def e6j:Nat:=nat_lit 157
def e6m:Nat:=nat_lit 158
def e9y:Nat:=nat_lit 159
def d4p:Nat:=nat_lit 160
def e6f:Nat:=nat_lit 161
def e4k:Nat:=nat_lit 162
def e6i:Nat:=nat_lit 163
def d1h:Nat:=nat_lit 164
def f5o:Nat:=nat_lit 165
def f4h:Nat:=nat_lit 166
def f3k:Nat:=nat_lit 167
def e5b:Nat:=nat_lit 168
def e5g:Nat:=nat_lit 169
def e0a:Nat:=nat_lit 170
def e4d:Nat:=nat_lit 171
def e6x:Nat:=nat_lit 172
def d5s:Nat:=nat_lit 173
def e3z:Nat:=nat_lit 174
def e6e:Nat:=nat_lit 175
def e5q:Nat:=nat_lit 176
def f9q:Nat:=nat_lit 177
def f9h:Nat:=nat_lit 178
def e6v:Nat:=nat_lit 179
def f4x:Nat:=nat_lit 180
def f8z:Nat:=nat_lit 181
def g1r:Nat:=nat_lit 182
def e7a:Nat:=nat_lit 183
def e0j:Nat:=nat_lit 184
def e5j:Nat:=nat_lit 185
def e7d:Nat:=nat_lit 186
def d9y:Nat:=nat_lit 187
def d8s:Nat:=nat_lit 188
def e5r:Nat:=nat_lit 189
def d9r:Nat:=nat_lit 190
def d2i:Nat:=nat_lit 191
def f1d:Nat:=nat_lit 192
def e6a:Nat:=nat_lit 193
def f8g:Nat:=nat_lit 194
def f3g:Nat:=nat_lit 195
def e6u:Nat:=nat_lit 196
def d9n:Nat:=nat_lit 197
def e5z:Nat:=nat_lit 198
def e6h:Nat:=nat_lit 199
def d7p:Nat:=nat_lit 200
def e0q:Nat:=nat_lit 201
def e5v:Nat:=nat_lit 202
def e7e:Nat:=nat_lit 203
def d4r:Nat:=nat_lit 204
def e5w:Nat:=nat_lit 205
def f7a:Nat:=nat_lit 206
def g0l:Nat:=nat_lit 207
def d7s:Nat:=nat_lit 208
def f2v:Nat:=nat_lit 209
def e6n:Nat:=nat_lit 210
def e5f:Nat:=nat_lit 211
def e6r:Nat:=nat_lit 212
def e5m:Nat:=nat_lit 213
def e5u:Nat:=nat_lit 214
def e6p:Nat:=nat_lit 215
def e6y:Nat:=nat_lit 216
def f2h:Nat:=nat_lit 217
def e9t:Nat:=nat_lit 218
def e9n:Nat:=nat_lit 219
def f2a:Nat:=nat_lit 220
def f0p:Nat:=nat_lit 221
def e2l:Nat:=nat_lit 222
def f1m:Nat:=nat_lit 223
def f1l:Nat:=nat_lit 224
def e5a:Nat:=nat_lit 225
def e6s:Nat:=nat_lit 226
def e6c:Nat:=nat_lit 227
def e7g:Nat:=nat_lit 228
def e7f:Nat:=nat_lit 229
def d9z:Nat:=nat_lit 230
def e0b:Nat:=nat_lit 231
def e4u:Nat:=nat_lit 232
def e5o:Nat:=nat_lit 233
def f0i:Nat:=nat_lit 234
def f1p:Nat:=nat_lit 235
def e5p:Nat:=nat_lit 236
def e4w:Nat:=nat_lit 237
def e5e:Nat:=nat_lit 238
def e5t:Nat:=nat_lit 239
def e9p:Nat:=nat_lit 240
def e5s:Nat:=nat_lit 241
def d9v:Nat:=nat_lit 242
def e7i:Nat:=nat_lit 243
def f0d:Nat:=nat_lit 244
def f8k:Nat:=nat_lit 245
def f4r:Nat:=nat_lit 246
def e7u:Nat:=nat_lit 247
def e0t:Nat:=nat_lit 248
def e7z:Nat:=nat_lit 249
def e8r:Nat:=nat_lit 250
def e8p:Nat:=nat_lit 251
def e8m:Nat:=nat_lit 252
def e6d:Nat:=nat_lit 253
def d7m:Nat:=nat_lit 254
def d9c:Nat:=nat_lit 255
def e6q:Nat:=nat_lit 256
def h3s:Nat:=nat_lit 257
def h1c:Nat:=nat_lit 258
def g0h:Nat:=nat_lit 259
def f1j:Nat:=nat_lit 260
def e4v:Nat:=nat_lit 261
def e7b:Nat:=nat_lit 262
def e5d:Nat:=nat_lit 263
def e5h:Nat:=nat_lit 264
def e2i:Nat:=nat_lit 265
def e8g:Nat:=nat_lit 266
def f6x:Nat:=nat_lit 267
def f0x:Nat:=nat_lit 268
def f7o:Nat:=nat_lit 269
def g1n:Nat:=nat_lit 270
def e6t:Nat:=nat_lit 271
def f3c:Nat:=nat_lit 272
def g1w:Nat:=nat_lit 273
def g4y:Nat:=nat_lit 274
def g2d:Nat:=nat_lit 275
def f0f:Nat:=nat_lit 276
def f9z:Nat:=nat_lit 277
def f6z:Nat:=nat_lit 278
def f5k:Nat:=nat_lit 279
def g0j:Nat:=nat_lit 280
def g9c:Nat:=nat_lit 281
def g1o:Nat:=nat_lit 282
def f8c:Nat:=nat_lit 283
def f3q:Nat:=nat_lit 284
def f4i:Nat:=nat_lit 285
def g1e:Nat:=nat_lit 286
def g0n:Nat:=nat_lit 287
def f8y:Nat:=nat_lit 288
def f8w:Nat:=nat_lit 289
def f6m:Nat:=nat_lit 290
def f8d:Nat:=nat_lit 291
def f4n:Nat:=nat_lit 292
def f8h:Nat:=nat_lit 293
def f6e:Nat:=nat_lit 294
def f9g:Nat:=nat_lit 295
def f3j:Nat:=nat_lit 296
def f3p:Nat:=nat_lit 297
def f9r:Nat:=nat_lit 298
def f8r:Nat:=nat_lit 299
def e5i:Nat:=nat_lit 300
def f7s:Nat:=nat_lit 301
def f4f:Nat:=nat_lit 302
def g0f:Nat:=nat_lit 303
def f4t:Nat:=nat_lit 304
def f4k:Nat:=nat_lit 305
def f9o:Nat:=nat_lit 306
def g2o:Nat:=nat_lit 307
def f9f:Nat:=nat_lit 308
def f7f:Nat:=nat_lit 309
def g2v:Nat:=nat_lit 310
def f8l:Nat:=nat_lit 311
def f5w:Nat:=nat_lit 312
def g1k:Nat:=nat_lit 313
def f6b:Nat:=nat_lit 314
def g0c:Nat:=nat_lit 315
def g0p:Nat:=nat_lit 316
def g2a:Nat:=nat_lit 317
def g0y:Nat:=nat_lit 318
def f7t:Nat:=nat_lit 319
def f8e:Nat:=nat_lit 320
def f7u:Nat:=nat_lit 321
def f4m:Nat:=nat_lit 322
def f8b:Nat:=nat_lit 323
def f9s:Nat:=nat_lit 324
def f5u:Nat:=nat_lit 325
def e6z:Nat:=nat_lit 326
def f9x:Nat:=nat_lit 327
def f5d:Nat:=nat_lit 328
def f9e:Nat:=nat_lit 329
def e5c:Nat:=nat_lit 330
def f5z:Nat:=nat_lit 331
def f5q:Nat:=nat_lit 332
def f3l:Nat:=nat_lit 333
def e7c:Nat:=nat_lit 334
def g0q:Nat:=nat_lit 335
def g1c:Nat:=nat_lit 336
def f9t:Nat:=nat_lit 337
def e2p:Nat:=nat_lit 338
def g1i:Nat:=nat_lit 339
def f6f:Nat:=nat_lit 340
def f4o:Nat:=nat_lit 341
def f7k:Nat:=nat_lit 342
def e1c:Nat:=nat_lit 343
def f3a:Nat:=nat_lit 344
def f5a:Nat:=nat_lit 345
def f9a:Nat:=nat_lit 346
def g0d:Nat:=nat_lit 347
def e7h:Nat:=nat_lit 348
def f4u:Nat:=nat_lit 349
def g0x:Nat:=nat_lit 350
def f3x:Nat:=nat_lit 351
def e5n:Nat:=nat_lit 352
def f6v:Nat:=nat_lit 353
def f9b:Nat:=nat_lit 354
def f3h:Nat:=nat_lit 355
def e6k:Nat:=nat_lit 356
def g1s:Nat:=nat_lit 357
def f6r:Nat:=nat_lit 358
def f8v:Nat:=nat_lit 359
def e6g:Nat:=nat_lit 360
def f3w:Nat:=nat_lit 361
def f4b:Nat:=nat_lit 362
def f9c:Nat:=nat_lit 363
def d9u:Nat:=nat_lit 364
def g0a:Nat:=nat_lit 365
def f9l:Nat:=nat_lit 366
def g2y:Nat:=nat_lit 367
def f4z:Nat:=nat_lit 368
def f8f:Nat:=nat_lit 369
def d2o:Nat:=nat_lit 370
def g0s:Nat:=nat_lit 371
def f5t:Nat:=nat_lit 372
def f7i:Nat:=nat_lit 373
def f4s:Nat:=nat_lit 374
def f3z:Nat:=nat_lit 375
def g2n:Nat:=nat_lit 376
def f4l:Nat:=nat_lit 377
def f3v:Nat:=nat_lit 378
def e3t:Nat:=nat_lit 379
def f4p:Nat:=nat_lit 380
def f5b:Nat:=nat_lit 381
def g1z:Nat:=nat_lit 382
def g1q:Nat:=nat_lit 383
def d6y:Nat:=nat_lit 384
def f9u:Nat:=nat_lit 385
def f6n:Nat:=nat_lit 386
def f5p:Nat:=nat_lit 387
def f7g:Nat:=nat_lit 388
def f7e:Nat:=nat_lit 389
def f4e:Nat:=nat_lit 390
def e0i:Nat:=nat_lit 391
def f5c:Nat:=nat_lit 392
def f3y:Nat:=nat_lit 393
def f7r:Nat:=nat_lit 394
def f3u:Nat:=nat_lit 395
def g0m:Nat:=nat_lit 396
def d9w:Nat:=nat_lit 397
def f5m:Nat:=nat_lit 398
def f9d:Nat:=nat_lit 399
def g1u:Nat:=nat_lit 400
def f9m:Nat:=nat_lit 401
def g0t:Nat:=nat_lit 402
def e9o:Nat:=nat_lit 403
def f7p:Nat:=nat_lit 404
def f7n:Nat:=nat_lit 405
def g9x:Nat:=nat_lit 406
def e4l:Nat:=nat_lit 10000
def oq (d:Nat)(p:IOp):a1c:=⟨some d,none,p⟩
def og (d g:Nat)(b:Bool)(p:IOp):a1c:=⟨some d,some (g,b),p⟩
def om (d x:Nat):a1c:=⟨some d,none,.mv (.t x)⟩
def ol (d x:Nat):a1c:=⟨some d,none,.load none (.t x)⟩
def of (d n x:Nat):a1c:=⟨some d,none,.faddr n (.t x)⟩
def dz (o:a1c)(i s:Nat):a0m:=⟨o,i,s,[],[],false,false⟩
def dq (o:a1c)(i s:Nat)(a b:List Nat)(x y:Bool):a0m:=⟨o,i,s,a,b,x,y⟩
def i (n:Nat):Int:= .ofNat n
def k (n:Nat):a0h:= .c (.d (.int .i64 (.l (.ofNat n))))
def a15:Ann:=⟨[(n1,n1,n1),(n1,n2,n1),(n1,n4,n1),(n1,n5,n1),(n1,n7,n1),(n1,n8,n1),(n3,n1,n1),(n4,n1,n1),(n5,n1,n1),(n6,n1,n1),(n7,n1,n1),(n8,n1,n1),(n9,n1,n1),(n10,n1,n1),(n11,n1,n1),(n11,n2,n2),(n11,n3,n1),(n12,n1,n0),(n13,n0,n1),(n13,n1,n0),(n14,n8,n1),(n14,n10,n1),(n14,n11,n0),(n14,n21,n0),(n14,n69,n0),(n14,n75,n0),(n14,n93,n0),(n17,n1,n1),(n18,n0,n2),(n18,n3,n3),(n18,n8,n2),(n18,n9,n3),(n20,n1,n1),(n21,n1,n1),(n22,n1,n1),(n23,n1,n1),(n24,n1,n1),(n25,n1,n2),(n25,n2,n1),(n25,n3,n2),(n25,n4,n1),(n26,n1,n2),(n26,n2,n1),(n26,n3,n2),(n26,n4,n1),(n27,n1,n1),(n27,n2,n2),(n27,n3,n1),(n28,n5,n1),(n28,n9,n1),(n28,n11,n1),(n28,n13,n1),(n32,n4,n1),(n32,n5,n0),(n34,n0,n1),(n39,n16,n0),(n39,n21,n0),(n39,n42,n1),(n39,n43,n0),(n39,n51,n1),(n39,n52,n0),(n39,n57,n1),(n39,n58,n0),(n39,n63,n1),(n39,n64,n0),(n39,n69,n1),(n39,n70,n0),(n39,n75,n1),(n39,n76,n0),(n39,n80,n0)],[]⟩
def c15:a0c:=
 (.seq (.ops [(oq n0 (.mv (.c (.d (.bool false)))))])
 (.seq (.ops [(oq n35 (.bslice n1 n6 [(.int .i64 (.l (i n0)))] [(n0,(k n0)),(n1,(k n0)),(n2,(k n0)),(n3,(k n0)),(n4,(k n1)),(n5,(k n1))] false)),(oq n36 (.call (.c (.fn n64 [] [])) [(.t n35)] .share)),(oq n37 (.call (.c (.fn n63 [] [])) [(.t n36)] .share)),(oq n38 (.bslice n1 n6 [(.int .i64 (.l (i n0)))] [(n0,(k n0)),(n1,(k n0)),(n2,(k n0)),(n3,(k n0)),(n4,(k n0)),(n5,(k n1))] false)),(oq n39 (.call (.c (.fn n64 [] [])) [(.t n38)] .share)),(oq n40 (.call (.c (.fn n63 [] [])) [(.t n39)] .share)),(oq n41 (.bslice n1 n6 [(.int .i64 (.l (i n0)))] [(n0,(k n0)),(n1,(k n0)),(n2,(k n1)),(n3,(k n0)),(n4,(k n1)),(n5,(k n0))] false)),(oq n42 (.call (.c (.fn n64 [] [])) [(.t n41)] .share)),(oq n43 (.call (.c (.fn n63 [] [])) [(.t n42)] .share)),(oq n1 (.alloc [.nil,.nil,.nil,.nil,.nil,.nil,.nil,(.int .i64 (.l (i n0))),.nil,.nil,.nil,.nil,(.int .i64 (.l (i n0)))])),(oq n2 (.alloc [.nil,.nil,.nil,.nil,.nil,.nil,.nil,(.int .i64 (.l (i n0))),.nil,.nil,.nil,.nil,(.int .i64 (.l (i n0)))])),(oq n3 (.alloc [.nil,.nil,.nil,.nil,.nil,.nil,.nil,(.int .i64 (.l (i n0))),.nil,.nil,.nil,.nil,(.int .i64 (.l (i n0)))])),⟨none,none,.store n13 (.t n1) (.t n37)⟩,⟨none,none,.store n13 (.t n2) (.t n40)⟩,⟨none,none,.store n13 (.t n3) (.t n43)⟩])
 (.seq (.ops [(oq n44 (.load (some n13) (.t n1))),(oq n4 (.alloc [.nil,.nil,.nil,.nil,.nil,.nil,.nil,(.int .i64 (.l (i n0))),.nil,.nil,.nil,.nil,(.int .i64 (.l (i n0)))])),⟨none,none,.store n13 (.t n4) (.t n44)⟩])
 (.seq (.ops [(oq n45 (.bslice n1 n6 [(.int .i64 (.l (i n0)))] [(n0,(k n0)),(n1,(k n0)),(n2,(k n0)),(n3,(k n1)),(n4,(k n1)),(n5,(k n1))] false)),(oq n46 (.call (.c (.fn n64 [] [])) [(.t n45)] .share)),(of n47 n3 n4),⟨none,none,.store n5 (.t n47) (.t n46)⟩])
 (.seq (.ops [(oq n49 (.load (some n13) (.t n4))),(oq n50 (.call (.c (.fn n20 [] [])) [(.t n49)] .share)),(om n48 n50),(oq n51 (.extract (.t n48) n0)),(oq n52 (.extract (.t n48) n1)),(oq n53 (.extract (.t n48) n2)),(oq n5 (.alloc [(.int .i64 (.l (i n0))),.nil,.nil])),⟨none,none,.store n3 (.t n5) (.t n51)⟩,(om n6 n52),(om n7 n53)])
 (.seq (.ops [(oq n55 (.load (some n13) (.t n2))),(oq n56 (.call (.c (.fn n28 [] [])) [(.t n55)] .share)),(om n54 n56),(oq n57 (.extract (.t n54) n0)),(oq n58 (.extract (.t n54) n1)),(om n8 n57),(om n9 n58)])
 (.seq (.ops [(oq n60 (.load (some n13) (.t n3))),(oq n61 (.call (.c (.fn n20 [] [])) [(.t n60)] .share)),(om n59 n61),(oq n62 (.extract (.t n59) n0)),(oq n63 (.extract (.t n59) n1)),(oq n64 (.extract (.t n59) n2)),(oq n10 (.alloc [(.int .i64 (.l (i n0))),.nil,.nil])),⟨none,none,.store n3 (.t n10) (.t n62)⟩,(om n11 n63),(om n12 n64)])
 (.seq (.ops [(oq n66 (.load (some n13) (.t n1))),(oq n67 (.call (.c (.fn n58 [] [])) [(.t n66),(k n1)] .share)),(om n65 n67),(oq n68 (.extract (.t n65) n0)),(oq n69 (.extract (.t n65) n1)),(oq n70 (.extract (.t n65) n2)),(om n13 n68),(om n14 n69),(om n15 n70)])
 (.seq (.ops [(oq n71 (.load (some n13) (.t n3))),(oq n72 (.call (.c (.fn n30 [] [])) [(.t n71),(k n1)] .share)),(oq n16 (.alloc [.nil,.nil,.nil,.nil,.nil,.nil,.nil,(.int .i64 (.l (i n0))),.nil,.nil,.nil,.nil,(.int .i64 (.l (i n0)))])),⟨none,none,.store n13 (.t n16) (.t n72)⟩])
 (.seq (.ops [(oq n74 (.load (some n13) (.t n16))),(oq n75 (.call (.c (.fn n20 [] [])) [(.t n74)] .share)),(om n73 n75),(oq n76 (.extract (.t n73) n0)),(oq n77 (.extract (.t n73) n1)),(oq n78 (.extract (.t n73) n2)),(oq n17 (.alloc [(.int .i64 (.l (i n0))),.nil,.nil])),⟨none,none,.store n3 (.t n17) (.t n76)⟩,(om n18 n77),(om n19 n78)])
 (.seq (.ops [(oq n80 (.load (some n13) (.t n16))),(oq n81 (.call (.c (.fn n28 [] [])) [(.t n80)] .share)),(om n79 n81),(oq n82 (.extract (.t n79) n0)),(oq n83 (.extract (.t n79) n1)),(om n20 n82),(om n21 n83)])
 (.seq (.draw n0 [(dq (oq n87 (.bsliceP n1 n2 [(.int .i64 (.l (i n0)))] [(n0,(k n0)),(n1,(k n2))])) n2 n0 [] [] false true),(dq (oq n85 (.load (some n13) (.t n1))) n0 n0 [] [] false true),(dz (oq n86 (.call (.c (.fn n65 [] [])) [] .share)) n1 n0),(dq (oq n88 (.call (.c (.fn n38 [] [])) [(.t n85),(.t n86),(.t n87)] .share)) n3 n0 [] [n0,n1,n2] true false),(dz (om n84 n88) n4 n0),(dz (oq n89 (.extract (.t n84) n0)) n5 n0),(dz (oq n90 (.extract (.t n84) n1)) n6 n0),(dz (om n22 n89) n7 n0),(dz (om n23 n90) n8 n0)])
 (.seq (.ops [(oq n92 (.load (some n13) (.t n1))),(oq n93 (.call (.c (.fn n57 [] [])) [(.t n92)] .borrow)),(om n91 n93),(oq n94 (.extract (.t n91) n0)),(oq n95 (.extract (.t n91) n1)),(om n24 n94),(om n25 n95)])
 (.seq (.ops [(oq n97 (.call (.c (.fn n65 [] [])) [] .share)),(oq n98 (.call (.c (.fn n37 [] [])) [(.t n97)] .borrow)),(om n96 n98),(oq n99 (.extract (.t n96) n0)),(oq c1w (.extract (.t n96) n1)),(om n26 n99),(om n27 c1w)])
 (.seq (.seq (.ops [(om b9n n7),(oq c2d (.bin .neq (.t b9n) (k n0))),(om b8s c2d),(og b0g b8s false (.mv (.t n6))),(og b9l b8s false (.bin .neq (.t b0g) (k n1))),(oq c1v (.pick (.t b8s) (.c (.d (.bool true))) (.t b9l))),(om b3k c1v),(og a9u b3k false (.load (some n3) (.t n5))),(og b7w b3k false (.call (.c (.fn n36 [] [])) [(.t a9u)] .share)),(og b8f b3k false (.bslice n1 n3 [(.int .i64 (.l (i n0)))] [(n0,(k n0)),(n1,(k n1)),(n2,(k n2))] false)),(og c2p b3k false (.call (.c (.fn n66 [] [])) [(k n1),(.t b8f)] .share)),(og b8v b3k false (.call (.c (.fn n25 [] [])) [(.t b7w),(.t c2p)] .borrow)),(og c3o b3k false (.un .not (.t b8v))),(oq c3g (.pick (.t b3k) (.c (.d (.bool true))) (.t c3o))),(om b4y c3g),(og c1y b4y false (.mv (.t n9))),(og c3q b4y false (.bin .neq (.t c1y) (k n0))),(oq b1a (.pick (.t b4y) (.c (.d (.bool true))) (.t c3q))),(om b2v b1a),(og b8r b2v false (.mv (.t n8))),(og c3u b2v false (.bslice n1 n3 [(.int .i64 (.l (i n0)))] [(n0,(k n0)),(n1,(k n0)),(n2,(k n1))] false)),(og c1h b2v false (.call (.c (.fn n33 [] [])) [(.t b8r),(.t c3u)] .borrow)),(og c3f b2v false (.un .not (.t c1h))),(oq b8e (.pick (.t b2v) (.c (.d (.bool true))) (.t c3f))),(om c6b b8e),(og d0w c6b false (.mv (.t n12))),(og d0x c6b false (.bin .neq (.t d0w) (k n0))),(oq d0z (.pick (.t c6b) (.c (.d (.bool true))) (.t d0x))),(om c3l d0z),(og c1j c3l false (.mv (.t n11))),(og c5d c3l false (.bin .neq (.t c1j) (k n2))),(oq c5o (.pick (.t c3l) (.c (.d (.bool true))) (.t c5d))),(om b4f c5o),(og d0n b4f false (.faddr n0 (.t n10))),(og d0t b4f false (.load none (.t d0n))),(og d1a b4f false (.bin .neq (.t d0t) (k n0))),(oq d0u (.pick (.t b4f) (.c (.d (.bool true))) (.t d1a))),(om b8c d0u),(og d4v b8c false (.faddr n2 (.t n10))),(og d6b b8c false (.load none (.t d4v))),(og d1l b8c false (.len (.t d6b))),(og d3x b8c false (.bin .neq (.t d1l) (k n2))),(oq c7z (.pick (.t b8c) (.c (.d (.bool true))) (.t d3x))),(om c5y c7z),(og d5e c5y false (.faddr n2 (.t n10))),(og d6v c5y false (.load none (.t d5e))),(og d5a c5y false (.iaddr n3 (.t d6v) (k n0))),(og d8x c5y false (.faddr n0 (.t d5a))),(og d9j c5y false (.load none (.t d8x))),(og e2f c5y false (.bin .neq (.t d9j) (k n1))),(oq e6l (.pick (.t c5y) (.c (.d (.bool true))) (.t e2f))),(om c5e e6l),(og d4n c5e false (.faddr n2 (.t n10))),(og e5y c5e false (.load none (.t d4n))),(og d0p c5e false (.iaddr n3 (.t e5y) (k n1))),(og d9o c5e false (.faddr n0 (.t d0p))),(og e6j c5e false (.load none (.t d9o))),(og e6m c5e false (.bin .neq (.t e6j) (k n1))),(oq e9y (.pick (.t c5e) (.c (.d (.bool true))) (.t e6m))),(om d4p e9y),(og e6f d4p false (.mv (.t n15))),(og e4k d4p false (.bin .neq (.t e6f) (k n0))),(oq e6i (.pick (.t d4p) (.c (.d (.bool true))) (.t e4k))),(om d1h e6i),(og f5o d1h false (.mv (.t n13))),(og f4h d1h false (.build [(.int .u8 (.l (i n0))),(.int .i64 (.l (i n0)))] [])),(og f3k d1h false (.build [(.int .u8 (.l (i n0))),(.int .i64 (.l (i n0)))] [(n1,n1,(k n1))])),(og e5b d1h false (.build [(.int .u8 (.l (i n0))),(.int .i64 (.l (i n0)))] [(n1,n1,(k n2))])),(og e5g d1h false (.bslice n2 n3 [(.int .u8 (.l (i n0))),(.int .i64 (.l (i n0)))] [(n0,(.t f4h)),(n1,(.t f3k)),(n2,(.t e5b))] false)),(og e0a d1h false (.call (.c (.fn n62 [] [])) [(.t f5o),(.t e5g)] .borrow)),(og e4d d1h false (.un .not (.t e0a))),(oq e6x (.pick (.t d1h) (.c (.d (.bool true))) (.t e4d))),(om d5s e6x),(og e3z d5s false (.mv (.t n14))),(og e6e d5s false (.bslice n1 n3 [(.int .i64 (.l (i n0)))] [(n0,(k n2)),(n1,(k n2)),(n2,(k n2))] false)),(og e5q d5s false (.call (.c (.fn n33 [] [])) [(.t e3z),(.t e6e)] .borrow)),(og f9q d5s false (.un .not (.t e5q))),(oq f9h (.pick (.t d5s) (.c (.d (.bool true))) (.t f9q))),(om e6v f9h),(og f4x e6v false (.mv (.t n19))),(og f8z e6v false (.bin .neq (.t f4x) (k n7))),(oq g1r (.pick (.t e6v) (.c (.d (.bool true))) (.t f8z))),(om e7a g1r),(og e0j e7a false (.mv (.t n21))),(og e5j e7a false (.bin .neq (.t e0j) (k n7))),(oq e7d (.pick (.t e7a) (.c (.d (.bool true))) (.t e5j))),(om d9y e7d),(og d8s d9y false (.mv (.t n23))),(og e5r d9y false (.bin .neq (.t d8s) (k n0))),(oq d9r (.pick (.t d9y) (.c (.d (.bool true))) (.t e5r))),(om d2i d9r),(og f1d d2i false (.mv (.t n22))),(og e6a d2i false (.bslice n1 n1 [(.int .i64 (.l (i n0)))] [(n0,(k n0))] false)),(og f8g d2i false (.call (.c (.fn n33 [] [])) [(.t f1d),(.t e6a)] .borrow)),(og f3g d2i false (.un .not (.t f8g))),(oq e6u (.pick (.t d2i) (.c (.d (.bool true))) (.t f3g))),(om d9n e6u),(og e5z d9n false (.mv (.t n25))),(og e6h d9n false (.bin .neq (.t e5z) (k n0))),(oq d7p (.pick (.t d9n) (.c (.d (.bool true))) (.t e6h))),(om e0q d7p),(og e5v e0q false (.mv (.t n24))),(oq e7e (.pick (.t e0q) (.c (.d (.bool true))) (.t e5v))),(om d4r e7e),(og e5w d4r false (.mv (.t n27))),(og f7a d4r false (.bin .neq (.t e5w) (k n0))),(oq g0l (.pick (.t d4r) (.c (.d (.bool true))) (.t f7a))),(om d7s g0l),(og f2v d7s false (.mv (.t n26))),(og e6n d7s false (.bin .neq (.t f2v) (k n2))),(oq e5f (.pick (.t d7s) (.c (.d (.bool true))) (.t e6n)))])
 (.cond (.t e5f) (.seq (.ops [(oq n0 (.mv (.c (.d (.bool false)))))])
 .ret)
 .skip))
 (.seq (.draw n3 [(dq (oq e6r (.load (some n13) (.t n1))) n0 n0 [n0,n1,n2] [] false false),(dq (oq e5m (.load (some n13) (.t n1))) n1 n0 [n0,n1,n2] [] false true),(dq (oq e5u (.load (some n13) (.t n1))) n2 n0 [n0,n1,n2] [] false true),(dz (oq n28 (.alloc [.nil,.nil,.nil,.nil,.nil,.nil,.nil,(.int .i64 (.l (i n0))),.nil,.nil,.nil,.nil,(.int .i64 (.l (i n0)))])) n3 n0),(dz (oq n29 (.alloc [.nil,.nil,.nil,.nil,.nil,.nil,.nil,(.int .i64 (.l (i n0))),.nil,.nil,.nil,.nil,(.int .i64 (.l (i n0)))])) n4 n1),(dz (oq n30 (.alloc [.nil,.nil,.nil,.nil,.nil,.nil,.nil,(.int .i64 (.l (i n0))),.nil,.nil,.nil,.nil,(.int .i64 (.l (i n0)))])) n5 n2),⟨⟨none,none,.store n13 (.t n28) (.t e6r)⟩,n6,n3,[],[n3,n0,n4,n5],false,false⟩,⟨⟨none,none,.store n13 (.t n29) (.t e5m)⟩,n7,n3,[],[n4,n1,n6,n0,n3,n5],false,false⟩,⟨⟨none,none,.store n13 (.t n30) (.t e5u)⟩,n8,n3,[],[n5,n2,n7,n0,n1,n3,n4,n6],true,false⟩])
 (.seq (.ops [(oq e6p (.bslice n1 n6 [(.int .i64 (.l (i n0)))] [(n0,(k n0)),(n1,(k n0)),(n2,(k n0)),(n3,(k n0)),(n4,(k n0)),(n5,(k n2))] false)),(oq e6y (.call (.c (.fn n64 [] [])) [(.t e6p)] .share)),(of f2h n3 n28),⟨none,none,.store n5 (.t f2h) (.t e6y)⟩])
 (.seq (.draw n0 [(dz (oq e9t (.bslice0 n5)) n0 n0),(dz (of e9n n2 n1) n1 n0),(dq (of e2l n3 n1) n4 n0 [] [] false true),(dq (of f1l n3 n1) n6 n0 [] [] false true),(dz (ol f2a e9n) n2 n0),(dq (oq f1m (.load (some n5) (.t e2l))) n5 n0 [] [] false true),(dq (oq e5a (.load (some n5) (.t f1l))) n7 n0 [] [] false true),(dq (oq e6s (.bsliceP n5 n2 [.nil,.nil,.nil,.nil,(.int .i64 (.l (i n0)))] [(n0,(.t f1m)),(n1,(.t e5a))])) n8 n0 [] [] false true),(dq (oq f0p (.appendN n5 b0g (.t e9t) (.t f2a) true)) n3 n0 [] [n0,n2,n1] false false),(dq (oq e6c (.appendN n5 b0g (.t f0p) (.t e6s) true)) n9 n0 [] [n3,n8,n0,n2,n1,n5,n7,n4,n6] true false),(dz (of e7g n2 n29) n10 n0),⟨⟨none,none,.store n1 (.t e7g) (.t e6c)⟩,n11,n0,[],[n10,n9,n0,n1,n2,n3,n4,n5,n6,n7,n8],true,false⟩])
 (.seq (.ops [(oq e7f (.build [.nil,.nil,.nil,.nil,(.int .i64 (.l (i n0)))] [])),(of d9z n8 n30),⟨none,none,.store n5 (.t d9z) (.t e7f)⟩])
 (.seq (.ops [(oq e4u (.load (some n13) (.t n28))),(oq e5o (.call (.c (.fn n20 [] [])) [(.t e4u)] .share)),(om e0b e5o),(oq f0i (.extract (.t e0b) n0)),(oq f1p (.extract (.t e0b) n1)),(oq e5p (.extract (.t e0b) n2)),(om n7 e5p)])
 (.seq (.ops [(oq e5e (.load (some n13) (.t n28))),(oq e5t (.call (.c (.fn n28 [] [])) [(.t e5e)] .share)),(om e4w e5t),(oq e9p (.extract (.t e4w) n0)),(oq e5s (.extract (.t e4w) n1)),(om n9 e5s)])
 (.seq (.ops [(oq e7i (.load (some n13) (.t n28))),(oq f0d (.call (.c (.fn n58 [] [])) [(.t e7i),(k n3)] .share)),(om d9v f0d),(oq f8k (.extract (.t d9v) n0)),(oq f4r (.extract (.t d9v) n1)),(oq e7u (.extract (.t d9v) n2)),(om n12 e7u)])
 (.seq (.ops [(oq e7z (.load (some n13) (.t n28))),(oq e8r (.call (.c (.fn n58 [] [])) [(.t e7z),(k n2)] .share)),(om e0t e8r),(oq e8p (.extract (.t e0t) n0)),(oq e8m (.extract (.t e0t) n1)),(oq e6d (.extract (.t e0t) n2)),(om n15 e6d)])
 (.seq (.ops [(oq d9c (.load (some n13) (.t n1))),(oq e6q (.call (.c (.fn n31 [] [])) [(.t d9c)] .share)),(om d7m e6q),(oq h3s (.extract (.t d7m) n0)),(oq h1c (.extract (.t d7m) n1)),(oq g0h (.extract (.t d7m) n2)),(om n19 g0h)])
 (.seq (.draw n0 [(dz (oq e7b (.bsliceP n1 n1 [(.int .i64 (.l (i n0)))] [(n0,(k n0))])) n1 n0),(dq (oq e5h (.bsliceP n1 n2 [(.int .i64 (.l (i n0)))] [(n0,(k n0)),(n1,(k n0))])) n3 n0 [] [] false true),(dq (oq e4v (.load (some n13) (.t n1))) n0 n0 [] [] false true),(dq (oq e5d (.call (.c (.fn n66 [] [])) [(k n3),(.t e7b)] .share)) n2 n0 [] [n1] false false),(dq (oq e2i (.call (.c (.fn n38 [] [])) [(.t e4v),(.t e5d),(.t e5h)] .share)) n4 n0 [] [n0,n2,n3,n1] true false),(dz (om f1j e2i) n5 n0),(dz (oq e8g (.extract (.t f1j) n0)) n6 n0),(dz (oq f6x (.extract (.t f1j) n1)) n7 n0),(dz (om n21 f6x) n8 n0)])
 (.seq (.draw n0 [(dz (oq g1n (.bsliceP n1 n2 [(.int .i64 (.l (i n0)))] [(n0,(k n0)),(n1,(k n1))])) n1 n0),(dq (oq f3c (.bsliceP n1 n2 [(.int .i64 (.l (i n0)))] [(n0,(k n0)),(n1,(k n2))])) n3 n0 [] [] false true),(dq (oq f7o (.load (some n13) (.t n1))) n0 n0 [] [] false true),(dq (oq e6t (.call (.c (.fn n66 [] [])) [(k n1),(.t g1n)] .share)) n2 n0 [] [n1] false false),(dq (oq g1w (.call (.c (.fn n38 [] [])) [(.t f7o),(.t e6t),(.t f3c)] .share)) n4 n0 [] [n0,n2,n3,n1] true false),(dz (om f0x g1w) n5 n0),(dz (oq g4y (.extract (.t f0x) n0)) n6 n0),(dz (oq g2d (.extract (.t f0x) n1)) n7 n0),(dz (om n23 g2d) n8 n0)])
 (.seq (.draw n0 [(dq (oq f5k (.bsliceP n1 n2 [(.int .i64 (.l (i n0)))] [(n0,(k n0)),(n1,(k n3))])) n2 n0 [] [] false true),(dq (oq f9z (.load (some n13) (.t n1))) n0 n0 [] [] false true),(dz (oq f6z (.call (.c (.fn n65 [] [])) [] .share)) n1 n0),(dq (oq g0j (.call (.c (.fn n38 [] [])) [(.t f9z),(.t f6z),(.t f5k)] .share)) n3 n0 [] [n0,n1,n2] true false),(dz (om f0f g0j) n4 n0),(dz (oq g9c (.extract (.t f0f) n0)) n5 n0),(dz (oq g1o (.extract (.t f0f) n1)) n6 n0),(dz (om n25 g1o) n7 n0)])
 (.seq (.ops [(oq f8c (.build [(.int .i64 (.l (i n0))),.nil,.nil] [(n0,n1,(.c (.d (.int .i64 (.l (.negSucc n1))))))])),(oq f3q (.build [(.int .i64 (.l (i n0))),.nil,.nil] [(n0,n1,(k n4))])),(oq f4i (.build [(.int .i64 (.l (i n0))),.nil,.nil] [(n0,n1,(k n0))])),(oq g1e (.build [(.int .u8 (.l (i n0))),(.int .i64 (.l (i n0)))] [])),(oq g0n (.bslice n2 n1 [(.int .u8 (.l (i n0))),(.int .i64 (.l (i n0)))] [(n0,(.t g1e))] false)),(oq f8y (.call (.c (.fn n67 [] [])) [] .share)),(oq f8w (.bslice n3 n1 [(.int .i64 (.l (i n0))),.nil,.nil] [(n0,(.t f8y))] false)),(oq f6m (.build [(.int .i64 (.l (i n0))),.nil,.nil] [(n0,n1,(.c (.d (.int .i64 (.l (.negSucc n0)))))),(n1,n1,(.t g0n)),(n2,n1,(.t f8w))])),(oq f8d (.bslice n1 n2 [(.int .i64 (.l (i n0)))] [(n0,(k n1)),(n1,(k n1))] false)),(oq f4n (.call (.c (.fn n66 [] [])) [(k n0),(.t f8d)] .share)),(oq f8h (.bslice n1 n2 [(.int .i64 (.l (i n0)))] [(n0,(k n2)),(n1,(k n1))] false)),(oq f6e (.call (.c (.fn n66 [] [])) [(k n0),(.t f8h)] .share)),(oq f9g (.bslice n1 n1 [(.int .i64 (.l (i n0)))] [(n0,(k e4l))] false)),(oq f3j (.call (.c (.fn n66 [] [])) [(k n0),(.t f9g)] .share)),(oq f3p (.build [(.int .u8 (.l (i n0))),(.int .i64 (.l (i n0)))] [])),(oq f9r (.bslice n2 n1 [(.int .u8 (.l (i n0))),(.int .i64 (.l (i n0)))] [(n0,(.t f3p))] false)),(oq f8r (.build [(.int .i64 (.l (i n0))),.nil,.nil] [(n0,n1,(k n0)),(n1,n1,(.t f9r))])),(oq e5i (.bslice n3 n8 [(.int .i64 (.l (i n0))),.nil,.nil] [(n0,(.t f8c)),(n1,(.t f3q)),(n2,(.t f4i)),(n3,(.t f6m)),(n4,(.t f4n)),(n5,(.t f6e)),(n6,(.t f3j)),(n7,(.t f8r))] false)),(om n31 e5i)])
 (.seq (.seq (.ops [(oq n32 (.mv (k n0)))])
 (.block n0 (.loop (.seq (.seq (.ops [(om f7s n32),(om f4f n31),(oq g0f (.len (.t f4f))),(oq f4t (.bin .lss (.t f7s) (.t g0f)))])
 (.cond (.t f4t) .skip
 (.exit n0)))
 (.seq (.block n1 (.seq (.ops [(om g2o n31),(om f9f n32),(oq f7f (.iaddr n3 (.t g2o) (.t f9f))),(oq g2v (.load (some n3) (.t f7f))),(oq f8l (.call (.c (.fn n36 [] [])) [(.t g2v)] .share)),(oq f5w (.call (.c (.fn n35 [] [])) [(.t f8l)] .borrow)),(oq g1k (.bin .neq (.t f5w) (k n4)))])
 (.cond (.t g1k) (.seq (.ops [(oq n0 (.mv (.c (.d (.bool false)))))])
 .ret)
 .skip)))
 (.ops [(om f4k n32),(oq f9o (.bin .add (.t f4k) (k n1))),(om n32 f9o)]))))))
 (.seq (.ops [(oq f6b (.call (.c (.fn n67 [] [])) [] .share)),(oq n33 (.alloc [(.int .i64 (.l (i n0))),.nil,.nil])),⟨none,none,.store n3 (.t n33) (.t f6b)⟩])
 (.seq (.seq (.ops [(oq n34 (.mv (k n0)))])
 (.block n2 (.loop (.seq (.seq (.ops [(om g0c n34),(oq g0p (.bin .lss (.t g0c) (k n5)))])
 (.cond (.t g0p) .skip
 (.exit n2)))
 (.seq (.block n3 (.ops [(oq f7t (.build [(.int .u8 (.l (i n0))),(.int .i64 (.l (i n0)))] [])),(oq f8e (.bslice n2 n1 [(.int .u8 (.l (i n0))),(.int .i64 (.l (i n0)))] [(n0,(.t f7t))] false)),(oq f7u (.load (some n3) (.t n33))),(oq f4m (.bslice n3 n1 [(.int .i64 (.l (i n0))),.nil,.nil] [(n0,(.t f7u))] false)),(oq f8b (.build [(.int .i64 (.l (i n0))),.nil,.nil] [(n1,n1,(.t f8e)),(n2,n1,(.t f4m))])),⟨none,none,.store n3 (.t n33) (.t f8b)⟩]))
 (.ops [(om g2a n34),(oq g0y (.bin .add (.t g2a) (k n1))),(om n34 g0y)]))))))
 (.seq (.draw n0 [(dz (om f9s n7) n0 n0),(dz (oq f5u (.bin .eql (.t f9s) (k n12))) n1 n0),(dz (om e6z f5u) n2 n0),(dz (og f9x e6z true (.mv (.t n9))) n3 n0),(dz (og f5d e6z true (.bin .eql (.t f9x) (k n12))) n4 n0),(dz (oq f9e (.pick (.t e6z) (.t f5d) (.c (.d (.bool false))))) n5 n0),(dz (om e5c f9e) n6 n0),(dz (og f5z e5c true (.mv (.t n12))) n7 n0),(dz (og f5q e5c true (.bin .eql (.t f5z) (k n3))) n8 n0),(dz (oq f3l (.pick (.t e5c) (.t f5q) (.c (.d (.bool false))))) n9 n0),(dz (om e7c f3l) n10 n0),(dz (og g0q e7c true (.mv (.t n15))) n11 n0),(dz (og g1c e7c true (.bin .eql (.t g0q) (k n12))) n12 n0),(dz (oq f9t (.pick (.t e7c) (.t g1c) (.c (.d (.bool false))))) n13 n0),(dz (om e2p f9t) n14 n0),(dz (og g1i e2p true (.load (some n13) (.t n29))) n15 n0),(dq (og f6f e2p true (.call (.c (.fn n59 [] [])) [(.t g1i)] .borrow)) n16 n0 [] [n15,n14,n13,n10,n12,n9,n6,n8,n5,n2,n4,n1,n0,n3,n7,n11] true false),(dz (og f4o e2p true (.bin .eql (.t f6f) (k n5))) n17 n0),(dz (oq f7k (.pick (.t e2p) (.t f4o) (.c (.d (.bool false))))) n18 n0),(dz (om e1c f7k) n19 n0),(dz (og f3a e1c true (.load (some n13) (.t n30))) n20 n0),(dq (og f5a e1c true (.call (.c (.fn n59 [] [])) [(.t f3a)] .borrow)) n21 n0 [] [n20,n19,n18,n16,n14,n17,n13,n10,n12,n9,n6,n8,n5,n2,n4,n1,n0,n3,n7,n11,n15] true false),(dz (og f9a e1c true (.bin .eql (.t f5a) (k n4))) n22 n0),(dz (oq g0d (.pick (.t e1c) (.t f9a) (.c (.d (.bool false))))) n23 n0),(dz (om e7h g0d) n24 n0),(dz (og f4u e7h true (.mv (.t n19))) n25 n0),(dz (og g0x e7h true (.bin .eql (.t f4u) (k n7))) n26 n0),(dz (oq f3x (.pick (.t e7h) (.t g0x) (.c (.d (.bool false))))) n27 n0),(dz (om e5n f3x) n28 n0),(dz (og f6v e5n true (.mv (.t n21))) n29 n0),(dz (og f9b e5n true (.bin .eql (.t f6v) (k n7))) n30 n0),(dz (oq f3h (.pick (.t e5n) (.t f9b) (.c (.d (.bool false))))) n31 n0),(dz (om e6k f3h) n32 n0),(dz (og g1s e6k true (.mv (.t n23))) n33 n0),(dz (og f6r e6k true (.bin .eql (.t g1s) (k n7))) n34 n0),(dz (oq f8v (.pick (.t e6k) (.t f6r) (.c (.d (.bool false))))) n35 n0),(dz (om e6g f8v) n36 n0),(dz (og f3w e6g true (.mv (.t n25))) n37 n0),(dz (og f4b e6g true (.bin .eql (.t f3w) (k n3))) n38 n0),(dz (oq f9c (.pick (.t e6g) (.t f4b) (.c (.d (.bool false))))) n39 n0),(dz (om d9u f9c) n40 n0),(dz (og g0a d9u true (.load (some n3) (.t n33))) n41 n0),(dq (og f9l d9u true (.call (.c (.fn n36 [] [])) [(.t g0a)] .share)) n42 n0 [] [n41,n40,n39,n36,n38,n35,n32,n34,n31,n28,n30,n27,n24,n26,n23,n21,n19,n22,n18,n16,n14,n17,n13,n10,n12,n9,n6,n8,n5,n2,n4,n1,n0,n3,n7,n11,n15,n20,n25,n29,n33,n37] true false),(dq (og g2y d9u true (.call (.c (.fn n35 [] [])) [(.t f9l)] .borrow)) n43 n0 [] [n42,n40,n41,n39,n36,n38,n35,n32,n34,n31,n28,n30,n27,n24,n26,n23,n21,n19,n22,n18,n16,n14,n17,n13,n10,n12,n9,n6,n8,n5,n2,n4,n1,n0,n3,n7,n11,n15,n20,n25,n29,n33,n37] true false),(dz (og f4z d9u true (.bin .eql (.t g2y) (k n4))) n44 n0),(dz (oq f8f (.pick (.t d9u) (.t f4z) (.c (.d (.bool false))))) n45 n0),(dz (om d2o f8f) n46 n0),(dz (og g0s d2o true (.faddr n2 (.t n33))) n47 n0),(dz (og f5t d2o true (.load none (.t g0s))) n48 n0),(dz (og f7i d2o true (.iaddr n3 (.t f5t) (k n0))) n49 n0),(dz (og f4s d2o true (.load (some n3) (.t f7i))) n50 n0),(dq (og f3z d2o true (.call (.c (.fn n36 [] [])) [(.t f4s)] .share)) n51 n0 [] [n50,n46,n49,n48,n47,n45,n43,n40,n44,n39,n36,n38,n35,n32,n34,n31,n28,n30,n27,n24,n26,n23,n21,n19,n22,n18,n16,n14,n17,n13,n10,n12,n9,n6,n8,n5,n2,n4,n1,n0,n3,n7,n11,n15,n20,n25,n29,n33,n37,n42,n41] true false),(dq (og g2n d2o true (.call (.c (.fn n35 [] [])) [(.t f3z)] .borrow)) n52 n0 [] [n51,n46,n50,n49,n48,n47,n45,n43,n40,n44,n39,n36,n38,n35,n32,n34,n31,n28,n30,n27,n24,n26,n23,n21,n19,n22,n18,n16,n14,n17,n13,n10,n12,n9,n6,n8,n5,n2,n4,n1,n0,n3,n7,n11,n15,n20,n25,n29,n33,n37,n42,n41] true false),(dz (og f4l d2o true (.bin .eql (.t g2n) (k n0))) n53 n0),(dz (oq f3v (.pick (.t d2o) (.t f4l) (.c (.d (.bool false))))) n54 n0),(dz (om e3t f3v) n55 n0),(dq (og f4p e3t true (.load (some n13) (.t n1))) n56 n0 [] [] false true),(dq (og f5b e3t true (.call (.c (.fn n65 [] [])) [] .share)) n57 n0 [] [n55,n54,n52,n46,n53,n45,n43,n40,n44,n39,n36,n38,n35,n32,n34,n31,n28,n30,n27,n24,n26,n23,n21,n19,n22,n18,n16,n14,n17,n13,n10,n12,n9,n6,n8,n5,n2,n4,n1,n0,n3,n7,n11,n15,n20,n25,n29,n33,n37,n42,n41,n51,n50,n49,n48,n47] false false),(dq (og g1z e3t true (.call (.c (.fn n47 [] [])) [(.t f4p),(.t f5b)] .borrow)) n58 n0 [] [n56,n57,n55,n54,n52,n46,n53,n45,n43,n40,n44,n39,n36,n38,n35,n32,n34,n31,n28,n30,n27,n24,n26,n23,n21,n19,n22,n18,n16,n14,n17,n13,n10,n12,n9,n6,n8,n5,n2,n4,n1,n0,n3,n7,n11,n15,n20,n25,n29,n33,n37,n42,n41,n51,n50,n49,n48,n47] true false),(dz (oq g1q (.pick (.t e3t) (.t g1z) (.c (.d (.bool false))))) n59 n0),(dz (om d6y g1q) n60 n0),(dq (og f9u d6y true (.load (some n13) (.t n1))) n61 n0 [] [] false true),(dq (og f6n d6y true (.bslice n1 n3 [(.int .i64 (.l (i n0)))] [(n0,(k n0)),(n1,(k n1)),(n2,(k n2))] false)) n62 n0 [] [n60,n59,n58,n55,n54,n52,n46,n53,n45,n43,n40,n44,n39,n36,n38,n35,n32,n34,n31,n28,n30,n27,n24,n26,n23,n21,n19,n22,n18,n16,n14,n17,n13,n10,n12,n9,n6,n8,n5,n2,n4,n1,n0,n3,n7,n11,n15,n20,n25,n29,n33,n37,n42,n41,n51,n50,n49,n48,n47,n56,n57] false false),(dq (og f5p d6y true (.call (.c (.fn n66 [] [])) [(k n1),(.t f6n)] .share)) n63 n0 [] [n62,n60,n59,n58,n55,n54,n52,n46,n53,n45,n43,n40,n44,n39,n36,n38,n35,n32,n34,n31,n28,n30,n27,n24,n26,n23,n21,n19,n22,n18,n16,n14,n17,n13,n10,n12,n9,n6,n8,n5,n2,n4,n1,n0,n3,n7,n11,n15,n20,n25,n29,n33,n37,n42,n41,n51,n50,n49,n48,n47,n56,n57] false false),(dq (og f7g d6y true (.call (.c (.fn n47 [] [])) [(.t f9u),(.t f5p)] .borrow)) n64 n0 [] [n61,n63,n60,n59,n58,n55,n54,n52,n46,n53,n45,n43,n40,n44,n39,n36,n38,n35,n32,n34,n31,n28,n30,n27,n24,n26,n23,n21,n19,n22,n18,n16,n14,n17,n13,n10,n12,n9,n6,n8,n5,n2,n4,n1,n0,n3,n7,n11,n15,n20,n25,n29,n33,n37,n42,n41,n51,n50,n49,n48,n47,n56,n57,n62] true false),(dz (og f7e d6y true (.un .not (.t f7g))) n65 n0),(dz (oq f4e (.pick (.t d6y) (.t f7e) (.c (.d (.bool false))))) n66 n0),(dz (om e0i f4e) n67 n0),(dq (og f5c e0i true (.load (some n13) (.t n3))) n68 n0 [] [] false true),(dq (og f3y e0i true (.call (.c (.fn n65 [] [])) [] .share)) n69 n0 [] [n67,n66,n64,n60,n65,n59,n58,n55,n54,n52,n46,n53,n45,n43,n40,n44,n39,n36,n38,n35,n32,n34,n31,n28,n30,n27,n24,n26,n23,n21,n19,n22,n18,n16,n14,n17,n13,n10,n12,n9,n6,n8,n5,n2,n4,n1,n0,n3,n7,n11,n15,n20,n25,n29,n33,n37,n42,n41,n51,n50,n49,n48,n47,n56,n57,n61,n63,n62] false false),(dq (og f7r e0i true (.call (.c (.fn n47 [] [])) [(.t f5c),(.t f3y)] .borrow)) n70 n0 [] [n68,n69,n67,n66,n64,n60,n65,n59,n58,n55,n54,n52,n46,n53,n45,n43,n40,n44,n39,n36,n38,n35,n32,n34,n31,n28,n30,n27,n24,n26,n23,n21,n19,n22,n18,n16,n14,n17,n13,n10,n12,n9,n6,n8,n5,n2,n4,n1,n0,n3,n7,n11,n15,n20,n25,n29,n33,n37,n42,n41,n51,n50,n49,n48,n47,n56,n57,n61,n63,n62] true false),(dz (og f3u e0i true (.un .not (.t f7r))) n71 n0),(dz (oq g0m (.pick (.t e0i) (.t f3u) (.c (.d (.bool false))))) n72 n0),(dz (om d9w g0m) n73 n0),(dq (og f5m d9w true (.load (some n13) (.t n28))) n74 n0 [] [] false true),(dq (og f9d d9w true (.call (.c (.fn n67 [] [])) [] .share)) n75 n0 [] [n73,n72,n70,n67,n71,n66,n64,n60,n65,n59,n58,n55,n54,n52,n46,n53,n45,n43,n40,n44,n39,n36,n38,n35,n32,n34,n31,n28,n30,n27,n24,n26,n23,n21,n19,n22,n18,n16,n14,n17,n13,n10,n12,n9,n6,n8,n5,n2,n4,n1,n0,n3,n7,n11,n15,n20,n25,n29,n33,n37,n42,n41,n51,n50,n49,n48,n47,n56,n57,n61,n63,n62,n68,n69] false false),(dq (og g1u d9w true (.call (.c (.fn n47 [] [])) [(.t f5m),(.t f9d)] .borrow)) n76 n0 [] [n74,n75,n73,n72,n70,n67,n71,n66,n64,n60,n65,n59,n58,n55,n54,n52,n46,n53,n45,n43,n40,n44,n39,n36,n38,n35,n32,n34,n31,n28,n30,n27,n24,n26,n23,n21,n19,n22,n18,n16,n14,n17,n13,n10,n12,n9,n6,n8,n5,n2,n4,n1,n0,n3,n7,n11,n15,n20,n25,n29,n33,n37,n42,n41,n51,n50,n49,n48,n47,n56,n57,n61,n63,n62,n68,n69] true false),(dz (og f9m d9w true (.un .not (.t g1u))) n77 n0),(dz (oq g0t (.pick (.t d9w) (.t f9m) (.c (.d (.bool false))))) n78 n0),(dz (om e9o g0t) n79 n0),(dq (og f7p e9o true (.call (.c (.fn n19 [] [])) [] .borrow)) n80 n0 [] [n79,n78,n76,n73,n77,n72,n70,n67,n71,n66,n64,n60,n65,n59,n58,n55,n54,n52,n46,n53,n45,n43,n40,n44,n39,n36,n38,n35,n32,n34,n31,n28,n30,n27,n24,n26,n23,n21,n19,n22,n18,n16,n14,n17,n13,n10,n12,n9,n6,n8,n5,n2,n4,n1,n0,n3,n7,n11,n15,n20,n25,n29,n33,n37,n42,n41,n51,n50,n49,n48,n47,n56,n57,n61,n63,n62,n68,n69,n74,n75] true false),(dz (oq f7n (.pick (.t e9o) (.t f7p) (.c (.d (.bool false))))) n81 n0),(dz (om n0 f7n) n82 n0)])
 .ret))))))))))))))))))))))))))))))))
def x15:XFn:=⟨a15,g9x,[(.t n0)],c15⟩
def q19:Qx [0x1080801010701030601020601010601050501030501020501010501030401020401010401030301020301010301030201020201010201030101020101010124,0x6000106019113ff2cc38000ff2100000196005008014f08014e08014d08004908004408003b08003208002d08002208001908011808011608000a08010908,0xc8000600010601911bff2c1903ff1802ff1701038bfcfafa00039001ff02128d01128d00128d1612ff1501148614013f8613014086c905c904c803c802c801c8,0x1c80006000106019123ff292106ff2005ff1f04038bfcfafa00039004ff021a8d011a8d001a8d1e1aff1d0114861c013f861b014086c905c804c803c802c801,0x13f862a014086c905c804c803c802c801c8000600010601912aff2b2808ff2707ff01228d00228d2622ff25011c8624013f8623014086c805c904c803c902c8,0x102019100418633013f8632014086c905c904c803c802c801c80006000106019132ff2b300bff2f0aff2e09ff02298d01298d00298d2d29ffca2c023a862b,0xfafa0d900effc93c021e863b013f863a014086c805c904c803c902c801c80006000106019126390dff380cff01318d00318d3731ff363534032686c801c90002,0x48468cca47cb46fe0246fe45c844cb03734311ff4210ff410fff023e8d013e8d003e8d403eff3f011f860e0d823fff293d0e0d8bfc00fafafafa00fafafafafa,0x8658fe04038258fe57c356548cc955cb54fe0554fe53c352508cc851cb50fe0650fe4fc34e4a8c4d4c0219854afe0041864afe4b0124864afe0103824afe49c3,0xc10100f8c10003000103019163fe0763fe62c3615f8cc860cb5ffe085ffe5ec35d588c5c5a02198558fe5bca02428658fecf01c80002000102019158fe590124,0x6cfe6f016e000200c8020202916cfecf01010100c802956cfe0000c802956cfe096cfe6bc36a688cc869cb68fe0b68fe67c366638c656402218563fec80200f8,0x1c8000200010201917cfe0c7cfe7bc37a788cc879cb78fe0d78fe77c376738c757402218573fec901cd0002000102019173fe0a73fe72c3716c8c706d023e85,0x201918afe108afe8980c388858c878602218585fec801c80002000102019185fe0f85fe8480c383818cc882cb81fe1181fe8080c37f7c8c7e7d0221857cfec9,0x9392022f858ffe0041868ffe91013f868ffe900140868ffec905c904c803c802c801c8000600010601918ffe8e80c38d8a8c8c8b0221858afeca01c800020001,0xb958000ffc3948f8c]:=⟨_,by cbv⟩
def x19:XFn:=q19.1
def q20:Qx [0x102830bff020000008301018308ff0001008316000203c880c880fafa000390008f2404000300030102010318010f01010e01010b0101080101050101020106,0x8d110582020000008a0e05820fff02000000870b810cff0200000084088109ff01058106ff020000008c01088311ff02000000890103830eff0200000086,0x709080a0b00008b0f01468610ff000001030204060507080000880c014b860dff0000010302040500008509014a860aff0000010200008206014a8607ff0200,0x8d1000148d010c0d090a0607030400010e0b0805020f00008f13100d0a0705498601000103020406050709080a0c0b0d0e00008e120146860000010302040605,0xb151704ff141603ff0112110e0d0c0b0a090807060504030201000f10130000931502038bfc1202148d110114]:=⟨_,by cbv⟩
def x20:XFn:=q20.1
def q25:Qx [0xfd0f0d023e850bfd0e810bfd0301830bfd0c810bfd0201830bfd0a0907cc0881030083068102008306ff3603c380018f008f02ff230400012f000a06000a0102,0x52503060005c88005ff2103000bc38004ff211b041ac4138c1916cc13fd188a13fd178113fd03028313fd158a13fd148113fd02028313fd1211c40b8c108e0b,0x288129ff0426038227ff032524038426ff01238124ff07052aff0503028328ff020525ff0002028323ff0c00020301050300080020041f1ccd1e8a1d81020283,0xbc48004ff212205ffc921c022ff0521ff93000bc38004ff212e040b2d8e01050706080002010309040a00008a2c27021985092b0382082a29038406]:=⟨_,by cbv⟩
def x25:XFn:=q25.1
def q28:Qx [0x3830dff02000000860102830aff020000008301018307ff0001008314000203c880c280008f23030002000216010f01010e01010b0101080101050101020106,0x8205014a8606ff020000008d100582020000008a0d05820eff02000000870a810bff0200000084078108ff01048105ff020000008c01088310ff020000008901,0x8600000103020406050709080a0b00008b0e0146860fff000001030204060507080000880b014b860cff0000010302040500008508014a8609ff000001020000,0x3ff121402ff1101138d1000138d010c0d090a0607030400010e0b0805020f00008f120f0c090605508601000103020406050709080a0c0b0d0e00008e110146,0xb1315]:=⟨_,by cbv⟩
def x28:XFn:=q28.1
def q30:Qx [0x2000000860202830bff030108ff0102028300050bb50e00020300fafafafa00fafafafafafafa0d9004ff008f02ff220d0104010113030b0103050102000103,0x500008509056805940aff020000008a00000e010c059702000000870b810cff040008010007059709ff02068107ff0200000089c90dc00200000088010dff,0xb12040d8bfc020d8222010a090807060504030201000b0c0d00008d1011018bfc0c020283010806090701030204000a050b00008b0f0a6805940001030204]:=⟨_,by cbv⟩
def x30:XFn:=q30.1
def q31:Qx [0x2000000860102830bff020000008301018308ff0001008316000203c880c280c280008f240400030002000318010f01010e01010b0101080101050101020106,0x8607ff020000008d110582020000008a0e05820fff02000000870b810cff0200000084088109ff01058106ff020000008c01088311ff02000000890103830eff,0x3020406050709080a0b00008b0f01468610ff000001030204060507080000880c014b860dff0000010302040500008509014a860aff0000010200008206014a,0x148d1101148d1000148d010c0d090a0607030400010e0b0805020f00008f13100d0a0705518601000103020406050709080a0c0b0d0e00008e12014686000001,0xb151704ff141603ff131502ff1202]:=⟨_,by cbv⟩
def x31:XFn:=q31.1
def q33:Qx [0x11ff090002030105030008000e040d0bcd0c8a00052403060005c88005ff2103000bc38004ff210a040907cc088a01068a0006ff2503c38004ff210400011a00,0xbc48004ff211005ffc90fc010ff050fff93000bc38004ff211904081814cc07178103138114ff06161501840505040115ff021211018401050000]:=⟨_,by cbv⟩
def x33:XFn:=q33.1
def q35:Qx [0xb0a02ff04220904ff0803ff01058d00058d0705ff0601258501038206ff27c880008f220200010b00010101]:=⟨_,by cbv⟩
def x35:XFn:=q35.1
def q36:Qx [0xb0402038bfcce0302528601038223fafa000390008f2203010201010501010101]:=⟨_,by cbv⟩
def x36:XFn:=q36.1
def q37:Qx [0xc88002ff220d040c8e0522030b05ff0a04ff01068d00068d0906ffcc0802538507030001fafa00039501038207ff28c880c880008f2303000200020f00020101,0xbc88003ff0e02ff0423000bcc8003ff]:=⟨_,by cbv⟩
def x37:XFn:=q37.1
def q38:Qx [0x10ff02000000850301830dff02000000820300830aff12000203c880c28006ff018f008f03ff24070006000218010d01010c01010a0101070101040101010106,0x860cff0000010000810801248609ff0200000089108111ff02000000860d810eff02000000830a810bff0004038208ff020000008b0213ff0200000088030283,0x807090a0b0c00008c13014a8600000201030504060807090a00008a11014b8612ff0000020103050406070000870e014a860fff0000020103040000840b014a,0xb111707ff101606ff0f01158d0e00158d010b080905060203000c0a0704010d00008d14120f0c090554860100020103050406]:=⟨_,by cbv⟩
def x38:XFn:=q38.1
def q40:Qx [0xfafafafa059007ff0b01010901000200fafafafa05950ac20801a80108c20801a80008ff2700fafafafa059006ff2105010601011802050200030100010103,0xd8d0000000186130dff0102030401000500018512c80f0e045887041108000101990000000100800705820eff03108a020001020fff0c0102030c07058bfc,0x705822201070605040302010009080a0b00018b1516018bfc000000018a070483000604030201000507080001891407058bfc0200000188010d8d0000000187,0xb1706058bfc]:=⟨_,by cbv⟩
def x40:XFn:=q40.1
def q45:Qx [0x8141301840706060113ff030f0e01840206010000050dff0c00020105030008000a040907cd088a00062403060005c8802103c88021c88004ff210400011900,0xb1804ff05220c06ffc90bc00cff060bff930b1705ff0a1612c009158105110dc212ff04108111ff]:=⟨_,by cbv⟩
def x45:XFn:=q45.1
def q47:Qx [0x202830dff02000000850201830aff020000008202008307ff13000203c380018f008f02ff2304000117001101011001010d01010a0101070101040101010107,0x8c10058211ff02000000890d810eff02000000860a810bff0200000083078108ff0003038205ff020000008e02088313ff020000008b02038310ff0200000088,0x8a0e014b860fff0000020103050406070000870b014a860cff00000201030400008408014a8609ff0000010000810501248606ff020000008f13058202000000,0x8501000201030504060807090b0a0c0e0d0f100000901401468600000201030504060807090b0a0c0d00008d1101468612ff00000201030504060807090a0000,0xb121604ff010e0f0b0c08090506020300100d0a0704011100009115120f0c09060659]:=⟨_,by cbv⟩
def x47:XFn:=q47.1
def q57:Qx [0x3830dff02000000860102830aff020000008301018307ff0001008314000203c880c380008f23030002000216000f01010e01010b0101080101050101020106,0x8205014a8606ff020000008d100582020000008a0d05820eff02000000870a810bff0200000084078108ff01048105ff020000008c01088310ff020000008901,0x8600000103020406050709080a0b00008b0e0146860fff000001030204060507080000880b014b860cff0000010302040500008508014a8609ff000001020000,0x3ff121402ff1101138d1000138d010c0d090a0607030400010e0b0805020f00008f120f0c090605608501000103020406050709080a0c0b0d0e00008e110146,0xb1315]:=⟨_,by cbv⟩
def x57:XFn:=q57.1
def q58:Qx [0x860202830dff02000000830201830aff0002008317000203c880c280c28004ff008f02ff24060005000400031b011001010e01010b0101080101050101020106,0x8a10058211ff02000000870d810eff02000000840a810bff01078108ff020000008f0116ff020000008c02088313ff020000008902038310ff02000000,0x1468612ff000001030204060507080000880e014b860fff000001030204050000850b014a860cff0000010200008208014a8609ff020000008d13058214ff02,0x400010f0e0b080502100000901615120f0c0906618600000103020406050709080a0c0b0d0e00008e1401468615ff00000103020406050709080a0b00008b11,0xb161a06ff151905ff141804ff1302178d1201178d1100178d010c0d090a060703]:=⟨_,by cbv⟩
def x58:XFn:=q58.1
def q59:Qx [0x890103830cff020000008601028309ff020000008301018306ff0001008311000203c880008f2202000113000f01010e01010b0101080101050101020106,0x10200008204014a8605ff020000008d0f0582020000008a0c05820dff020000008709810aff0200000084068107ff01038104ff020000008c0108830fff0200,0x8e1001468600000103020406050709080a0b00008b0d0146860eff000001030204060507080000880a014b860bff0000010302040500008507014a8608ff0000,0xb101202ff010c0d090a0607030400010e0b0805020f00008f110e0b080505628501000103020406050709080a0c0b0d0e0000]:=⟨_,by cbv⟩
def x59:XFn:=q59.1
def q62:Qx [0x11ff090002030105030008000e040d0bcd0c8a00052403060005c88005ff2103000bc38004ff210a040907cc088a01068a0006ff2503c38004ff210400011a00,0xc48004ff211005ffc90fc010ff050fff93000bc38004ff21190408181403040201a0071702820313028214ff06161502840505040115ff021211028401050000,0xb]:=⟨_,by cbv⟩
def x62:XFn:=q62.1
def q63:Qx [0x6b50e00020300fafafafa00fafafafafafafa0d90008f220d0102010110010a010209010208010107010206010105010204010103010202010201010200010b,0x2c901c800060001060106b507ff02c905c904c903c802c801c800060001060106b50200000081c901c800020001020106b50200000080cb01ca000200010201,0x200000089c905c904c903c902c901c900060001060106b50cff0200000086cf05c804c803c802c801c800060001060106b509ff0200000084ca05c904c803ca,0xfafafafa05030506b50bff00020304050605000087090140860aff00020304030000850701408608ff0002010000830501408606ff020000008b0105820eff,0x8bfc0c0e05080d05030b01020401010301000500fafafafa00fafafafafafafa0d9500020304050607090700008a0c0140860dff02000000880a020801060003,0xb010b090807060504030201000a0c0d00008d0f020d]:=⟨_,by cbv⟩
def x63:XFn:=q63.1
def q64:Qx [0x2950e810d0c01840400030bff9901050300080008040705cd068a00042403060005c8802103c2802100fafafafa059002ff2105010201011701030603070502,0xfc15141303288603c901c800020001020191cb01ca00020001020191250a04ffc909c00aff0409ff931203ff110b10029410000100c8020102910f01010100c8,0xb1602058b]:=⟨_,by cbv⟩
def x64:XFn:=q64.1
def q65:Qx [0x24286ca02c901c800030001030191004386020101000200c802020291c901010100c802950000c8029529fafa00039000ff2103010001010901050101030102,0xb0800038bfc070102030101c8010003fafa0003950601040002fafa000302039105c9]:=⟨_,by cbv⟩
def x65:XFn:=q65.1
def q66:Qx [0xa8a01062403060005c88006ff21030805038bfcfafa00039005ff07010001fafa0003950007ff24fafa00039004ff21030104010120030d05010b0503080503,0xc8029515ff05138114ff02000000810f8110ff020000008905028318ff04121101840306020111ff02000000800501830fff1200020105030008000c040b09cd,0x20000008e0501831dff00030204050600070108000088161010029417ff0003020405060500008715000100c80201029116ff020000008a1881061401010100,0x70108090b0c0a0d00008d1b193803941cff000302040506000701080b0a00008c1a0001fafa00030103911bff000302040506000701080900008b0043861aff,0x93010e0c0b0a090807060504030201000f0d10110000911c1e018bfc10050283010b0c0a0907060504030201000d080e0f00008f171d018bfc00030204050600,0xb1f04038bfc050382220e06ffc90dc00eff060dff]:=⟨_,by cbv⟩
def x66:XFn:=q66.1
def q67:Qx [0xb0100038bfc00f8c1010001fafa00039522fafa00039000ff2103010001010200]:=⟨_,by cbv⟩
def x67:XFn:=q67.1
def q70:Qx [0x58106ff090104830eff060102830bff0301018308ff0001008305ff0e01020300fafafafa0590008f2205010201012c031105030e0504080103050103020105,0x10020ab50dff0509014a880aff0206014a8807ff0c00fafafafa059003ff00000001008a0e810000000100870b810cff000000010084088109ff000000010081,0x1281010383042503060005c88004ff2103010a090706050403020100080b0c0d00018d1003058bfc0b0f01040d01020a01010701000400fafafafa0595080cc2,0x2841dff031a811bff0200000081188119ff0a0422ff0801038320ff04041cff020103831aff020000008003038318ff14000201050300080015041411cd138a,0xe070f0e000090270001fa00020102910f2601011f010002fa0002950e25014a880d24810c2301830b2221028409208121ff071e811fff061d00831eff051c1b,0x9080706050403020100111213000093292a018bfc1203038301080a090b0c0d0204030506070f000e100111000091281920029400080a090b0c0d0204030506,0xb2b02058bfc030582221704ffc916c017ff0416ff9301100f0e0d0c0b0a]:=⟨_,by cbv⟩
def x70:XFn:=q70.1
def q73:Qx [0xdff010f8d000f8d150fff1413121110056c8609058208058202010010ff2bc880c880fafa000390048f038f08ff250c000b0003010a01032701010401050102,0xeff200bff1f0a038bfc021c8d011c8d001c8d1e1cff1d016d860d1dff29000b1b0cffc8800bff1a0a038bfc0c00fafa000395251904c818cc0c2203170cff16,0xbc8800cff260bff250a038bfc0b0a038225000bcf800cffc8800bff240a038bfc00fafa000395242304228e0e220321]:=⟨_,by cbv⟩
def x73:XFn:=q73.1
def q74:Qx [0xb0402ff03c20801940023c28002ff210200010503010101]:=⟨_,by cbv⟩
def x74:XFn:=q74.1
def q75:Qx [0x50105910f0146860e05820d0c05840400030bff9901050300080008040705cd068a00042403060005c8802103c28021c28002ff210200011403070501050502,0xb1302ff03220a04ffc909c00aff0409ff931203ff110b68059410000100fafafafa]:=⟨_,by cbv⟩
def x75:XFn:=q75.1
def q80:Qx [0xdff1f0cff01188d00188d1e18ff1d1c1b1a19056c8609058208058202010019ff2bc880c280048f038f08ff240b000a00024803031103060e01010401050104,0x42a8e1022032910ff280fff270e038bfcfafa0003900eff02248d01248d00248d2624ff25016d860c25ff2a000b230bffc2800aff0d232204c821cc0d220320,0x18bfc311301049a1223fbfbfbfb049013ff213012ff2e220105030008002f04032d2ecd21060005c8802c8a022303c28011ff21000bcf800bffc2800aff222b,0x8d073a33ff06393834036e880bfafa00039015ff000000010085130482000000010084378103360483023596010c000c34ff0f0102030300f8c18014ff21c432,0x3fc10f16943e041721000000018e3d17ff000000018d3c16ff000705040302010006080b0a00018c3b15038bfc020000008a02338d020000008901338d080033,0xbc8800bff470aff1123462effc92ec0924511ff44420801944300010001010191141195004114ff40]:=⟨_,by cbv⟩
def x80:XFn:=q80.1
def q81:Qx [0xff01128d00128d1812ff1716151413056c8609058208058202010013ff2bc880c280c280048f038f08ff250c000b000a00035201190b010b0b00070901050104,0x2321098423260105030008002404032223cd21060005c880218a20811f04831e960d2603000b1d0cffc2800bffc2800aff0c241c04c81bcc0c22031a0cff190d,0x2032b2c018bfc1008832a8e29810f0883252810098bfcfb00c800c800c800c8099010ff0f098223270f098bfc250efffb00c800c800c800c809900fff260982,0x1d0002033604c835d01122083411ff0100010204030605070000873332026f85061009820500003101300997032f8130ff040e31ff022e0483012d96000d0900,0x3830200000091479602000000900d47ff020000008e440083020000008d4396020000008c0d43ff080e3fff063c0383053b96040d3bff02380083013796000d,0x814aff020000008f45028246ff0a408141ff093f3e018440ff073d813eff033902823aff02000000964c4bc002000000951102000000940e4bff020000009248,0x121613170c0d0e0b180f190000994f46027086000405060807090001020a030b00008b413a02708642ff02000000984e8102000000974d4a0184020000009349,0xbcf800cffc2800bffc2800aff235123ffc923c092000b1cc8800cff1b500bff1a420aff010405060807090001020a0315141011]:=⟨_,by cbv⟩
def x81:XFn:=q81.1
def q82:Qx [0xab50000000100830981000000010081078108ff0202018309ff0002008307ff08010203fafa00039004ff008f02ff22030104010126030b0501090504040103,0xdcd0f8a0e81020283062903060005c88006ff21030103020100040506070001870c05038bfc06fafa00039005ff050b010108010002fafa000395040ac21002,0x1bff0200000081188119ff08c91fc107011fff04061cff020202831aff020000008005028318ff0e00020105030008001504c314128cc813cf12fe0112fe1110,0x8b22193803940007020403050806090800008a210001fafa0003010391000702040305080607000089201e025286061d03821eff051c1b03841dff031a81,0xb2504038bfc050382221706ffc916c017ff0616ff93010a090807060504030201000b0c0d00008d2324018bfc0c050283010702040305080600090a010b]:=⟨_,by cbv⟩
def x82:XFn:=q82.1
def q83:Qx [0xfd0104019174c5010001fd019573c5010001fd019572c5010001fd019571c5010001fd01950bff26c380c88004ff008f02ff2305000400023200040b02020202,0xc48005ffc88004ff221704c816cd15811400830200832403000bc38005ffc88004ff221304128e111002758702010076980624030f06ff0e030d020c010b0004,0x39008ff2003821e1c0384240105030008001f04031d1ecd21060005c8801c8a1b811a02830200832503000bc38005ffc88004ff221904c818cb012203000b,0xbc38005ffc88004ff222b042a8e0a2203290aff2809ff01228d00228d2722ff2624025385c925c10123030001fafa00039508038223ff2a2108038bfcfafa,0xbc48005ff3104ffc930c004242f1effc91ec0922e04ff2d2c01b5090494]:=⟨_,by cbv⟩
def x83:XFn:=q83.1
end
end Go.Proofs.Tryz.Run
