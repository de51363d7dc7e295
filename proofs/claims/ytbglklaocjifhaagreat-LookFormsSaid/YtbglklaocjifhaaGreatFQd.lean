/- The reference's frames: In, has, rising, Product, IsOrder, CheckFrame, Many, Slim. Slim; cells; diagrams as data. Diagrams as data; IsRef, Rank. Flat; copies of lists. Conditions: none. -/
import Derived.Test.YtbglklaocjifhaaGreatFLr
import Derived.Test.YtbglklaocjifhaaGreatFNa
import Derived.Test.YtbglklaocjifhaaGreatFNb
import Derived.Test.YtbglklaocjifhaaGreatFNc
set_option linter.unusedSimpArgs false
set_option linter.unusedVariables false
namespace Go.Proofs.Tryz.Run
open Go Go.Vf Go.Proofs
open Go.Proofs.YtbglklaocjifhaaGreat
structure VaR where
 fault:Int
 n:Int
def VaR.row (v:VaR):List DV:=[.int .u8 (.v v.fault),.int .i64 (.v v.n)]
def VaR.av (v:VaR):AV:= .agg [u8 v.fault,int v.n]
def a1i (v:VaR):Prop:=if v.fault=0 then-9999<=v.n/\v.n<=9999 else v.fault<=4/\v.n=0
def vsl (n:Nat)(f:Nat->VaR):AV:= .d (.sl 2 n fun i=>(f i).row)
def c5t (z:Int):Prop:= -9223372036854775808<=z/\z<=9223372036854775807
def pos (od:Nat->Int)(v:Int):Nat->Nat->Nat
 |0,i=>i
 |k+1,i=>if od i=v then i else pos od v k (i+1)
end Go.Proofs.Tryz.Run
