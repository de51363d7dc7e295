/- Further functions, and that they are what the program has. Conditions: none. -/
import Derived.Test.YtbglklaocjifhaaGreatFLr
import Derived.Test.YtbglklaocjifhaaGreatFNa
import Derived.Test.YtbglklaocjifhaaGreatFNb
import Derived.Test.YtbglklaocjifhaaGreatFNc
set_option linter.unusedSimpArgs false
set_option linter.unusedVariables false
namespace Go.Proofs.Tryz.Run
open Go Go.Vf Go.Proofs
noncomputable section
def a77:Ann:=⟨[(n5,n8,n0)],[]⟩
def c77:a0c:=
 (.seq (.ops [(oq n2 (.box (.t n0))),(oq n4 (.mv (k n0)))])
 (.seq (.ops [(of n7 n1 n2),(ol n8 n7),(oq n9 (.len (.t n8))),(of n10 n2 n2),(ol n11 n10),(oq n12 (.len (.t n11))),(oq n13 (.bin .add (.t n9) (.t n12))),(om n5 n13)])
 (.seq (.seq (.ops [(oq n6 (.mv (k n0)))])
 (.block n0 (.loop (.seq (.seq (.ops [(om n14 n6),(of n15 n2 n2),(ol n16 n15),(oq n17 (.len (.t n16))),(oq n18 (.bin .lss (.t n14) (.t n17))),(om n19 n18),(og n20 n19 true (.mv (.t n5))),(og n21 n19 true (.bin .lss (.t n20) (k e5i))),(oq n22 (.pick (.t n19) (.t n21) (.c (.d (.bool false))))),(om n23 n22),(og n24 n23 true (.mv (.t n1))),(og n25 n23 true (.bin .gtr (.t n24) (k n0))),(oq n26 (.pick (.t n23) (.t n25) (.c (.d (.bool false)))))])
 (.cond (.t n26) .skip
 (.exit n0)))
 (.seq (.block n1 (.ops [(om n29 n5),(of n30 n2 n2),(ol n31 n30),(om n32 n6),(oq n33 (.iaddr n3 (.t n31) (.t n32))),(oq n34 (.load (some n3) (.t n33))),(om n35 n1),(oq n36 (.bin .sub (.t n35) (k n1))),(oq n37 (.call (.c (.fn n77 [] [])) [(.t n34),(.t n36)] .borrow)),(oq n38 (.bin .add (.t n29) (.t n37))),(om n5 n38)]))
 (.ops [(om n27 n6),(oq n28 (.bin .add (.t n27) (k n1))),(om n6 n28)]))))))
 (.seq (.ops [(om n39 n5),(om n4 n39)])
 .ret))))
def x77:XFn:=⟨a77,n40,[(.t n4)],c77⟩
def a78:Ann:=⟨[],[]⟩
def c78:a0c:=
 (.seq (.ops [(oq n1 (.box (.t n0))),(oq n2 (.mv (.c (.d (.bool false)))))])
 (.seq (.seq (.ops [(of n3 n0 n1),(ol n4 n3),(oq n5 (.bin .gtr (.t n4) (.c (.d (.int .u8 (.l (i n0)))))))])
 (.cond (.t n5) (.seq (.ops [(of n6 n0 n1),(ol n7 n6),(oq n8 (.bin .leq (.t n7) (.c (.d (.int .u8 (.l (i n4))))))),(om n9 n8),(og n10 n9 true (.faddr n1 (.t n1))),(og n11 n9 true (.load none (.t n10))),(og n12 n9 true (.bin .eql (.t n11) (k n0))),(oq n13 (.pick (.t n9) (.t n12) (.c (.d (.bool false))))),(om n2 n13)])
 .ret)
 .skip))
 (.seq (.ops [(of n14 n1 n1),(ol n15 n14),(oq n16 (.bin .geq (.t n15) (.c (.d (.int .i64 (.l (.negSucc d8e))))))),(om n17 n16),(og n18 n17 true (.faddr n1 (.t n1))),(og n19 n17 true (.load none (.t n18))),(og n20 n17 true (.bin .leq (.t n19) (k d7v))),(oq n21 (.pick (.t n17) (.t n20) (.c (.d (.bool false))))),(om n2 n21)])
 .ret)))
def x78:XFn:=⟨a78,n22,[(.t n2)],c78⟩
def a79:Ann:=⟨[],[]⟩
def c79:a0c:=
 (.seq (.ops [(oq n2 (.box (.t n0))),(oq n3 (.box (.t n1))),(oq n4 (.mv (.c (.d (.bool false)))))])
 (.seq (.seq (.ops [(of n5 n0 n2),(ol n6 n5),(of n7 n0 n3),(ol n8 n7),(oq n9 (.bin .neq (.t n6) (.t n8)))])
 (.cond (.t n9) (.seq (.ops [(of n10 n0 n2),(ol n11 n10),(of n12 n0 n3),(ol n13 n12),(oq n14 (.bin .lss (.t n11) (.t n13))),(om n4 n14)])
 .ret)
 .skip))
 (.seq (.ops [(of n15 n1 n2),(ol n16 n15),(of n17 n1 n3),(ol n18 n17),(oq n19 (.bin .lss (.t n16) (.t n18))),(om n4 n19)])
 .ret)))
def x79:XFn:=⟨a79,n20,[(.t n4)],c79⟩
end
theorem g7g:a0q Tryz.prog 77 x77:=a0b Tryz.func77 (by kernel_rfl) (by kernel_rfl) (by kernel_rfl) (by kernel_rfl)
theorem h2u:a0q Tryz.prog 78 x78:=a0b Tryz.func78 (by kernel_rfl) (by kernel_rfl) (by kernel_rfl) (by kernel_rfl)
theorem g8k:a0q Tryz.prog 79 x79:=a0b Tryz.func79 (by kernel_rfl) (by kernel_rfl) (by kernel_rfl) (by kernel_rfl)
end Go.Proofs.Tryz.Run
