/- Further functions, and that they are what the program has. Conditions: none. -/
import Derived.Test.YtbglklaocjifhaaGreatFLr
import Derived.Test.YtbglklaocjifhaaGreatFNa
import Derived.Test.YtbglklaocjifhaaGreatFNb
import Derived.Test.YtbglklaocjifhaaGreatFNc
set_option linter.unusedSimpArgs false
set_option linter.unusedVariables false
namespace Go.Proofs.Tryz.Run
open Go Go.Vf Go.Proofs
noncomputable section
def a23:Ann:=⟨[(n1,n1,n0)],[]⟩
def c23:a0c:=
 (.seq (.ops [(oq n1 (.box (.t n0))),(oq n2 (.mv (.c (.d (.bool false)))))])
 (.seq (.ops [(oq n3 (.load (some n3) (.t n1))),(oq n4 (.call (.c (.fn n77 [] [])) [(.t n3),(k n6)] .borrow)),(oq n5 (.bin .lss (.t n4) (k e5i))),(om n2 n5)])
 .ret))
def x23:XFn:=⟨a23,n6,[(.t n2)],c23⟩
def a24:Ann:=⟨[(n10,n5,n0),(n10,n22,n0),(n10,n34,n0)],[]⟩
def c24:a0c:=
 (.seq (.ops [(oq n2 (.box (.t n0))),(oq n4 (.mv (.c (.d (.bool false)))))])
 (.seq (.seq (.ops [(of n6 n0 n2),(ol n7 n6),(oq n8 (.bin .lss (.t n7) (.c (.d (.int .i64 (.l (.negSucc n0))))))),(om n9 n8),(og n10 n9 false (.faddr n0 (.t n2))),(og n11 n9 false (.load none (.t n10))),(og n12 n9 false (.bin .geq (.t n11) (k n4))),(oq n13 (.pick (.t n9) (.c (.d (.bool true))) (.t n12))),(om n14 n13),(og n15 n14 false (.faddr n2 (.t n2))),(og n16 n14 false (.load none (.t n15))),(og n17 n14 false (.len (.t n16))),(og n18 n14 false (.faddr n1 (.t n2))),(og n19 n14 false (.load none (.t n18))),(og n20 n14 false (.len (.t n19))),(og n21 n14 false (.bin .neq (.t n17) (.t n20))),(oq n22 (.pick (.t n14) (.c (.d (.bool true))) (.t n21)))])
 (.cond (.t n22) (.seq (.ops [(oq n4 (.mv (.c (.d (.bool false)))))])
 .ret)
 .skip))
 (.seq (.seq (.ops [(of n23 n0 n2),(ol n24 n23),(oq n25 (.bin .eql (.t n24) (.c (.d (.int .i64 (.l (.negSucc n0)))))))])
 (.cond (.t n25) (.seq (.ops [(of n26 n1 n2),(ol n27 n26),(oq n28 (.len (.t n27))),(oq n29 (.bin .eql (.t n28) (k n0))),(om n4 n29)])
 .ret)
 .skip))
 (.seq (.seq (.ops [(om n30 n1),(oq n31 (.bin .eql (.t n30) (k n0))),(om n32 n31),(og n33 n32 false (.faddr n1 (.t n2))),(og n34 n32 false (.load none (.t n33))),(og n35 n32 false (.len (.t n34))),(og n36 n32 false (.bin .eql (.t n35) (k n0))),(oq n37 (.pick (.t n32) (.c (.d (.bool true))) (.t n36)))])
 (.cond (.t n37) (.seq (.ops [(oq n4 (.mv (.c (.d (.bool false)))))])
 .ret)
 .skip))
 (.seq (.seq (.ops [(oq n5 (.mv (k n0)))])
 (.block n0 (.loop (.seq (.seq (.ops [(om n38 n5),(of n39 n1 n2),(ol n40 n39),(oq n41 (.len (.t n40))),(oq n42 (.bin .lss (.t n38) (.t n41)))])
 (.cond (.t n42) .skip
 (.exit n0)))
 (.seq (.block n1 (.seq (.draw n0 [(dz (of n45 n1 n2) n0 n0),(dz (om n47 n5) n2 n0),(dz (ol n46 n45) n1 n0),(dz (oq n48 (.iaddr n2 (.t n46) (.t n47))) n3 n0),(dz (oq n49 (.load (some n2) (.t n48))) n4 n0),(dq (oq n50 (.call (.c (.fn n78 [] [])) [(.t n49)] .borrow)) n5 n0 [] [n4,n3,n1,n2,n0] true false),(dz (oq n51 (.un .not (.t n50))) n6 n0),(dz (om n52 n51) n7 n0),(dz (og n53 n52 false (.mv (.t n5))) n8 n0),(dz (og n54 n52 false (.bin .gtr (.t n53) (k n0))) n9 n0),(dz (og n55 n52 false (.mv (.t n54))) n10 n0),(dz (og n56 n55 true (.faddr n1 (.t n2))) n11 n0),(dz (og n58 n55 true (.mv (.t n5))) n13 n0),(dz (og n59 n55 true (.bin .sub (.t n58) (k n1))) n14 n0),(dz (og n62 n55 true (.faddr n1 (.t n2))) n17 n0),(dz (og n64 n55 true (.mv (.t n5))) n19 n0),(dz (og n57 n55 true (.load none (.t n56))) n12 n0),(dz (og n60 n55 true (.iaddr n2 (.t n57) (.t n59))) n15 n0),(dz (og n61 n55 true (.load (some n2) (.t n60))) n16 n0),(dz (og n63 n55 true (.load none (.t n62))) n18 n0),(dz (og n65 n55 true (.iaddr n2 (.t n63) (.t n64))) n20 n0),(dz (og n66 n55 true (.load (some n2) (.t n65))) n21 n0),(dq (og n67 n55 true (.call (.c (.fn n79 [] [])) [(.t n61),(.t n66)] .borrow)) n22 n0 [] [n16,n21,n10,n15,n12,n14,n11,n9,n7,n8,n6,n5,n4,n3,n1,n2,n0,n13,n20,n18,n19,n17] true false),(dz (og n68 n55 true (.un .not (.t n67))) n23 n0),(dz (og n69 n52 false (.pick (.t n55) (.t n68) (.c (.d (.bool false))))) n24 n0),(dz (oq n70 (.pick (.t n52) (.c (.d (.bool true))) (.t n69))) n25 n0),(dz (om n71 n70) n26 n0),(dz (og n72 n71 false (.faddr n2 (.t n2))) n27 n0),(dz (og n74 n71 false (.mv (.t n5))) n29 n0),(dz (og n77 n71 false (.mv (.t n1))) n32 n0),(dz (og n78 n71 false (.bin .sub (.t n77) (k n1))) n33 n0),(dz (og n73 n71 false (.load none (.t n72))) n28 n0),(dz (og n75 n71 false (.iaddr n3 (.t n73) (.t n74))) n30 n0),(dz (og n76 n71 false (.load (some n3) (.t n75))) n31 n0),(dq (og n79 n71 false (.call (.c (.fn n24 [] [])) [(.t n76),(.t n78)] .borrow)) n34 n0 [] [n31,n33,n26,n30,n28,n29,n27,n25,n22,n7,n24,n6,n5,n4,n3,n1,n2,n0,n10,n23,n9,n8,n16,n21,n15,n12,n14,n11,n13,n20,n18,n19,n17,n32] true false),(dz (og n80 n71 false (.un .not (.t n79))) n35 n0),(dz (oq n81 (.pick (.t n71) (.c (.d (.bool true))) (.t n80))) n36 n0)])
 (.cond (.t n81) (.seq (.ops [(oq n4 (.mv (.c (.d (.bool false)))))])
 .ret)
 .skip)))
 (.ops [(om n43 n5),(oq n44 (.bin .add (.t n43) (k n1))),(om n5 n44)]))))))
 (.seq (.ops [(oq n4 (.mv (.c (.d (.bool true)))))])
 .ret))))))
def x24:XFn:=⟨a24,n82,[(.t n4)],c24⟩
def a26:Ann:=⟨[(n5,n8,n0)],[]⟩
def c26:a0c:=
 (.seq (.ops [(oq n2 (.box (.t n0))),(oq n4 (.mv (k n0)))])
 (.seq (.ops [(oq n5 (.mv (k n0)))])
 (.seq (.seq (.ops [(oq n6 (.mv (k n0)))])
 (.block n0 (.loop (.seq (.seq (.ops [(om n7 n6),(of n8 n2 n2),(ol n9 n8),(oq n10 (.len (.t n9))),(oq n11 (.bin .lss (.t n7) (.t n10))),(om n12 n11),(og n13 n12 true (.mv (.t n1))),(og n14 n12 true (.bin .gtr (.t n13) (k n0))),(oq n15 (.pick (.t n12) (.t n14) (.c (.d (.bool false)))))])
 (.cond (.t n15) .skip
 (.exit n0)))
 (.seq (.block n1 (.ops [(om n18 n5),(of n19 n2 n2),(ol n20 n19),(om n21 n6),(oq n22 (.iaddr n3 (.t n20) (.t n21))),(oq n23 (.load (some n3) (.t n22))),(om n24 n1),(oq n25 (.bin .sub (.t n24) (k n1))),(oq n26 (.call (.c (.fn n26 [] [])) [(.t n23),(.t n25)] .borrow)),(oq n27 (.bin .add (k n1) (.t n26))),(oq n28 (.max (.t n18) (.t n27))),(om n5 n28)]))
 (.ops [(om n16 n6),(oq n17 (.bin .add (.t n16) (k n1))),(om n6 n17)]))))))
 (.seq (.ops [(om n29 n5),(om n4 n29)])
 .ret))))
def x26:XFn:=⟨a26,n30,[(.t n4)],c26⟩
end
theorem h1w:a0q Tryz.prog 23 x23:=a0b Tryz.func23 (by kernel_rfl) (by kernel_rfl) (by kernel_rfl) (by kernel_rfl)
theorem g7x:a0q Tryz.prog 24 x24:=a0b Tryz.func24 (by kernel_rfl) (by kernel_rfl) (by kernel_rfl) (by kernel_rfl)
theorem h2k:a0q Tryz.prog 26 x26:=a0b Tryz.func26 (by kernel_rfl) (by kernel_rfl) (by kernel_rfl) (by kernel_rfl)
end Go.Proofs.Tryz.Run
