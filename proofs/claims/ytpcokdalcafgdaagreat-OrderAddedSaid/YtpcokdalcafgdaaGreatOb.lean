/- Further functions, and that they are what the program has. Conditions: none. -/
import Derived.Test.YtpcokdalcafgdaaGreatOa
namespace Go.Proofs.Tryz.Run
open Go Go.Vf Go.Proofs
noncomputable section
def a52 : Ann := ⟨[(n1,n1,n0)],[]⟩
def c52 : ICode :=
 (.seq (.ops [(oq n2 (.mv (k n0)))])
 (.seq (.ops [(om n3 n0),(oq n4 (.call (.c (.fn n86 [] [])) [(.t n3),(k n0)] .borrow)),(om n2 n4)])
 .ret))
def x52 : XFn := ⟨a52,n5,[(.t n2)],c52⟩
def a76 : Ann := ⟨[(n1,n1,n3)],[]⟩
def c76 : ICode :=
 (.seq (.ops [(oq n2 (.mv (.c (.d .nil))))])
 (.seq (.ops [(om n3 n0),(oq n4 (.appendN n1 n8 (.c (.d .nil)) (.t n3) true)),(om n2 n4)])
 .ret))
def x76 : XFn := ⟨a76,n5,[(.t n2)],c76⟩
def a77 : Ann := ⟨[(n1,n1,n3)],[]⟩
def c77 : ICode :=
 (.seq (.ops [(oq n2 (.mv (.c (.d .nil))))])
 (.seq (.ops [(om n3 n0),(oq n4 (.appendN n2 n16 (.c (.d .nil)) (.t n3) true)),(om n2 n4)])
 .ret))
def x77 : XFn := ⟨a77,n5,[(.t n2)],c77⟩
def a83 : Ann := ⟨[(n3,n2,n0),(n3,n6,n0)],[]⟩
def c83 : ICode :=
 (.seq (.ops [(oq n4 (.mv (.c (.d (.bool false)))))])
 (.seq (.seq (.ops [(om n5 n0),(oq n6 (.len (.t n5))),(oq n7 (.bin .gtr (.t n6) (k n8))),(om n8 n7),(og n9 n8 false (.mv (.t n1))),(og n10 n8 false (.len (.t n9))),(og n11 n8 false (.bin .gtr (.t n10) (k n8))),(oq n12 (.pick (.t n8) (.c (.d (.bool true))) (.t n11)))])
 (.cond (.t n12) (.seq (.ops [(oq n4 (.mv (.c (.d (.bool false)))))])
 .ret)
 .skip))
 (.seq (.ops [(om n13 n0),(om n14 n1),(oq n15 (.call (.c (.fn n114 [] [])) [(.t n13),(.t n14)] .borrow)),(oq n16 (.bin .neq (.t n15) (k n0))),(om n17 n16),(og n18 n17 false (.mv (.t n0))),(og n19 n17 false (.call (.c (.fn n52 [] [])) [(.t n18)] .borrow)),(og n20 n17 false (.bin .leq (.t n19) (k n200))),(oq n21 (.pick (.t n17) (.c (.d (.bool true))) (.t n20))),(om n4 n21)])
 .ret)))
def x83 : XFn := ⟨a83,n22,[(.t n4)],c83⟩
def a86 : Ann := ⟨[],[]⟩
def c86 : ICode :=
 (.seq (.ops [(oq n4 (.mv (k n0)))])
 (.seq (.ops [(oq n5 (.mv (k n1)))])
 (.seq (.seq (.ops [(om n7 n1),(om n6 n7)])
 (.block n0 (.loop (.seq (.seq (.ops [(om n8 n6),(om n9 n0),(oq n10 (.len (.t n9))),(oq n11 (.bin .lss (.t n8) (.t n10)))])
 (.cond (.t n11) .skip
 (.exit n0)))
 (.seq (.block n1 (.ops [(om n14 n5),(om n15 n0),(om n16 n6),(oq n17 (.iaddr n1 (.t n15) (.t n16))),(ol n18 n17),(oq n19 (.bin .mul (.t n14) (.t n18))),(oq n20 (.min (k n3000) (.t n19))),(om n5 n20)]))
 (.ops [(om n12 n6),(oq n13 (.bin .add (.t n12) (k n1))),(om n6 n13)]))))))
 (.seq (.ops [(om n21 n5),(om n4 n21)])
 .ret))))
def x86 : XFn := ⟨a86,n22,[(.t n4)],c86⟩
def a114 : Ann := ⟨[(n6,n4,n0),(n8,n1,n0),(n10,n2,n0)],[]⟩
def c114 : ICode :=
 (.seq (.ops [(oq n4 (.mv (k n0)))])
 (.seq (.seq (.ops [(om n6 n0),(oq n7 (.len (.t n6))),(oq n8 (.bin .gtr (.t n7) (k n6)))])
 (.cond (.t n8) (.seq (.ops [(oq n4 (.mv (k n5)))])
 .ret)
 .skip))
 (.seq (.seq (.ops [(oq n5 (.mv (k n0)))])
 (.block n0 (.loop (.seq (.seq (.ops [(om n9 n5),(om n10 n0),(oq n11 (.len (.t n10))),(oq n12 (.bin .lss (.t n9) (.t n11)))])
 (.cond (.t n12) .skip
 (.exit n0)))
 (.seq (.block n1 (.seq (.ops [(om n15 n0),(om n16 n5),(oq n17 (.iaddr n1 (.t n15) (.t n16))),(ol n18 n17),(oq n19 (.call (.c (.fn n43 [] [])) [(.t n18),(k n1),(k n12)] .borrow)),(oq n20 (.un .not (.t n19)))])
 (.cond (.t n20) (.seq (.ops [(oq n4 (.mv (k n3)))])
 .ret)
 .skip)))
 (.ops [(om n13 n5),(oq n14 (.bin .add (.t n13) (k n1))),(om n5 n14)]))))))
 (.seq (.seq (.ops [(om n21 n0),(oq n22 (.call (.c (.fn n86 [] [])) [(.t n21),(k n0)] .borrow)),(oq n23 (.bin .gtr (.t n22) (k n2000)))])
 (.cond (.t n23) (.seq (.ops [(oq n4 (.mv (k n5)))])
 .ret)
 .skip))
 (.seq (.seq (.ops [(om n24 n0),(om n25 n1),(oq n26 (.call (.c (.fn n38 [] [])) [(.t n24),(.t n25)] .borrow)),(oq n27 (.un .not (.t n26)))])
 (.cond (.t n27) (.seq (.ops [(oq n4 (.mv (k n4)))])
 .ret)
 .skip))
 (.seq (.ops [(oq n4 (.mv (k n0)))])
 .ret))))))
def x114 : XFn := ⟨a114,n28,[(.t n4)],c114⟩
def a117 : Ann := ⟨[],[]⟩
def c117 : ICode :=
 (.seq (.ops [(oq n4 (.mv (.c (.d (.bool false)))))])
 (.seq (.seq (.ops [(oq n5 (.mv (k n0)))])
 (.block n0 (.loop (.seq (.seq (.ops [(om n6 n5),(om n7 n0),(oq n8 (.len (.t n7))),(oq n9 (.bin .lss (.t n6) (.t n8)))])
 (.cond (.t n9) .skip
 (.exit n0)))
 (.seq (.block n1 (.seq (.ops [(om n12 n0),(om n13 n5),(oq n14 (.iaddr n1 (.t n12) (.t n13))),(ol n15 n14),(om n16 n5),(oq n17 (.bin .neq (.t n15) (.t n16)))])
 (.cond (.t n17) (.seq (.ops [(oq n4 (.mv (.c (.d (.bool false)))))])
 .ret)
 .skip)))
 (.ops [(om n10 n5),(oq n11 (.bin .add (.t n10) (k n1))),(om n5 n11)]))))))
 (.seq (.ops [(om n18 n0),(oq n19 (.len (.t n18))),(om n20 n1),(oq n21 (.bin .eql (.t n19) (.t n20))),(om n4 n21)])
 .ret)))
def x117 : XFn := ⟨a117,n22,[(.t n4)],c117⟩
def a152 : Ann := ⟨[(n2,n2,n0)],[]⟩
def c152 : ICode :=
 (.seq (.ops [(oq n1 (.box (.t n0))),(oq n2 (.mv (.c (.d (.bool false)))))])
 (.seq (.seq (.ops [(of n3 n0 n1),(ol n4 n3),(oq n5 (.bin .eql (.t n4) (.c (.d (.int .u8 (.l (i n0)))))))])
 (.cond (.t n5) (.seq (.ops [(of n6 n1 n1),(ol n7 n6),(oq n8 (.call (.c (.fn n43 [] [])) [(.t n7),(.c (.d (.int .i64 (.l (.negSucc n9998))))),(k n9999)] .borrow)),(om n2 n8)])
 .ret)
 .skip))
 (.seq (.ops [(of n9 n0 n1),(ol n10 n9),(oq n11 (.bin .leq (.t n10) (.c (.d (.int .u8 (.l (i n4))))))),(om n12 n11),(og n13 n12 true (.faddr n1 (.t n1))),(og n14 n12 true (.load none (.t n13))),(og n15 n12 true (.bin .eql (.t n14) (k n0))),(oq n16 (.pick (.t n12) (.t n15) (.c (.d (.bool false))))),(om n2 n16)])
 .ret)))
def x152 : XFn := ⟨a152,n17,[(.t n2)],c152⟩
def a153 : Ann := ⟨[(n3,n6,n0)],[]⟩
def c153 : ICode :=
 (.seq (.ops [(oq n3 (.box (.t n0))),(oq n6 (.mv (.c (.d (.bool false)))))])
 (.seq (.seq (.ops [(om n7 n1),(oq n8 (.bin .geq (.t n7) (k n0)))])
 (.cond (.t n8) (.seq (.ops [(om n9 n1),(om n10 n2),(oq n11 (.bin .lss (.t n9) (.t n10))),(om n6 n11)])
 .ret)
 .skip))
 (.seq (.ops [(om n12 n1),(oq n13 (.bin .sub (.c (.d (.int .i64 (.l (.negSucc n0))))) (.t n12))),(of n14 n2 n3),(ol n15 n14),(oq n16 (.len (.t n15))),(oq n17 (.bin .sub (.t n16) (k n1))),(oq n18 (.call (.c (.fn n43 [] [])) [(.t n13),(k n0),(.t n17)] .borrow)),(om n6 n18)])
 .ret)))
def x153 : XFn := ⟨a153,n19,[(.t n6)],c153⟩
def a154 : Ann := ⟨[],[]⟩
def c154 : ICode :=
 (.seq (.ops [(oq n2 (.box (.t n0))),(oq n4 (.mv (k n0)))])
 (.seq (.seq (.ops [(oq n5 (.mv (k n0)))])
 (.block n0 (.loop (.seq (.seq (.ops [(om n6 n1),(oq n7 (.bin .geq (.t n6) (k n0))),(om n8 n7),(og n9 n8 true (.mv (.t n5))),(og n10 n8 true (.faddr n1 (.t n2))),(og n11 n8 true (.load none (.t n10))),(og n12 n8 true (.len (.t n11))),(og n13 n8 true (.bin .lss (.t n9) (.t n12))),(oq n14 (.pick (.t n8) (.t n13) (.c (.d (.bool false)))))])
 (.cond (.t n14) .skip
 (.exit n0)))
 (.seq (.block n1 (.seq (.draw n0 [(dz (of n17 n1 n2) n0 n0),(dz (om n19 n5) n2 n0),(dz (of n22 n3 n2) n5 n0),(dz (om n24 n1) n7 n0),(dz (ol n18 n17) n1 n0),(dz (oq n20 (.iaddr n1 (.t n18) (.t n19))) n3 n0),(dz (ol n21 n20) n4 n0),(dz (ol n23 n22) n6 n0),(dz (oq n25 (.iaddr n2 (.t n23) (.t n24))) n8 n0),(dz (of n26 n0 n25) n9 n0),(dz (ol n27 n26) n10 n0),(dz (oq n28 (.bin .eql (.t n21) (.t n27))) n11 n0)])
 (.cond (.t n28) (.seq (.ops [(om n29 n5),(om n4 n29)])
 .ret)
 .skip)))
 (.ops [(om n15 n5),(oq n16 (.bin .add (.t n15) (k n1))),(om n5 n16)]))))))
 (.seq (.ops [(of n30 n1 n2),(ol n31 n30),(oq n32 (.len (.t n31))),(om n4 n32)])
 .ret)))
def x154 : XFn := ⟨a154,n33,[(.t n4)],c154⟩
def a155 : Ann := ⟨[],[]⟩
def c155 : ICode :=
 (.seq (.ops [(oq n4 (.mv (.c (.d (.bool false)))))])
 (.seq (.seq (.ops [(oq n5 (.mv (k n0)))])
 (.block n0 (.loop (.seq (.seq (.ops [(om n6 n5),(om n7 n0),(oq n8 (.len (.t n7))),(oq n9 (.bin .lss (.t n6) (.t n8)))])
 (.cond (.t n9) .skip
 (.exit n0)))
 (.seq (.block n1 (.seq (.ops [(om n12 n0),(om n13 n5),(oq n14 (.iaddr n1 (.t n12) (.t n13))),(ol n15 n14),(om n16 n1),(oq n17 (.bin .eql (.t n15) (.t n16)))])
 (.cond (.t n17) (.seq (.ops [(oq n4 (.mv (.c (.d (.bool true)))))])
 .ret)
 .skip)))
 (.ops [(om n10 n5),(oq n11 (.bin .add (.t n10) (k n1))),(om n5 n11)]))))))
 (.seq (.ops [(oq n4 (.mv (.c (.d (.bool false)))))])
 .ret)))
def x155 : XFn := ⟨a155,n18,[(.t n4)],c155⟩

end
theorem ok52 : FnOk Tryz.prog 52 x52 := fnOk_of Tryz.func52 (by kernel_rfl) (by kernel_rfl) (by kernel_rfl) (by kernel_rfl)
theorem ok76 : FnOk Tryz.prog 76 x76 := fnOk_of Tryz.func76 (by kernel_rfl) (by kernel_rfl) (by kernel_rfl) (by kernel_rfl)
theorem ok77 : FnOk Tryz.prog 77 x77 := fnOk_of Tryz.func77 (by kernel_rfl) (by kernel_rfl) (by kernel_rfl) (by kernel_rfl)
theorem ok83 : FnOk Tryz.prog 83 x83 := fnOk_of Tryz.func83 (by kernel_rfl) (by kernel_rfl) (by kernel_rfl) (by kernel_rfl)
theorem ok86 : FnOk Tryz.prog 86 x86 := fnOk_of Tryz.func86 (by kernel_rfl) (by kernel_rfl) (by kernel_rfl) (by kernel_rfl)
theorem ok114 : FnOk Tryz.prog 114 x114 := fnOk_of Tryz.func114 (by kernel_rfl) (by kernel_rfl) (by kernel_rfl) (by kernel_rfl)
theorem ok117 : FnOk Tryz.prog 117 x117 := fnOk_of Tryz.func117 (by kernel_rfl) (by kernel_rfl) (by kernel_rfl) (by kernel_rfl)
theorem ok152 : FnOk Tryz.prog 152 x152 := fnOk_of Tryz.func152 (by kernel_rfl) (by kernel_rfl) (by kernel_rfl) (by kernel_rfl)
theorem ok153 : FnOk Tryz.prog 153 x153 := fnOk_of Tryz.func153 (by kernel_rfl) (by kernel_rfl) (by kernel_rfl) (by kernel_rfl)
theorem ok154 : FnOk Tryz.prog 154 x154 := fnOk_of Tryz.func154 (by kernel_rfl) (by kernel_rfl) (by kernel_rfl) (by kernel_rfl)
theorem ok155 : FnOk Tryz.prog 155 x155 := fnOk_of Tryz.func155 (by kernel_rfl) (by kernel_rfl) (by kernel_rfl) (by kernel_rfl)
end Go.Proofs.Tryz.Run
