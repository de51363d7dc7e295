/- Further functions, and that they are what the program has. Further functions, and that they are what the program has. Further functions, and that they are what the program has. Further functions, and that they are what the program has. Further functions, and that they are what the program has. Further functions, and that they are what the program has. Conditions: none. -/
import Derived.Test.YtpcokdalcafgdaaGreatZNb
namespace Go.Proofs.Tryz.Run
open Go Go.Vf Go.Proofs
noncomputable section
def a6:Ann:=⟨[(n2,n0,n0),(n3,n1,n1),(n3,n2,n1),(n4,n1,n0),(n6,n9,n0),(n7,n5,n1),(n7,n6,n0),(n7,n9,n0)],[]⟩
def a11:Ann:=⟨[(n1,n18,n0),(n2,n0,n0),(n3,n1,n1),(n3,n2,n1),(n5,n5,n0),(n7,n1,n1),(n8,n4,n3),(n9,n1,n0),(n10,n0,n0),(n11,n1,n1),(n11,n2,n1),(n12,n5,n0),(n19,n7,n2),(n20,n7,n2),(n21,n7,n2),(n27,n0,n0)],[]⟩
def a38:Ann:=⟨[(n6,n7,n0)],[]⟩
def c38:ICode:=
 (.seq (.ops [(oq n4 (.mv (.c (.d (.bool false)))))])
 (.seq (.seq (.ops [(om n7 n1),(oq n8 (.len t7)),(om n9 n0),(oq n10 (.len t9)),(oq n11 (.bin .neq t8 t10))])
 (.cond t11 (.seq (.ops [(oq n4 (.mv (.c (.d (.bool false)))))])
 .ret)
 .skip))
 (.seq (.seq (.ops [(oq n5 (.mv k0))])
 (.block n0 (.loop (.seq (.seq (.ops [(om n12 n5),(om n13 n1),(oq n14 (.len t13)),(oq n15 (.bin .lss t12 t14))])
 (.cond t15 .skip
 (.exit n0)))
 (.seq (.block n1 (.seq (.seq (.ops [(om n18 n1),(om n19 n5),(oq n20 (.iaddr n1 t18 t19)),(ol n21 n20),(om n22 n0),(oq n23 (.len t22)),(oq n24 (.bin .sub t23 k1)),(oq n25 (.call (.c (.fn n43 [] [])) [t21,k0,t24] .borrow)),(oq n26 (.un .not t25))])
 (.cond t26 (.seq (.ops [(oq n4 (.mv (.c (.d (.bool false)))))])
 .ret)
 .skip))
 (.seq (.ops [(oq n6 (.mv k0))])
 (.block n2 (.loop (.seq (.seq (.ops [(om n27 n6),(om n28 n5),(oq n29 (.bin .lss t27 t28))])
 (.cond t29 .skip
 (.exit n2)))
 (.seq (.block n3 (.seq (.draw n0 [(dz (om n32 n1) n0 n0),(dz (om n33 n6) n1 n0),(dz (oq n34 (.iaddr n1 t32 t33)) n2 n0),(dz (om n36 n1) n4 n0),(dz (om n37 n5) n5 n0),(dz (oq n38 (.iaddr n1 t36 t37)) n6 n0),(dz (ol n35 n34) n3 n0),(dz (ol n39 n38) n7 n0),(dz (oq n40 (.bin .eql t35 t39)) n8 n0)])
 (.cond t40 (.seq (.ops [(oq n4 (.mv (.c (.d (.bool false)))))])
 .ret)
 .skip)))
 (.ops [(om n30 n6),(oq n31 (.bin .add t30 k1)),(om n6 n31)]))))))))
 (.ops [(om n16 n5),(oq n17 (.bin .add t16 k1)),(om n5 n17)]))))))
 (.seq (.ops [(oq n4 (.mv (.c (.d (.bool true)))))])
 .ret))))
def x38:XFn:=⟨a38,n41,[(.t n4)],c38⟩
def a43:Ann:=⟨[],[]⟩
def c43:ICode:=
 (.seq (.ops [(oq n6 (.mv (.c (.d (.bool false)))))])
 (.seq (.ops [(om n7 n0),(om n8 n1),(oq n9 (.bin .geq t7 t8)),(om n10 n9),(og n11 n10 true (.mv t0)),(og n12 n10 true (.mv t2)),(og n13 n10 true (.bin .leq t11 t12)),(oq n14 (.pick t10 t13 (.c (.d (.bool false))))),(om n6 n14)])
 .ret))
def x43:XFn:=⟨a43,n15,[(.t n6)],c43⟩
end
theorem ok38:FnOk Tryz.prog 38 x38:=fnOk_of Tryz.func38 (by kernel_rfl) (by kernel_rfl) (by kernel_rfl) (by kernel_rfl)
theorem ok43:FnOk Tryz.prog 43 x43:=fnOk_of Tryz.func43 (by kernel_rfl) (by kernel_rfl) (by kernel_rfl) (by kernel_rfl)
end Go.Proofs.Tryz.Run
namespace Go.Proofs.Tryz.Run
open Go Go.Vf Go.Proofs
noncomputable section
def a52:Ann:=⟨[(n1,n1,n0)],[]⟩
def c52:ICode:=
 (.seq (.ops [(oq n2 (.mv k0))])
 (.seq (.ops [(om n3 n0),(oq n4 (.call (.c (.fn n86 [] [])) [t3,k0] .borrow)),(om n2 n4)])
 .ret))
def x52:XFn:=⟨a52,n5,[(.t n2)],c52⟩
def a76:Ann:=⟨[(n1,n1,n3)],[]⟩
def c76:ICode:=
 (.seq (.ops [(oq n2 (.mv (.c (.d .nil))))])
 (.seq (.ops [(om n3 n0),(oq n4 (.appendN n1 n8 (.c (.d .nil)) t3 true)),(om n2 n4)])
 .ret))
def x76:XFn:=⟨a76,n5,[(.t n2)],c76⟩
def a77:Ann:=⟨[(n1,n1,n3)],[]⟩
def c77:ICode:=
 (.seq (.ops [(oq n2 (.mv (.c (.d .nil))))])
 (.seq (.ops [(om n3 n0),(oq n4 (.appendN n2 n16 (.c (.d .nil)) t3 true)),(om n2 n4)])
 .ret))
def x77:XFn:=⟨a77,n5,[(.t n2)],c77⟩
def a83:Ann:=⟨[(n3,n2,n0),(n3,n6,n0)],[]⟩
def c83:ICode:=
 (.seq (.ops [(oq n4 (.mv (.c (.d (.bool false)))))])
 (.seq (.seq (.ops [(om n5 n0),(oq n6 (.len t5)),(oq n7 (.bin .gtr t6 k8)),(om n8 n7),(og n9 n8 false (.mv t1)),(og n10 n8 false (.len t9)),(og n11 n8 false (.bin .gtr t10 k8)),(oq n12 (.pick t8 (.c (.d (.bool true))) t11))])
 (.cond t12 (.seq (.ops [(oq n4 (.mv (.c (.d (.bool false)))))])
 .ret)
 .skip))
 (.seq (.ops [(om n13 n0),(om n14 n1),(oq n15 (.call (.c (.fn n114 [] [])) [t13,t14] .borrow)),(oq n16 (.bin .neq t15 k0)),(om n17 n16),(og n18 n17 false (.mv t0)),(og n19 n17 false (.call (.c (.fn n52 [] [])) [t18] .borrow)),(og n20 n17 false (.bin .leq t19 k200)),(oq n21 (.pick t17 (.c (.d (.bool true))) t20)),(om n4 n21)])
 .ret)))
def x83:XFn:=⟨a83,n22,[(.t n4)],c83⟩
def a86:Ann:=⟨[],[]⟩
def c86:ICode:=
 (.seq (.ops [(oq n4 (.mv k0))])
 (.seq (.ops [(oq n5 (.mv k1))])
 (.seq (.seq (.ops [(om n7 n1),(om n6 n7)])
 (.block n0 (.loop (.seq (.seq (.ops [(om n8 n6),(om n9 n0),(oq n10 (.len t9)),(oq n11 (.bin .lss t8 t10))])
 (.cond t11 .skip
 (.exit n0)))
 (.seq (.block n1 (.ops [(om n14 n5),(om n15 n0),(om n16 n6),(oq n17 (.iaddr n1 t15 t16)),(ol n18 n17),(oq n19 (.bin .mul t14 t18)),(oq n20 (.min k3000 t19)),(om n5 n20)]))
 (.ops [(om n12 n6),(oq n13 (.bin .add t12 k1)),(om n6 n13)]))))))
 (.seq (.ops [(om n21 n5),(om n4 n21)])
 .ret))))
def x86:XFn:=⟨a86,n22,[(.t n4)],c86⟩
def a114:Ann:=⟨[(n6,n4,n0),(n8,n1,n0),(n10,n2,n0)],[]⟩
def c114:ICode:=
 (.seq (.ops [(oq n4 (.mv k0))])
 (.seq (.seq (.ops [(om n6 n0),(oq n7 (.len t6)),(oq n8 (.bin .gtr t7 k6))])
 (.cond t8 (.seq (.ops [(oq n4 (.mv k5))])
 .ret)
 .skip))
 (.seq (.seq (.ops [(oq n5 (.mv k0))])
 (.block n0 (.loop (.seq (.seq (.ops [(om n9 n5),(om n10 n0),(oq n11 (.len t10)),(oq n12 (.bin .lss t9 t11))])
 (.cond t12 .skip
 (.exit n0)))
 (.seq (.block n1 (.seq (.ops [(om n15 n0),(om n16 n5),(oq n17 (.iaddr n1 t15 t16)),(ol n18 n17),(oq n19 (.call (.c (.fn n43 [] [])) [t18,k1,k12] .borrow)),(oq n20 (.un .not t19))])
 (.cond t20 (.seq (.ops [(oq n4 (.mv k3))])
 .ret)
 .skip)))
 (.ops [(om n13 n5),(oq n14 (.bin .add t13 k1)),(om n5 n14)]))))))
 (.seq (.seq (.ops [(om n21 n0),(oq n22 (.call (.c (.fn n86 [] [])) [t21,k0] .borrow)),(oq n23 (.bin .gtr t22 k2000))])
 (.cond t23 (.seq (.ops [(oq n4 (.mv k5))])
 .ret)
 .skip))
 (.seq (.seq (.ops [(om n24 n0),(om n25 n1),(oq n26 (.call (.c (.fn n38 [] [])) [t24,t25] .borrow)),(oq n27 (.un .not t26))])
 (.cond t27 (.seq (.ops [(oq n4 (.mv k4))])
 .ret)
 .skip))
 (.seq (.ops [(oq n4 (.mv k0))])
 .ret))))))
def x114:XFn:=⟨a114,n28,[(.t n4)],c114⟩
def a117:Ann:=⟨[],[]⟩
def c117:ICode:=
 (.seq (.ops [(oq n4 (.mv (.c (.d (.bool false)))))])
 (.seq (.seq (.ops [(oq n5 (.mv k0))])
 (.block n0 (.loop (.seq (.seq (.ops [(om n6 n5),(om n7 n0),(oq n8 (.len t7)),(oq n9 (.bin .lss t6 t8))])
 (.cond t9 .skip
 (.exit n0)))
 (.seq (.block n1 (.seq (.ops [(om n12 n0),(om n13 n5),(oq n14 (.iaddr n1 t12 t13)),(ol n15 n14),(om n16 n5),(oq n17 (.bin .neq t15 t16))])
 (.cond t17 (.seq (.ops [(oq n4 (.mv (.c (.d (.bool false)))))])
 .ret)
 .skip)))
 (.ops [(om n10 n5),(oq n11 (.bin .add t10 k1)),(om n5 n11)]))))))
 (.seq (.ops [(om n18 n0),(oq n19 (.len t18)),(om n20 n1),(oq n21 (.bin .eql t19 t20)),(om n4 n21)])
 .ret)))
def x117:XFn:=⟨a117,n22,[(.t n4)],c117⟩
def a152:Ann:=⟨[(n2,n2,n0)],[]⟩
def c152:ICode:=
 (.seq (.ops [(oq n1 (.box t0)),(oq n2 (.mv (.c (.d (.bool false)))))])
 (.seq (.seq (.ops [(of n3 n0 n1),(ol n4 n3),(oq n5 (.bin .eql t4 (.c (.d (.int .u8 (.l (i n0)))))))])
 (.cond t5 (.seq (.ops [(of n6 n1 n1),(ol n7 n6),(oq n8 (.call (.c (.fn n43 [] [])) [t7,(.c (.d (.int .i64 (.l (.negSucc n9998))))),k9999] .borrow)),(om n2 n8)])
 .ret)
 .skip))
 (.seq (.ops [(of n9 n0 n1),(ol n10 n9),(oq n11 (.bin .leq t10 (.c (.d (.int .u8 (.l (i n4))))))),(om n12 n11),(og n13 n12 true (.faddr n1 t1)),(og n14 n12 true (.load none t13)),(og n15 n12 true (.bin .eql t14 k0)),(oq n16 (.pick t12 t15 (.c (.d (.bool false))))),(om n2 n16)])
 .ret)))
def x152:XFn:=⟨a152,n17,[(.t n2)],c152⟩
def a153:Ann:=⟨[(n3,n6,n0)],[]⟩
def c153:ICode:=
 (.seq (.ops [(oq n3 (.box t0)),(oq n6 (.mv (.c (.d (.bool false)))))])
 (.seq (.seq (.ops [(om n7 n1),(oq n8 (.bin .geq t7 k0))])
 (.cond t8 (.seq (.ops [(om n9 n1),(om n10 n2),(oq n11 (.bin .lss t9 t10)),(om n6 n11)])
 .ret)
 .skip))
 (.seq (.ops [(om n12 n1),(oq n13 (.bin .sub (.c (.d (.int .i64 (.l (.negSucc n0))))) t12)),(of n14 n2 n3),(ol n15 n14),(oq n16 (.len t15)),(oq n17 (.bin .sub t16 k1)),(oq n18 (.call (.c (.fn n43 [] [])) [t13,k0,t17] .borrow)),(om n6 n18)])
 .ret)))
def x153:XFn:=⟨a153,n19,[(.t n6)],c153⟩
def a154:Ann:=⟨[],[]⟩
def c154:ICode:=
 (.seq (.ops [(oq n2 (.box t0)),(oq n4 (.mv k0))])
 (.seq (.seq (.ops [(oq n5 (.mv k0))])
 (.block n0 (.loop (.seq (.seq (.ops [(om n6 n1),(oq n7 (.bin .geq t6 k0)),(om n8 n7),(og n9 n8 true (.mv t5)),(og n10 n8 true (.faddr n1 t2)),(og n11 n8 true (.load none t10)),(og n12 n8 true (.len t11)),(og n13 n8 true (.bin .lss t9 t12)),(oq n14 (.pick t8 t13 (.c (.d (.bool false)))))])
 (.cond t14 .skip
 (.exit n0)))
 (.seq (.block n1 (.seq (.draw n0 [(dz (of n17 n1 n2) n0 n0),(dz (om n19 n5) n2 n0),(dz (of n22 n3 n2) n5 n0),(dz (om n24 n1) n7 n0),(dz (ol n18 n17) n1 n0),(dz (oq n20 (.iaddr n1 t18 t19)) n3 n0),(dz (ol n21 n20) n4 n0),(dz (ol n23 n22) n6 n0),(dz (oq n25 (.iaddr n2 t23 t24)) n8 n0),(dz (of n26 n0 n25) n9 n0),(dz (ol n27 n26) n10 n0),(dz (oq n28 (.bin .eql t21 t27)) n11 n0)])
 (.cond t28 (.seq (.ops [(om n29 n5),(om n4 n29)])
 .ret)
 .skip)))
 (.ops [(om n15 n5),(oq n16 (.bin .add t15 k1)),(om n5 n16)]))))))
 (.seq (.ops [(of n30 n1 n2),(ol n31 n30),(oq n32 (.len t31)),(om n4 n32)])
 .ret)))
def x154:XFn:=⟨a154,n33,[(.t n4)],c154⟩
def a155:Ann:=⟨[],[]⟩
def c155:ICode:=
 (.seq (.ops [(oq n4 (.mv (.c (.d (.bool false)))))])
 (.seq (.seq (.ops [(oq n5 (.mv k0))])
 (.block n0 (.loop (.seq (.seq (.ops [(om n6 n5),(om n7 n0),(oq n8 (.len t7)),(oq n9 (.bin .lss t6 t8))])
 (.cond t9 .skip
 (.exit n0)))
 (.seq (.block n1 (.seq (.ops [(om n12 n0),(om n13 n5),(oq n14 (.iaddr n1 t12 t13)),(ol n15 n14),(om n16 n1),(oq n17 (.bin .eql t15 t16))])
 (.cond t17 (.seq (.ops [(oq n4 (.mv (.c (.d (.bool true)))))])
 .ret)
 .skip)))
 (.ops [(om n10 n5),(oq n11 (.bin .add t10 k1)),(om n5 n11)]))))))
 (.seq (.ops [(oq n4 (.mv (.c (.d (.bool false)))))])
 .ret)))
def x155:XFn:=⟨a155,n18,[(.t n4)],c155⟩
end
theorem ok52:FnOk Tryz.prog 52 x52:=fnOk_of Tryz.func52 (by kernel_rfl) (by kernel_rfl) (by kernel_rfl) (by kernel_rfl)
theorem ok76:FnOk Tryz.prog 76 x76:=fnOk_of Tryz.func76 (by kernel_rfl) (by kernel_rfl) (by kernel_rfl) (by kernel_rfl)
theorem ok77:FnOk Tryz.prog 77 x77:=fnOk_of Tryz.func77 (by kernel_rfl) (by kernel_rfl) (by kernel_rfl) (by kernel_rfl)
theorem ok83:FnOk Tryz.prog 83 x83:=fnOk_of Tryz.func83 (by kernel_rfl) (by kernel_rfl) (by kernel_rfl) (by kernel_rfl)
theorem ok86:FnOk Tryz.prog 86 x86:=fnOk_of Tryz.func86 (by kernel_rfl) (by kernel_rfl) (by kernel_rfl) (by kernel_rfl)
theorem ok114:FnOk Tryz.prog 114 x114:=fnOk_of Tryz.func114 (by kernel_rfl) (by kernel_rfl) (by kernel_rfl) (by kernel_rfl)
theorem ok117:FnOk Tryz.prog 117 x117:=fnOk_of Tryz.func117 (by kernel_rfl) (by kernel_rfl) (by kernel_rfl) (by kernel_rfl)
theorem ok152:FnOk Tryz.prog 152 x152:=fnOk_of Tryz.func152 (by kernel_rfl) (by kernel_rfl) (by kernel_rfl) (by kernel_rfl)
theorem ok153:FnOk Tryz.prog 153 x153:=fnOk_of Tryz.func153 (by kernel_rfl) (by kernel_rfl) (by kernel_rfl) (by kernel_rfl)
theorem ok154:FnOk Tryz.prog 154 x154:=fnOk_of Tryz.func154 (by kernel_rfl) (by kernel_rfl) (by kernel_rfl) (by kernel_rfl)
theorem ok155:FnOk Tryz.prog 155 x155:=fnOk_of Tryz.func155 (by kernel_rfl) (by kernel_rfl) (by kernel_rfl) (by kernel_rfl)
end Go.Proofs.Tryz.Run
namespace Go.Proofs.Tryz.Run
open Go Go.Vf Go.Proofs
noncomputable section
end
end Go.Proofs.Tryz.Run
namespace Go.Proofs.Tryz.Run
open Go Go.Vf Go.Proofs
noncomputable section
def a16:Ann:=⟨[(n6,n4,n0),(n6,n11,n0),(n6,n19,n0)],[]⟩
def c16:ICode:=
 (.seq (.ops [(oq n2 (.mv (.c (.d (.bool false)))))])
 (.seq (.seq (.ops [(om n4 n0),(oq n5 (.len t4)),(oq n6 (.bin .gtr t5 k4))])
 (.cond t6 (.seq (.ops [(oq n2 (.mv (.c (.d (.bool false)))))])
 .ret)
 .skip))
 (.seq (.seq (.ops [(oq n3 (.mv k0))])
 (.block n0 (.loop (.seq (.seq (.ops [(om n7 n3),(om n8 n0),(oq n9 (.len t8)),(oq n10 (.bin .lss t7 t9))])
 (.cond t10 .skip
 (.exit n0)))
 (.seq (.block n1 (.seq (.ops [(om n13 n0),(om n14 n3),(oq n15 (.iaddr n5 t13 t14)),(oq n16 (.load (some n5) t15)),(oq n17 (.call (.c (.fn n50 [] [])) [t16] .borrow)),(oq n18 (.un .not t17)),(om n19 n18),(og n20 n19 false (.mv t0)),(og n21 n19 false (.mv t3)),(og n22 n19 false (.iaddr n5 t20 t21)),(og n23 n19 false (.load (some n5) t22)),(og n24 n19 false (.call (.c (.fn n51 [] [])) [t23] .borrow)),(og n25 n19 false (.bin .eql t24 k0)),(og n26 n19 false (.mv t25)),(og n27 n26 true (.mv t0)),(og n28 n26 true (.mv t3)),(og n29 n26 true (.iaddr n5 t27 t28)),(og n30 n26 true (.faddr n0 t29)),(og n31 n26 true (.load none t30)),(og n32 n26 true (.call (.c (.fn n52 [] [])) [t31] .borrow)),(og n33 n26 true (.bin .gtr t32 k60)),(og n34 n19 false (.pick t26 t33 (.c (.d (.bool false))))),(oq n35 (.pick t19 (.c (.d (.bool true))) t34))])
 (.cond t35 (.seq (.ops [(oq n2 (.mv (.c (.d (.bool false)))))])
 .ret)
 .skip)))
 (.ops [(om n11 n3),(oq n12 (.bin .add t11 k1)),(om n3 n12)]))))))
 (.seq (.ops [(oq n2 (.mv (.c (.d (.bool true)))))])
 .ret))))
def x16:XFn:=⟨a16,n36,[(.t n2)],c16⟩
def a34:Ann:=⟨[(n1,n1,n0),(n1,n4,n0)],[]⟩
def c34:ICode:=
 (.seq (.ops [(oq n2 (.mv (.c (.d (.bool false)))))])
 (.seq (.ops [(om n3 n0),(oq n4 (.call (.c (.fn n16 [] [])) [t3] .borrow)),(om n5 n4),(og n6 n5 true (.mv t0)),(og n7 n5 true (.call (.c (.fn n21 [] [])) [t6] .borrow)),(og n8 n5 true (.bin .eql t7 k0)),(oq n9 (.pick t5 t8 (.c (.d (.bool false))))),(om n2 n9)])
 .ret))
def x34:XFn:=⟨a34,n10,[(.t n2)],c34⟩
def a50:Ann:=⟨[(n1,n4,n0)],[]⟩
def c50:ICode:=
 (.seq (.ops [(oq n1 (.box t0)),(oq n2 (.mv (.c (.d (.bool false)))))])
 (.seq (.seq (.ops [(of n4 n0 n1),(ol n5 n4),(of n6 n1 n1),(ol n7 n6),(oq n8 (.call (.c (.fn n83 [] [])) [t5,t7] .borrow)),(oq n9 (.un .not t8)),(om n10 n9),(og n11 n10 false (.faddr n2 t1)),(og n12 n10 false (.load none t11)),(og n13 n10 false (.len t12)),(og n14 n10 false (.bin .gtr t13 k40)),(oq n15 (.pick t10 (.c (.d (.bool true))) t14)),(om n16 n15),(og n17 n16 false (.faddr n3 t1)),(og n18 n16 false (.load none t17)),(og n19 n16 false (.len t18)),(og n20 n16 false (.bin .gtr t19 k60)),(oq n21 (.pick t16 (.c (.d (.bool true))) t20))])
 (.cond t21 (.seq (.ops [(oq n2 (.mv (.c (.d (.bool false)))))])
 .ret)
 .skip))
 (.seq (.seq (.ops [(oq n3 (.mv k0))])
 (.block n0 (.loop (.seq (.seq (.ops [(om n22 n3),(of n23 n3 n1),(ol n24 n23),(oq n25 (.len t24)),(oq n26 (.bin .lss t22 t25))])
 (.cond t26 .skip
 (.exit n0)))
 (.seq (.block n1 (.seq (.ops [(of n29 n3 n1),(ol n30 n29),(om n31 n3),(oq n32 (.iaddr n2 t30 t31)),(of n33 n1 n32),(ol n34 n33),(oq n35 (.len t34)),(oq n36 (.bin .gtr t35 k14))])
 (.cond t36 (.seq (.ops [(oq n2 (.mv (.c (.d (.bool false)))))])
 .ret)
 .skip)))
 (.ops [(om n27 n3),(oq n28 (.bin .add t27 k1)),(om n3 n28)]))))))
 (.seq (.ops [(oq n2 (.mv (.c (.d (.bool true)))))])
 .ret))))
def x50:XFn:=⟨a50,n37,[(.t n2)],c50⟩
def a51:Ann:=⟨[(n1,n1,n0),(n4,n1,n0)],[]⟩
def c51:ICode:=
 (.seq (.ops [(oq n1 (.box t0)),(oq n2 (.mv k0))])
 (.seq (.seq (.ops [(oq n4 (.load (some n5) t1)),(oq n5 (.call (.c (.fn n84 [] [])) [t4] .borrow)),(om n3 n5)])
 (.seq (.ops [(om n6 n3),(oq n7 (.bin .neq t6 k0))])
 (.cond t7 (.seq (.ops [(om n8 n3),(om n2 n8)])
 .ret)
 .skip)))
 (.seq (.seq (.ops [(oq n9 (.load (some n5) t1)),(oq n10 (.call (.c (.fn n85 [] [])) [t9] .borrow)),(oq n11 (.un .not t10))])
 (.cond t11 (.seq (.ops [(oq n2 (.mv k4))])
 .ret)
 .skip))
 (.seq (.ops [(oq n2 (.mv k0))])
 .ret))))
def x51:XFn:=⟨a51,n12,[(.t n2)],c51⟩
def a58:Ann:=⟨[(n4,n4,n0),(n10,n7,n0)],[]⟩
def c58:ICode:=
 (.seq (.ops [(oq n2 (.mv k0))])
 (.seq (.seq (.ops [(oq n3 (.mv k0))])
 (.block n0 (.loop (.seq (.seq (.ops [(om n6 n3),(om n7 n0),(oq n8 (.len t7)),(oq n9 (.bin .lss t6 t8))])
 (.cond t9 .skip
 (.exit n0)))
 (.seq (.block n1 (.seq (.ops [(om n12 n0),(om n13 n3),(oq n14 (.iaddr n5 t12 t13)),(oq n15 (.load (some n5) t14)),(oq n16 (.call (.c (.fn n51 [] [])) [t15] .borrow)),(om n4 n16)])
 (.seq (.ops [(om n17 n4),(oq n18 (.bin .neq t17 k0))])
 (.cond t18 (.seq (.ops [(om n19 n4),(om n2 n19)])
 .ret)
 .skip))))
 (.ops [(om n10 n3),(oq n11 (.bin .add t10 k1)),(om n3 n11)]))))))
 (.seq (.seq (.ops [(oq n5 (.mv k1))])
 (.block n2 (.loop (.seq (.seq (.ops [(om n20 n5),(om n21 n0),(oq n22 (.len t21)),(oq n23 (.bin .lss t20 t22))])
 (.cond t23 .skip
 (.exit n2)))
 (.seq (.block n3 (.seq (.draw n0 [(dz (om n26 n0) n0 n0),(dz (oq n27 (.iaddr n5 t26 k0)) n1 n0),(dz (om n29 n0) n3 n0),(dz (om n30 n5) n4 n0),(dz (oq n31 (.iaddr n5 t29 t30)) n5 n0),(dz (oq n28 (.load (some n5) t27)) n2 n0),(dz (oq n32 (.load (some n5) t31)) n6 n0),(dq (oq n33 (.call (.c (.fn n90 [] [])) [t28,t32] .borrow)) n7 n0 [] [n2,n6,n1,n0,n5,n3,n4] true false),(dz (oq n34 (.un .not t33)) n8 n0)])
 (.cond t34 (.seq (.ops [(oq n2 (.mv k2))])
 .ret)
 .skip)))
 (.ops [(om n24 n5),(oq n25 (.bin .add t24 k1)),(om n5 n25)]))))))
 (.seq (.ops [(oq n2 (.mv k0))])
 .ret))))
def x58:XFn:=⟨a58,n35,[(.t n2)],c58⟩
def a84:Ann:=⟨[(n1,n4,n0),(n6,n1,n0)],[]⟩
def c84:ICode:=
 (.seq (.ops [(oq n1 (.box t0)),(oq n2 (.mv k0))])
 (.seq (.seq (.ops [(of n4 n0 n1),(ol n5 n4),(of n6 n1 n1),(ol n7 n6),(oq n8 (.call (.c (.fn n114 [] [])) [t5,t7] .borrow)),(om n3 n8)])
 (.seq (.ops [(om n9 n3),(oq n10 (.bin .neq t9 k0))])
 (.cond t10 (.seq (.ops [(om n11 n3),(om n2 n11)])
 .ret)
 .skip)))
 (.seq (.seq (.ops [(of n12 n3 n1),(ol n13 n12),(oq n14 (.len t13)),(oq n15 (.bin .gtr t14 k6000))])
 (.cond t15 (.seq (.ops [(oq n2 (.mv k5))])
 .ret)
 .skip))
 (.seq (.seq (.ops [(oq n16 (.load (some n5) t1)),(oq n17 (.call (.c (.fn n115 [] [])) [t16] .borrow)),(oq n18 (.un .not t17))])
 (.cond t18 (.seq (.ops [(oq n2 (.mv k4))])
 .ret)
 .skip))
 (.seq (.ops [(oq n2 (.mv k0))])
 .ret)))))
def x84:XFn:=⟨a84,n19,[(.t n2)],c84⟩
def a85:Ann:=⟨[(n12,n5,n0),(n17,n26,n0),(n19,n3,n2),(n20,n4,n0),(n20,n10,n0)],[]⟩
def c85:ICode:=
 (.seq (.ops [(oq n1 (.box t0)),(oq n2 (.mv (.c (.d (.bool false)))))])
 (.seq (.seq (.ops [(oq n3 (.mv k0))])
 (.block n0 (.loop (.seq (.seq (.ops [(om n9 n3),(of n10 n2 n1),(ol n11 n10),(oq n12 (.len t11)),(oq n13 (.bin .lss t9 t12))])
 (.cond t13 .skip
 (.exit n0)))
 (.seq (.block n1 (.seq (.ops [(oq n4 (.mv k0))])
 (.block n2 (.loop (.seq (.seq (.ops [(om n16 n4),(om n17 n3),(oq n18 (.bin .lss t16 t17))])
 (.cond t18 .skip
 (.exit n2)))
 (.seq (.block n3 (.seq (.draw n0 [(dz (of n21 n2 n1) n0 n0),(dz (om n23 n4) n2 n0),(dz (of n26 n2 n1) n5 n0),(dz (om n28 n3) n7 n0),(dz (ol n22 n21) n1 n0),(dz (oq n24 (.iaddr n2 t22 t23)) n3 n0),(dz (oq n25 (.load (some n2) t24)) n4 n0),(dz (ol n27 n26) n6 n0),(dz (oq n29 (.iaddr n2 t27 t28)) n8 n0),(dz (oq n30 (.load (some n2) t29)) n9 n0),(dz (oq n31 (.aeq false [.u8,.i64] t25 t30)) n10 n0)])
 (.cond t31 (.seq (.ops [(oq n2 (.mv (.c (.d (.bool false)))))])
 .ret)
 .skip)))
 (.ops [(om n19 n4),(oq n20 (.bin .add t19 k1)),(om n4 n20)])))))))
 (.ops [(om n14 n3),(oq n15 (.bin .add t14 k1)),(om n3 n15)]))))))
 (.seq (.seq (.ops [(oq n5 (.mv k0))])
 (.block n4 (.loop (.seq (.seq (.ops [(om n32 n5),(of n33 n3 n1),(ol n34 n33),(oq n35 (.len t34)),(oq n36 (.bin .lss t32 t35))])
 (.cond t36 .skip
 (.exit n4)))
 (.seq (.block n5 (.seq (.seq (.ops [(of n39 n3 n1),(ol n40 n39),(om n41 n5),(oq n42 (.iaddr n2 t40 t41)),(oq n43 (.load (some n2) t42)),(oq n44 (.call (.c (.fn n113 [] [])) [t43] .borrow))])
 (.cond t44 (.seq (.ops [(oq n2 (.mv (.c (.d (.bool false)))))])
 .ret)
 .skip))
 (.seq (.ops [(oq n6 (.mv k0))])
 (.block n6 (.loop (.seq (.seq (.ops [(om n45 n6),(om n46 n5),(oq n47 (.bin .lss t45 t46))])
 (.cond t47 .skip
 (.exit n6)))
 (.seq (.block n7 (.seq (.draw n0 [(dz (of n50 n3 n1) n0 n0),(dz (om n52 n6) n2 n0),(dz (of n56 n3 n1) n6 n0),(dz (om n58 n5) n8 n0),(dz (ol n51 n50) n1 n0),(dz (oq n53 (.iaddr n2 t51 t52)) n3 n0),(dz (of n54 n0 n53) n4 n0),(dz (ol n55 n54) n5 n0),(dz (ol n57 n56) n7 n0),(dz (oq n59 (.iaddr n2 t57 t58)) n9 n0),(dz (of n60 n0 n59) n10 n0),(dz (ol n61 n60) n11 n0),(dz (oq n62 (.bin .eql t55 t61)) n12 n0),(dz (om n63 n62) n13 n0),(dz (og n64 n63 true (.faddr n3 t1)) n14 n0),(dz (og n66 n63 true (.mv t6)) n16 n0),(dz (og n70 n63 true (.faddr n3 t1)) n20 n0),(dz (og n72 n63 true (.mv t5)) n22 n0),(dz (og n65 n63 true (.load none t64)) n15 n0),(dz (og n67 n63 true (.iaddr n2 t65 t66)) n17 n0),(dz (og n68 n63 true (.faddr n1 t67)) n18 n0),(dz (og n69 n63 true (.load none t68)) n19 n0),(dz (og n71 n63 true (.load none t70)) n21 n0),(dz (og n73 n63 true (.iaddr n2 t71 t72)) n23 n0),(dz (og n74 n63 true (.faddr n1 t73)) n24 n0),(dz (og n75 n63 true (.load none t74)) n25 n0),(dq (og n76 n63 true (.call (.c (.fn n23 [] [])) [t69,t75] .borrow)) n26 n0 [] [n19,n25,n13,n18,n17,n15,n16,n14,n12,n5,n11,n4,n3,n1,n2,n0,n10,n9,n7,n8,n6,n24,n23,n21,n22,n20] true false),(dz (oq n77 (.pick t63 t76 (.c (.d (.bool false))))) n27 n0)])
 (.cond t77 (.seq (.ops [(oq n2 (.mv (.c (.d (.bool false)))))])
 .ret)
 .skip)))
 (.ops [(om n48 n6),(oq n49 (.bin .add t48 k1)),(om n6 n49)]))))))))
 (.ops [(om n37 n5),(oq n38 (.bin .add t37 k1)),(om n5 n38)]))))))
 (.seq (.ops [(oq n79 (.load (some n5) t1)),(of n80 n4 n1),(ol n81 n80),(oq n82 (.call (.c (.fn n116 [] [])) [t79,t81,(.c (.d .nil)),(.c (.d .nil))] .raw)),(om n78 n82),(oq n83 (.extract t78 n0)),(oq n84 (.extract t78 n1)),(om n7 n83),(om n8 n84)])
 (.seq (.ops [(om n85 n7),(of n86 n3 n1),(ol n87 n86),(oq n88 (.len t87)),(oq n89 (.call (.c (.fn n117 [] [])) [t85,t88] .borrow)),(om n90 n89),(og n91 n90 true (.mv t8)),(og n92 n90 true (.faddr n2 t1)),(og n93 n90 true (.load none t92)),(og n94 n90 true (.len t93)),(og n95 n90 true (.call (.c (.fn n117 [] [])) [t91,t94] .borrow)),(oq n96 (.pick t90 t95 (.c (.d (.bool false))))),(om n2 n96)])
 .ret)))))
def x85:XFn:=⟨a85,n97,[(.t n2)],c85⟩
def a90:Ann:=⟨[(n1,n4,n0),(n1,n10,n0)],[]⟩
def c90:ICode:=
 (.seq (.ops [(oq n2 (.box t0)),(oq n3 (.box t1)),(oq n4 (.mv (.c (.d (.bool false)))))])
 (.seq (.ops [(of n5 n0 n2),(ol n6 n5),(of n7 n0 n3),(ol n8 n7),(oq n9 (.call (.c (.fn n23 [] [])) [t6,t8] .borrow)),(om n10 n9),(og n11 n10 true (.faddr n1 t2)),(og n12 n10 true (.load none t11)),(og n13 n10 true (.faddr n1 t3)),(og n14 n10 true (.load none t13)),(og n15 n10 true (.call (.c (.fn n23 [] [])) [t12,t14] .borrow)),(oq n16 (.pick t10 t15 (.c (.d (.bool false))))),(om n4 n16)])
 .ret))
def x90:XFn:=⟨a90,n17,[(.t n4)],c90⟩
def a115:Ann:=⟨[(n4,n5,n0),(n10,n6,n0),(n15,n7,n0),(n15,n16,n0),(n15,n19,n0),(n17,n6,n0)],[]⟩
def c115:ICode:=
 (.seq (.ops [(oq n1 (.box t0)),(oq n2 (.mv (.c (.d (.bool false)))))])
 (.seq (.seq (.ops [(oq n3 (.mv k0))])
 (.block n0 (.loop (.seq (.seq (.ops [(om n7 n3),(of n8 n2 n1),(ol n9 n8),(oq n10 (.len t9)),(oq n11 (.bin .lss t7 t10))])
 (.cond t11 .skip
 (.exit n0)))
 (.seq (.block n1 (.seq (.ops [(of n14 n2 n1),(ol n15 n14),(om n16 n3),(oq n17 (.iaddr n2 t15 t16)),(oq n18 (.load (some n2) t17)),(oq n19 (.call (.c (.fn n152 [] [])) [t18] .borrow)),(oq n20 (.un .not t19))])
 (.cond t20 (.seq (.ops [(oq n2 (.mv (.c (.d (.bool false)))))])
 .ret)
 .skip)))
 (.ops [(om n12 n3),(oq n13 (.bin .add t12 k1)),(om n3 n13)]))))))
 (.seq (.seq (.ops [(oq n4 (.mv k0))])
 (.block n2 (.loop (.seq (.seq (.ops [(om n21 n4),(of n22 n3 n1),(ol n23 n22),(oq n24 (.len t23)),(oq n25 (.bin .lss t21 t24))])
 (.cond t25 .skip
 (.exit n2)))
 (.seq (.block n3 (.seq (.ops [(of n28 n3 n1),(ol n29 n28),(om n30 n4),(oq n31 (.iaddr n2 t29 t30)),(oq n32 (.load (some n2) t31)),(oq n5 (.alloc [(.int .i64 (.l (i n0))),.nil])),⟨none,none,.store n2 t5 t32⟩])
 (.seq (.seq (.draw n0 [(dz (of n33 n0 n5) n0 n0),(dz (of n35 n0 n1) n2 n0),(dz (ol n34 n33) n1 n0),(dz (ol n36 n35) n3 n0),(dz (oq n37 (.len t36)) n4 n0),(dz (oq n38 (.bin .sub t37 k1)) n5 n0),(dq (oq n39 (.call (.c (.fn n43 [] [])) [t34,k0,t38] .borrow)) n6 n0 [] [n1,n5,n0,n4,n3,n2] true false),(dz (oq n40 (.un .not t39)) n7 n0),(dz (om n41 n40) n8 n0),(dz (og n42 n41 false (.faddr n1 t5)) n9 n0),(dz (og n45 n41 false (.faddr n0 t1)) n12 n0),(dz (og n47 n41 false (.faddr n0 t5)) n14 n0),(dz (og n43 n41 false (.load none t42)) n10 n0),(dz (og n44 n41 false (.len t43)) n11 n0),(dz (og n46 n41 false (.load none t45)) n13 n0),(dz (og n48 n41 false (.load none t47)) n15 n0),(dz (og n49 n41 false (.iaddr n1 t46 t48)) n16 n0),(dz (og n50 n41 false (.load none t49)) n17 n0),(dz (og n51 n41 false (.bin .neq t44 t50)) n18 n0),(dz (oq n52 (.pick t41 (.c (.d (.bool true))) t51)) n19 n0)])
 (.cond t52 (.seq (.ops [(oq n2 (.mv (.c (.d (.bool false)))))])
 .ret)
 .skip))
 (.seq (.ops [(oq n6 (.mv k0))])
 (.block n4 (.loop (.seq (.seq (.ops [(om n53 n6),(of n54 n1 n5),(ol n55 n54),(oq n56 (.len t55)),(oq n57 (.bin .lss t53 t56))])
 (.cond t57 .skip
 (.exit n4)))
 (.seq (.block n5 (.seq (.draw n0 [(dz (of n61 n1 n5) n1 n0),(dz (om n63 n6) n3 n0),(dz (om n66 n4) n6 n0),(dz (oq n60 (.load (some n5) t1)) n0 n0),(dz (ol n62 n61) n2 n0),(dz (oq n64 (.iaddr n1 t62 t63)) n4 n0),(dz (ol n65 n64) n5 n0),(dq (oq n67 (.call (.c (.fn n153 [] [])) [t60,t65,t66] .borrow)) n7 n0 [] [n0,n5,n6,n4,n2,n3,n1] true false),(dz (oq n68 (.un .not t67)) n8 n0),(dz (om n69 n68) n9 n0),(dz (og n71 n69 false (.faddr n1 t5)) n11 n0),(dz (og n73 n69 false (.mv t6)) n13 n0),(dq (og n78 n69 false (.mv t4)) n18 n0 [] [] false true),(dz (og n70 n69 false (.load (some n5) t1)) n10 n0),(dz (og n72 n69 false (.load none t71)) n12 n0),(dz (og n74 n69 false (.iaddr n1 t72 t73)) n14 n0),(dz (og n75 n69 false (.load none t74)) n15 n0),(dq (og n77 n69 false (.load (some n5) t1)) n17 n0 [] [] false true),(dq (og n76 n69 false (.call (.c (.fn n154 [] [])) [t70,t75] .borrow)) n16 n0 [] [n10,n15,n9,n8,n7,n0,n5,n6,n4,n2,n3,n1,n14,n12,n13,n11] false false),(dq (og n79 n69 false (.call (.c (.fn n154 [] [])) [t77,t78] .borrow)) n19 n0 [] [n17,n18,n16,n9,n8,n7,n0,n5,n6,n4,n2,n3,n1,n10,n15,n14,n12,n13,n11] true false),(dz (og n80 n69 false (.bin .leq t76 t79)) n20 n0),(dz (oq n81 (.pick t69 (.c (.d (.bool true))) t80)) n21 n0)])
 (.cond t81 (.seq (.ops [(oq n2 (.mv (.c (.d (.bool false)))))])
 .ret)
 .skip)))
 (.ops [(om n58 n6),(oq n59 (.bin .add t58 k1)),(om n6 n59)])))))))))
 (.ops [(om n26 n4),(oq n27 (.bin .add t26 k1)),(om n4 n27)]))))))
 (.seq (.ops [(oq n82 (.load (some n5) t1)),(of n83 n4 n1),(ol n84 n83),(of n85 n3 n1),(ol n86 n85),(oq n87 (.len t86)),(oq n88 (.call (.c (.fn n153 [] [])) [t82,t84,t87] .borrow)),(om n2 n88)])
 .ret))))
def x115:XFn:=⟨a115,n89,[(.t n2)],c115⟩
def a116:Ann:=⟨[(n2,n3,n0),(n3,n4,n3),(n5,n2,n0),(n11,n8,n2),(n12,n3,n3)],[]⟩
def c116:ICode:=
 (.seq (.ops [(oq n4 (.box t0)),(oq n8 (.mv (.c (.d .nil)))),(oq n9 (.mv (.c (.d .nil))))])
 (.seq (.seq (.ops [(om n12 n1),(oq n13 (.bin .lss t12 k0))])
 (.cond t13 (.seq (.seq (.ops [(om n14 n3),(om n15 n1),(oq n16 (.bin .sub (.c (.d (.int .i64 (.l (.negSucc n0))))) t15)),(oq n17 (.call (.c (.fn n155 [] [])) [t14,t16] .borrow)),(oq n18 (.un .not t17))])
 (.cond t18 (.ops [(om n19 n3),(om n20 n1),(oq n21 (.bin .sub (.c (.d (.int .i64 (.l (.negSucc n0))))) t20)),(oq n22 (.bslice n1 n1 [(.int .i64 (.l (i n0)))] [(n0,t21)] false)),(oq n23 (.appendN n1 n8 t19 t22 true)),(om n3 n23)])
 .skip))
 (.seq (.ops [(om n24 n2),(om n25 n3),(om n8 n24),(om n9 n25)])
 .ret))
 .skip))
 (.seq (.seq (.ops [(om n26 n2),(om n27 n1),(oq n28 (.call (.c (.fn n155 [] [])) [t26,t27] .borrow))])
 (.cond t28 (.seq (.ops [(om n29 n2),(om n30 n3),(om n8 n29),(om n9 n30)])
 .ret)
 .skip))
 (.seq (.ops [(of n31 n3 n4),(ol n32 n31),(om n33 n1),(oq n34 (.iaddr n2 t32 t33)),(oq n35 (.load (some n2) t34)),(oq n10 (.alloc [(.int .i64 (.l (i n0))),.nil])),⟨none,none,.store n2 t10 t35⟩])
 (.seq (.seq (.ops [(oq n11 (.mv k0))])
 (.block n0 (.loop (.seq (.seq (.ops [(om n36 n11),(of n37 n1 n10),(ol n38 n37),(oq n39 (.len t38)),(oq n40 (.bin .lss t36 t39))])
 (.cond t40 .skip
 (.exit n0)))
 (.seq (.block n1 (.draw n0 [(dz (of n45 n1 n10) n1 n0),(dz (om n47 n11) n3 n0),(dz (om n50 n2) n6 n0),(dz (om n51 n3) n7 n0),(dz (oq n44 (.load (some n5) t4)) n0 n0),(dz (ol n46 n45) n2 n0),(dz (oq n48 (.iaddr n1 t46 t47)) n4 n0),(dz (ol n49 n48) n5 n0),(dq (oq n52 (.call (.c (.fn n116 [] [])) [t44,t49,t50,t51] .raw)) n8 n0 [] [n0,n5,n6,n7,n4,n2,n3,n1] true false),(dz (om n43 n52) n9 n0),(dz (oq n53 (.extract t43 n0)) n10 n0),(dz (oq n54 (.extract t43 n1)) n11 n0),(dz (om n2 n53) n12 n0),(dz (om n3 n54) n13 n0)]))
 (.ops [(om n41 n11),(oq n42 (.bin .add t41 k1)),(om n11 n42)]))))))
 (.seq (.ops [(om n55 n2),(om n56 n1),(oq n57 (.bslice n1 n1 [(.int .i64 (.l (i n0)))] [(n0,t56)] false)),(oq n58 (.appendN n1 n8 t55 t57 true)),(om n59 n3),(om n8 n58),(om n9 n59)])
 .ret))))))
def x116:XFn:=⟨a116,n60,[(.t n8),(.t n9)],c116⟩
def a21:Ann:=⟨[(n3,n1,n0)],[]⟩
def c21:ICode:=
 (.seq (.ops [(oq n2 (.mv k0))])
 (.seq (.seq (.ops [(om n3 n0),(oq n4 (.len t3)),(oq n5 (.bin .eql t4 k0))])
 (.cond t5 (.seq (.ops [(oq n2 (.mv k7))])
 .ret)
 .skip))
 (.seq (.ops [(om n6 n0),(oq n7 (.call (.c (.fn n58 [] [])) [t6] .borrow)),(om n2 n7)])
 .ret)))
def x21:XFn:=⟨a21,n8,[(.t n2)],c21⟩
end
theorem ok16:FnOk Tryz.prog 16 x16:=fnOk_of Tryz.func16 (by kernel_rfl) (by kernel_rfl) (by kernel_rfl) (by kernel_rfl)
theorem ok34:FnOk Tryz.prog 34 x34:=fnOk_of Tryz.func34 (by kernel_rfl) (by kernel_rfl) (by kernel_rfl) (by kernel_rfl)
theorem ok50:FnOk Tryz.prog 50 x50:=fnOk_of Tryz.func50 (by kernel_rfl) (by kernel_rfl) (by kernel_rfl) (by kernel_rfl)
theorem ok51:FnOk Tryz.prog 51 x51:=fnOk_of Tryz.func51 (by kernel_rfl) (by kernel_rfl) (by kernel_rfl) (by kernel_rfl)
theorem ok58:FnOk Tryz.prog 58 x58:=fnOk_of Tryz.func58 (by kernel_rfl) (by kernel_rfl) (by kernel_rfl) (by kernel_rfl)
theorem ok84:FnOk Tryz.prog 84 x84:=fnOk_of Tryz.func84 (by kernel_rfl) (by kernel_rfl) (by kernel_rfl) (by kernel_rfl)
theorem ok85:FnOk Tryz.prog 85 x85:=fnOk_of Tryz.func85 (by kernel_rfl) (by kernel_rfl) (by kernel_rfl) (by kernel_rfl)
theorem ok90:FnOk Tryz.prog 90 x90:=fnOk_of Tryz.func90 (by kernel_rfl) (by kernel_rfl) (by kernel_rfl) (by kernel_rfl)
theorem ok115:FnOk Tryz.prog 115 x115:=fnOk_of Tryz.func115 (by kernel_rfl) (by kernel_rfl) (by kernel_rfl) (by kernel_rfl)
theorem ok116:FnOk Tryz.prog 116 x116:=fnOk_of Tryz.func116 (by kernel_rfl) (by kernel_rfl) (by kernel_rfl) (by kernel_rfl)
theorem ok21:FnOk Tryz.prog 21 x21:=fnOk_of Tryz.func21 (by kernel_rfl) (by kernel_rfl) (by kernel_rfl) (by kernel_rfl)
end Go.Proofs.Tryz.Run
namespace Go.Proofs.Tryz.Run
open Go Go.Vf Go.Proofs
noncomputable section
def a3:Ann:=⟨[(n1,n1,n0),(n2,n0,n0),(n3,n1,n1),(n3,n2,n0),(n4,n1,n1),(n4,n2,n1),(n5,n1,n0),(n7,n18,n0),(n8,n5,n0),(n8,n15,n1),(n8,n16,n0),(n8,n19,n0)],[]⟩
def c3:ICode:=
 (.seq (.ops [(oq n2 (.mv (.c (.d (.bool false)))))])
 (.seq (.seq (.ops [(om n8 n0),(oq n9 (.call (.c (.fn n16 [] [])) [t8] .borrow)),(oq n10 (.un .not t9))])
 (.cond t10 (.seq (.ops [(oq n11 (.call (.c (.fn n17 [] [])) [] .borrow)),(om n2 n11)])
 .ret)
 .skip))
 (.seq (.ops [(om n13 n0),(oq n14 (.call (.c (.fn n19 [] [])) [t13] .share)),(oq n15 (.call (.c (.fn n18 [] [])) [t14] .borrow)),(om n12 n15),(oq n16 (.extract t12 n0)),(oq n17 (.extract t12 n1)),(om n3 n16),(om n4 n17)])
 (.seq (.ops [(om n19 n0),(oq n20 (.call (.c (.fn n19 [] [])) [t19] .share)),(oq n21 (.call (.c (.fn n20 [] [])) [t20] .share)),(om n18 n21),(oq n22 (.extract t18 n0)),(oq n23 (.extract t18 n1)),(om n5 n22),(om n6 n23)])
 (.seq (.seq (.ops [(om n24 n0),(oq n25 (.call (.c (.fn n21 [] [])) [t24] .borrow)),(om n7 n25)])
 (.seq (.ops [(om n26 n7),(oq n27 (.bin .neq t26 k0))])
 (.cond t27 (.seq (.ops [(om n28 n4),(om n29 n7),(oq n30 (.bin .eql t28 t29)),(om n31 n30),(og n32 n31 true (.mv t6)),(og n33 n31 true (.mv t7)),(og n34 n31 true (.bin .eql t32 t33)),(oq n35 (.pick t31 t34 (.c (.d (.bool false))))),(om n36 n35),(og n37 n36 true (.mv t3)),(og n38 n36 true (.bin .eql t37 k0)),(oq n39 (.pick t36 t38 (.c (.d (.bool false))))),(om n40 n39),(og n41 n40 true (.mv t5)),(og n42 n40 true (.len t41)),(og n43 n40 true (.bin .eql t42 k0)),(oq n44 (.pick t40 t43 (.c (.d (.bool false))))),(om n45 n44),(og n46 n45 true (.call (.c (.fn n17 [] [])) [] .borrow)),(oq n47 (.pick t45 t46 (.c (.d (.bool false))))),(om n2 n47)])
 .ret)
 .skip)))
 (.seq (.ops [(om n48 n4),(oq n49 (.bin .eql t48 k0)),(om n50 n49),(og n51 n50 true (.mv t3)),(og n52 n50 true (.mv t0)),(og n53 n50 true (.call (.c (.fn n22 [] [])) [t52] .borrow)),(og n54 n50 true (.bin .eql t51 t53)),(oq n55 (.pick t50 t54 (.c (.d (.bool false))))),(om n56 n55),(og n57 n56 true (.mv t6)),(og n58 n56 true (.bin .eql t57 k0)),(oq n59 (.pick t56 t58 (.c (.d (.bool false))))),(om n60 n59),(og n61 n60 true (.mv t5)),(og n62 n60 true (.mv t0)),(og n63 n60 true (.call (.c (.fn n24 [] [])) [t62] .share)),(og n64 n60 true (.call (.c (.fn n23 [] [])) [t61,t63] .borrow)),(oq n65 (.pick t60 t64 (.c (.d (.bool false))))),(om n66 n65),(og n67 n66 true (.call (.c (.fn n17 [] [])) [] .borrow)),(oq n68 (.pick t66 t67 (.c (.d (.bool false))))),(om n2 n68)])
 .ret))))))
def a7:Ann:=⟨[(n1,n1,n0),(n2,n0,n0),(n3,n1,n1),(n3,n2,n0),(n4,n1,n1),(n4,n2,n1),(n5,n1,n1),(n5,n5,n1),(n5,n7,n3),(n5,n8,n0),(n16,n5,n1),(n16,n6,n0),(n20,n8,n0)],[]⟩
def a19:Ann:=⟨[(n5,n5,n1),(n5,n7,n3)],[]⟩
def c19:ICode:=
 (.seq (.ops [(oq n2 (.mv (.c (.d .nil))))])
 (.seq (.ops [(oq n3 (.mv (.c (.d .nil))))])
 (.seq (.seq (.ops [(oq n4 (.mv k0))])
 (.block n0 (.loop (.seq (.seq (.ops [(om n5 n4),(om n6 n0),(oq n7 (.len t6)),(oq n8 (.bin .lss t5 t7))])
 (.cond t8 .skip
 (.exit n0)))
 (.seq (.block n1 (.ops [(om n11 n3),(om n12 n0),(om n13 n4),(oq n14 (.iaddr n5 t12 t13)),(oq n15 (.load (some n5) t14)),(oq n16 (.call (.c (.fn n35 [] [])) [t15] .share)),(oq n17 (.bslice n5 n1 [.nil,.nil,.nil,.nil,(.int .i64 (.l (i n0)))] [(n0,t16)] false)),(oq n18 (.appendN n5 n104 t11 t17 true)),(om n3 n18)]))
 (.ops [(om n9 n4),(oq n10 (.bin .add t9 k1)),(om n4 n10)]))))))
 (.seq (.ops [(om n19 n3),(om n2 n19)])
 .ret))))
def x19:XFn:=⟨a19,n20,[(.t n2)],c19⟩
def a35:Ann:=⟨[(n1,n2,n3),(n1,n5,n3),(n1,n8,n3),(n5,n14,n3),(n5,n17,n3)],[]⟩
def c35:ICode:=
 (.seq (.ops [(oq n1 (.box t0)),(oq n2 (.alloc [.nil,.nil,.nil,.nil,(.int .i64 (.l (i n0)))]))])
 (.seq (.draw n1 [(dz (of n5 n0 n1) n0 n0),(dz (of n8 n1 n1) n3 n0),(dz (of n11 n2 n1) n6 n0),(dz (of n14 n4 n1) n9 n0),(dq (ol n6 n5) n1 n0 [n0] [] false false),(dq (ol n9 n8) n4 n0 [n0] [] false false),(dq (ol n12 n11) n7 n0 [n0] [] false false),(dq (ol n15 n14) n10 n0 [n0] [] false false),(dz (oq n3 (.alloc [.nil,.nil,.nil,.nil,(.int .i64 (.l (i n0)))])) n12 n0),(dz (oq n7 (.call (.c (.fn n76 [] [])) [t6] .data)) n2 n0),(dz (oq n10 (.call (.c (.fn n76 [] [])) [t9] .data)) n5 n0),(dz (oq n13 (.call (.c (.fn n77 [] [])) [t12] .data)) n8 n0),(dz (oq n16 (.build [.nil,.nil,.nil,.nil,(.int .i64 (.l (i n0)))] [(n0,n1,t7),(n1,n1,t10),(n2,n1,t13),(n4,n1,t15)])) n11 n0),⟨⟨none,none,.store n5 t3 t16⟩,n13,n1,[],[n12,n11,n8,n0,n1,n2,n3,n4,n5,n6,n7,n9,n10],true,false⟩])
 (.seq (.seq (.ops [(oq n4 (.mv k0))])
 (.block n0 (.loop (.seq (.seq (.ops [(om n17 n4),(of n18 n3 n1),(ol n19 n18),(oq n20 (.len t19)),(oq n21 (.bin .lss t17 t20))])
 (.cond t21 .skip
 (.exit n0)))
 (.seq (.block n1 (.draw n0 [(dq (of n24 n3 n3) n0 n0 [] [] false true),(dz (of n26 n3 n1) n2 n0),(dz (om n28 n4) n4 n0),(dz (of n32 n3 n1) n8 n0),(dz (om n34 n4) n10 n0),(dq (ol n25 n24) n1 n0 [] [] false true),(dz (ol n27 n26) n3 n0),(dz (oq n29 (.iaddr n2 t27 t28)) n5 n0),(dz (of n30 n0 n29) n6 n0),(dz (ol n31 n30) n7 n0),(dz (ol n33 n32) n9 n0),(dz (oq n35 (.iaddr n2 t33 t34)) n11 n0),(dz (of n36 n1 n35) n12 n0),(dz (ol n37 n36) n13 n0),(dz (oq n38 (.call (.c (.fn n76 [] [])) [t37] .data)) n14 n0),(dz (oq n39 (.build [(.int .i64 (.l (i n0))),.nil] [(n0,n1,t31),(n1,n1,t38)])) n15 n0),(dq (oq n40 (.bslice n2 n1 [(.int .i64 (.l (i n0))),.nil] [(n0,t39)] false)) n16 n0 [] [n15,n7,n14,n6,n5,n3,n4,n2,n13,n12,n11,n9,n10,n8] false false),(dq (oq n41 (.appendN n2 n32 t25 t40 true)) n17 n0 [] [n1,n16,n14,n0,n15,n7,n6,n5,n3,n4,n2,n13,n12,n11,n9,n10,n8] true false),(dz (of n42 n3 n3) n18 n0),⟨⟨none,none,.store n1 t42 t41⟩,n19,n0,[],[n18,n17,n0,n1,n2,n3,n4,n5,n6,n7,n8,n9,n10,n11,n12,n13,n14,n15,n16],true,false⟩]))
 (.ops [(om n22 n4),(oq n23 (.bin .add t22 k1)),(om n4 n23)]))))))
 (.seq (.ops [(oq n43 (.load (some n5) t3)),⟨none,none,.store n5 t2 t43⟩])
 .ret))))
def x35:XFn:=⟨a35,n44,[(.c n2 (some n5))],c35⟩
end
theorem ok19:FnOk Tryz.prog 19 x19:=fnOk_of Tryz.func19 (by kernel_rfl) (by kernel_rfl) (by kernel_rfl) (by kernel_rfl)
theorem ok35:FnOk Tryz.prog 35 x35:=fnOk_of Tryz.func35 (by kernel_rfl) (by kernel_rfl) (by kernel_rfl) (by kernel_rfl)
end Go.Proofs.Tryz.Run
namespace Go.Proofs.Tryz.Run
open Go Go.Vf Go.Proofs
noncomputable section
def a7r:Ann:=⟨[(n1,n1,n0),(n2,n0,n0),(n3,n1,n1),(n3,n2,n0),(n4,n1,n1),(n4,n2,n1),(n5,n1,n2),(n5,n5,n1),(n5,n7,n3),(n5,n8,n0),(n16,n5,n1),(n16,n6,n0),(n20,n8,n0)],[]⟩
def c7r:ICode:=
 (.seq (.ops [(oq n2 (.mv (.c (.d (.bool false)))))])
 (.seq (.seq (.ops [(om n14 n0),(oq n15 (.call (.c (.fn n34 [] [])) [t14] .borrow)),(oq n16 (.un .not t15))])
 (.cond t16 (.seq (.ops [(oq n17 (.call (.c (.fn n17 [] [])) [] .borrow)),(om n2 n17)])
 .ret)
 .skip))
 (.seq (.ops [(om n19 n0),(oq n20 (.call (.c (.fn n19 [] [])) [t19] .share)),(oq n21 (.call (.c (.fn n18 [] [])) [t20] .borrow)),(om n18 n21),(oq n22 (.extract t18 n0)),(oq n23 (.extract t18 n1)),(om n3 n22),(om n4 n23)])
 (.seq (.ops [(om n25 n0),(oq n26 (.call (.c (.fn n19 [] [])) [t25] .share)),(oq n27 (.call (.c (.fn n20 [] [])) [t26] .share)),(om n24 n27),(oq n28 (.extract t24 n0)),(oq n29 (.extract t24 n1)),(om n5 n28),(om n6 n29)])
 (.seq (.draw n0 [(dz (om n31 n0) n0 n0),(dq (om n33 n0) n2 n0 [] [] false true),(dq (oq n34 (.iaddr n5 t33 k0)) n3 n0 [] [] false true),(dq (oq n35 (.load (some n5) t34)) n4 n0 [] [] false true),(dq (oq n32 (.call (.c (.fn n19 [] [])) [t31] .raw)) n1 n0 [] [n0] false false),(dq (oq n36 (.call (.c (.fn n35 [] [])) [t35] .share)) n5 n0 [] [n4,n1,n3,n2,n0] true false),(dq (oq n37 (.bslice n5 n1 [.nil,.nil,.nil,.nil,(.int .i64 (.l (i n0)))] [(n0,t36)] false)) n6 n0 [] [n5,n4,n1,n3,n2,n0] true false),(dq (oq n38 (.appendN n5 n104 t32 t37 true)) n7 n0 [] [n1,n6,n5,n0,n4,n3,n2] true false),(dq (oq n39 (.call (.c (.fn n18 [] [])) [t38] .borrow)) n8 n0 [] [n7,n1,n6,n5,n0,n4,n3,n2] true false),(dz (om n30 n39) n9 n0),(dz (oq n40 (.extract t30 n0)) n10 n0),(dz (oq n41 (.extract t30 n1)) n11 n0),(dz (om n7 n40) n12 n0),(dz (om n8 n41) n13 n0)])
 (.seq (.seq (.ops [(om n42 n4),(oq n43 (.bin .neq t42 k0)),(om n44 n43),(og n45 n44 false (.mv t6)),(og n46 n44 false (.bin .neq t45 k0)),(oq n47 (.pick t44 (.c (.d (.bool true))) t46)),(om n48 n47),(og n49 n48 false (.mv t8)),(og n50 n48 false (.bin .neq t49 k0)),(oq n51 (.pick t48 (.c (.d (.bool true))) t50)),(om n52 n51),(og n53 n52 false (.mv t7)),(og n54 n52 false (.mv t3)),(og n55 n52 false (.bin .neq t53 t54)),(oq n56 (.pick t52 (.c (.d (.bool true))) t55))])
 (.cond t56 (.seq (.ops [(oq n2 (.mv (.c (.d (.bool false)))))])
 .ret)
 .skip))
 (.seq (.seq (.ops [(oq n9 (.mv k0))])
 (.block n0 (.loop (.seq (.seq (.ops [(om n57 n9),(om n58 n5),(oq n59 (.len t58)),(oq n60 (.bin .lss t57 t59))])
 (.cond t60 .skip
 (.exit n0)))
 (.seq (.block n1 (.ops [(om n63 n7),(om n64 n5),(om n65 n9),(oq n66 (.iaddr n1 t64 t65)),(ol n67 n66),(oq n68 (.bin .sub t63 t67)),(om n7 n68)]))
 (.ops [(om n61 n9),(oq n62 (.bin .add t61 k1)),(om n9 n62)]))))))
 (.seq (.ops [(oq n10 (.mv k0))])
 (.seq (.seq (.ops [(oq n11 (.mv k0))])
 (.block n2 (.loop (.seq (.seq (.ops [(om n69 n11),(om n70 n0),(oq n71 (.len t70)),(oq n72 (.bin .lss t69 t71))])
 (.cond t72 .skip
 (.exit n2)))
 (.seq (.block n3 (.seq (.ops [(om n76 n0),(om n77 n11),(om n78 n11),(oq n79 (.bin .add t78 k1)),(oq n80 (.slice n5 t76 (some t77) (some t79) none)),(oq n81 (.call (.c (.fn n19 [] [])) [t80] .share)),(oq n82 (.call (.c (.fn n18 [] [])) [t81] .borrow)),(om n75 n82),(oq n83 (.extract t75 n0)),(oq n84 (.extract t75 n1)),(om n12 n83),(om n13 n84)])
 (.seq (.seq (.ops [(om n85 n13),(oq n86 (.bin .neq t85 k0)),(om n87 n86),(og n88 n87 false (.mv t12)),(og n89 n87 false (.mv t0)),(og n90 n87 false (.mv t11)),(og n91 n87 false (.iaddr n5 t89 t90)),(og n92 n87 false (.faddr n3 t91)),(og n93 n87 false (.load none t92)),(og n94 n87 false (.len t93)),(og n95 n87 false (.bin .neq t88 t94)),(oq n96 (.pick t87 (.c (.d (.bool true))) t95)),(om n97 n96),(og n98 n97 false (.mv t12)),(og n99 n97 false (.mv t3)),(og n100 n97 false (.bin .gtr t98 t99)),(oq n101 (.pick t97 (.c (.d (.bool true))) t100))])
 (.cond t101 (.seq (.ops [(oq n2 (.mv (.c (.d (.bool false)))))])
 .ret)
 .skip))
 (.ops [(om n102 n10),(om n103 n12),(oq n104 (.bin .add t102 t103)),(om n10 n104)]))))
 (.ops [(om n73 n11),(oq n74 (.bin .add t73 k1)),(om n11 n74)]))))))
 (.seq (.ops [(om n105 n7),(oq n106 (.bin .eql t105 k0)),(om n107 n106),(og n108 n107 true (.mv t3)),(og n109 n107 true (.mv t10)),(og n110 n107 true (.bin .leq t108 t109)),(oq n111 (.pick t107 t110 (.c (.d (.bool false))))),(om n112 n111),(og n113 n112 true (.call (.c (.fn n17 [] [])) [] .borrow)),(oq n114 (.pick t112 t113 (.c (.d (.bool false))))),(om n2 n114)])
 .ret))))))))))
def x7r:XFn:=⟨a7r,n115,[(.t n2)],c7r⟩
end
theorem ok7r:FnOk Tryz.prog 7 x7r:=fnOk_of Tryz.func7 (by kernel_rfl) (by kernel_rfl) (by kernel_rfl) (by kernel_rfl)
end Go.Proofs.Tryz.Run
