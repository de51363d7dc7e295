/- The functions of the table, and the table. Conditions: none. -/
import Derived.Test.YtpcokdalcafgdaaGreatZTb1
namespace Go.Proofs.Tryz.Run
open Go Go.Vf
noncomputable section
def a191:Ann:=⟨[(n8,n2,n2),(n9,n2,n2),(n10,n2,n2),(n11,n4,n2)],[]⟩
def c191:ICode:=
 (.seq (.ops [(oq n6 (.mv k0)),(oq n7 (.mv k0))])
 (.seq (.ops [(om n13 n2),(om n14 n1),(oq n15 (.bin .sub t13 t14)),(om n8 n15)])
 (.seq (.ops [(oq n9 (.alloc [(.int .i64 (.l (i n0)))]))])
 (.seq (.ops [(om n16 n1),(om n17 n8),(oq n18 (.bin .quo t17 k4)),(oq n19 (.bin .mul t18 k1)),(oq n20 (.bin .add t16 t19)),(om n10 n20)])
 (.seq (.ops [(om n21 n1),(om n22 n8),(oq n23 (.bin .quo t22 k4)),(oq n24 (.bin .mul t23 k2)),(oq n25 (.bin .add t21 t24)),(om n11 n25)])
 (.seq (.ops [(om n26 n1),(om n27 n8),(oq n28 (.bin .quo t27 k4)),(oq n29 (.bin .mul t28 k3)),(oq n30 (.bin .add t26 t29)),(om n12 n30)])
 (.seq (.seq (.ops [(om n31 n8),(oq n32 (.bin .geq t31 k8))])
 (.cond t32 (.seq (.seq (.ops [(om n33 n8),(oq n34 (.bin .geq t33 k50))])
 (.cond t34 (.seq (.ops [(om n35 n0),(om n36 n10),(oq n37 (.call (.c (.fn n200 [] [])) [t35,t36,t9] .raw)),(om n10 n37)])
 (.seq (.ops [(om n38 n0),(om n39 n11),(oq n40 (.call (.c (.fn n200 [] [])) [t38,t39,t9] .raw)),(om n11 n40)])
 (.ops [(om n41 n0),(om n42 n12),(oq n43 (.call (.c (.fn n200 [] [])) [t41,t42,t9] .raw)),(om n12 n43)])))
 .skip))
 (.ops [(om n44 n0),(om n45 n10),(om n46 n11),(om n47 n12),(oq n48 (.call (.c (.fn n201 [] [])) [t44,t45,t46,t47,t9] .raw)),(om n11 n48)]))
 .skip))
 (.seq (.ops [(ol n49 n9)])
 (.block n0 (.seq (.ops [(oq n52 (.bin .eql t49 k0)),(om n51 n52)])
 (.cond t51 (.seq (.ops [(om n53 n11),(om n6 n53),(oq n7 (.mv k1))])
 .ret)
 (.seq (.ops [(oq n55 (.bin .eql t49 k12)),(om n54 n55)])
 (.cond t54 (.seq (.ops [(om n56 n11),(om n6 n56),(oq n7 (.mv k2))])
 .ret)
 (.seq (.ops [(om n50 n11),(om n6 n50),(oq n7 (.mv k0))])
 .ret))))))))))))))
def x191:XFn:=⟨a191,n57,[(.t n6),(.t n7)],c191⟩
def a192:Ann:=⟨[],[]⟩
def c192:ICode:=
 (.seq (.ops [(om n8 n1),(om n6 n8)])
 (.seq (.ops [(om n9 n2),(oq n10 (.bin .sub t9 k1)),(om n7 n10)])
 (.block n0 (.loop (.seq (.seq (.ops [(om n11 n6),(om n12 n7),(oq n13 (.bin .lss t11 t12))])
 (.cond t13 .skip
 (.exit n0)))
 (.block n1 (.seq (.draw n0 [(dz (om n14 n0) n0 n0),(dz (om n15 n6) n1 n0),(dq (om n16 n0) n2 n0 [] [] false true),(dq (om n17 n7) n3 n0 [] [] false true),(dz (om n18 n0) n4 n0),(dz (om n19 n7) n5 n0),(dz (oq n20 (.iaddr n1 t18 t19)) n6 n0),(dz (om n22 n0) n8 n0),(dz (om n23 n6) n9 n0),(dz (oq n24 (.iaddr n1 t22 t23)) n10 n0),(dz (ol n21 n20) n7 n0),(dz (ol n25 n24) n11 n0),(dz (oq n26 (.iaddr n1 t14 t15)) n12 n0),⟨⟨none,none,.store n1 t26 t21⟩,n13,n0,[],[n12,n7,n0,n1,n4,n5,n6,n11,n10,n8,n9],false,false⟩,(dz (oq n27 (.iaddr n1 t16 t17)) n14 n0),⟨⟨none,none,.store n1 t27 t25⟩,n15,n0,[],[n14,n11,n13,n0,n1,n2,n3,n4,n5,n6,n7,n8,n9,n10,n12],true,false⟩])
 (.seq (.ops [(om n28 n6),(oq n29 (.bin .add t28 k1)),(om n6 n29)])
 (.ops [(om n30 n7),(oq n31 (.bin .sub t30 k1)),(om n7 n31)])))))))))
def x192:XFn:=⟨a192,n32,[],c192⟩
def a193:Ann:=⟨[(n5,n13,n0),(n16,n9,n0),(n22,n9,n0)],[]⟩
def c193:ICode:=
 (.seq (.ops [(oq n6 (.mv (.c (.d (.bool false)))))])
 (.seq (.ops [(om n11 n1),(oq n12 (.bin .add t11 k1)),(om n7 n12)])
 (.seq (.seq (.ops [(oq n8 (.mv k0))])
 (.block n0 (.loop (.seq (.seq (.ops [(om n13 n8),(oq n14 (.bin .lss t13 k5))])
 (.cond t14 .skip
 (.exit n0)))
 (.seq (.block n1 (.seq (.block n2 (.loop (.seq (.seq (.draw n0 [(dz (om n17 n7) n0 n0),(dz (om n18 n2) n1 n0),(dz (oq n19 (.bin .lss t17 t18)) n2 n0),(dz (om n20 n19) n3 n0),(dz (og n21 n20 true (.mv t0)) n4 n0),(dz (og n22 n20 true (.mv t7)) n5 n0),(dz (og n23 n20 true (.iaddr n1 t21 t22)) n6 n0),(dz (og n25 n20 true (.mv t0)) n8 n0),(dz (og n26 n20 true (.mv t7)) n9 n0),(dz (og n27 n20 true (.bin .sub t26 k1)) n10 n0),(dz (og n28 n20 true (.iaddr n1 t25 t27)) n11 n0),(dz (og n24 n20 true (.load none t23)) n7 n0),(dz (og n29 n20 true (.load none t28)) n12 n0),(dq (og n30 n20 true (.call (.c (.fn n194 [] [])) [t24,t29] .borrow)) n13 n0 [] [n7,n12,n3,n6,n4,n5,n2,n0,n1,n11,n8,n10,n9] true false),(dz (og n31 n20 true (.un .not t30)) n14 n0),(dz (oq n32 (.pick t20 t31 (.c (.d (.bool false))))) n15 n0)])
 (.cond t32 .skip
 (.exit n2)))
 (.block n3 (.ops [(om n33 n7),(oq n34 (.bin .add t33 k1)),(om n7 n34)])))))
 (.seq (.seq (.ops [(om n35 n7),(om n36 n2),(oq n37 (.bin .eql t35 t36))])
 (.cond t37 (.seq (.ops [(oq n6 (.mv (.c (.d (.bool true)))))])
 .ret)
 .skip))
 (.seq (.seq (.ops [(om n38 n2),(om n39 n1),(oq n40 (.bin .sub t38 t39)),(oq n41 (.bin .lss t40 k50))])
 (.cond t41 (.seq (.ops [(oq n6 (.mv (.c (.d (.bool false)))))])
 .ret)
 .skip))
 (.seq (.draw n0 [(dz (om n42 n0) n0 n0),(dz (om n43 n7) n1 n0),(dq (om n44 n0) n2 n0 [] [] false true),(dq (om n45 n7) n3 n0 [] [] false true),(dq (oq n46 (.bin .sub t45 k1)) n4 n0 [] [] false true),(dz (om n47 n0) n5 n0),(dz (om n48 n7) n6 n0),(dz (oq n49 (.bin .sub t48 k1)) n7 n0),(dz (oq n50 (.iaddr n1 t47 t49)) n8 n0),(dz (om n52 n0) n10 n0),(dz (om n53 n7) n11 n0),(dz (oq n54 (.iaddr n1 t52 t53)) n12 n0),(dz (ol n51 n50) n9 n0),(dz (ol n55 n54) n13 n0),(dz (oq n56 (.iaddr n1 t42 t43)) n14 n0),⟨⟨none,none,.store n1 t56 t51⟩,n15,n0,[],[n14,n9,n0,n1,n5,n6,n7,n8,n13,n12,n10,n11],false,false⟩,(dz (oq n57 (.iaddr n1 t44 t46)) n16 n0),⟨⟨none,none,.store n1 t57 t55⟩,n17,n0,[],[n16,n13,n15,n0,n1,n2,n3,n4,n5,n6,n7,n8,n9,n10,n11,n12,n14],true,false⟩])
 (.seq (.seq (.ops [(om n58 n7),(om n59 n1),(oq n60 (.bin .sub t58 t59)),(oq n61 (.bin .geq t60 k2))])
 (.cond t61 (.seq (.ops [(om n62 n7),(oq n63 (.bin .sub t62 k1)),(om n9 n63)])
 (.block n4 (.loop (.seq (.seq (.ops [(om n64 n9),(oq n65 (.bin .geq t64 k1))])
 (.cond t65 .skip
 (.exit n4)))
 (.seq (.block n5 (.seq (.seq (.draw n0 [(dz (om n68 n0) n0 n0),(dz (om n69 n9) n1 n0),(dz (oq n70 (.iaddr n1 t68 t69)) n2 n0),(dz (om n72 n0) n4 n0),(dz (om n73 n9) n5 n0),(dz (oq n74 (.bin .sub t73 k1)) n6 n0),(dz (oq n75 (.iaddr n1 t72 t74)) n7 n0),(dz (ol n71 n70) n3 n0),(dz (ol n76 n75) n8 n0),(dq (oq n77 (.call (.c (.fn n194 [] [])) [t71,t76] .borrow)) n9 n0 [] [n3,n8,n2,n0,n1,n7,n4,n6,n5] true false),(dz (oq n78 (.un .not t77)) n10 n0)])
 (.cond t78 (.exit n4)
 .skip))
 (.draw n0 [(dz (om n79 n0) n0 n0),(dz (om n80 n9) n1 n0),(dq (om n81 n0) n2 n0 [] [] false true),(dq (om n82 n9) n3 n0 [] [] false true),(dq (oq n83 (.bin .sub t82 k1)) n4 n0 [] [] false true),(dz (om n84 n0) n5 n0),(dz (om n85 n9) n6 n0),(dz (oq n86 (.bin .sub t85 k1)) n7 n0),(dz (oq n87 (.iaddr n1 t84 t86)) n8 n0),(dz (om n89 n0) n10 n0),(dz (om n90 n9) n11 n0),(dz (oq n91 (.iaddr n1 t89 t90)) n12 n0),(dz (ol n88 n87) n9 n0),(dz (ol n92 n91) n13 n0),(dz (oq n93 (.iaddr n1 t79 t80)) n14 n0),⟨⟨none,none,.store n1 t93 t88⟩,n15,n0,[],[n14,n9,n0,n1,n5,n6,n7,n8,n13,n12,n10,n11],false,false⟩,(dz (oq n94 (.iaddr n1 t81 t83)) n16 n0),⟨⟨none,none,.store n1 t94 t92⟩,n17,n0,[],[n16,n13,n15,n0,n1,n2,n3,n4,n5,n6,n7,n8,n9,n10,n11,n12,n14],true,false⟩])))
 (.ops [(om n66 n9),(oq n67 (.bin .sub t66 k1)),(om n9 n67)]))))))
 .skip))
 (.seq (.ops [(om n95 n2),(om n96 n7),(oq n97 (.bin .sub t95 t96)),(oq n98 (.bin .geq t97 k2))])
 (.cond t98 (.seq (.ops [(om n99 n7),(oq n100 (.bin .add t99 k1)),(om n10 n100)])
 (.block n6 (.loop (.seq (.seq (.ops [(om n101 n10),(om n102 n2),(oq n103 (.bin .lss t101 t102))])
 (.cond t103 .skip
 (.exit n6)))
 (.seq (.block n7 (.seq (.seq (.draw n0 [(dz (om n106 n0) n0 n0),(dz (om n107 n10) n1 n0),(dz (oq n108 (.iaddr n1 t106 t107)) n2 n0),(dz (om n110 n0) n4 n0),(dz (om n111 n10) n5 n0),(dz (oq n112 (.bin .sub t111 k1)) n6 n0),(dz (oq n113 (.iaddr n1 t110 t112)) n7 n0),(dz (ol n109 n108) n3 n0),(dz (ol n114 n113) n8 n0),(dq (oq n115 (.call (.c (.fn n194 [] [])) [t109,t114] .borrow)) n9 n0 [] [n3,n8,n2,n0,n1,n7,n4,n6,n5] true false),(dz (oq n116 (.un .not t115)) n10 n0)])
 (.cond t116 (.exit n6)
 .skip))
 (.draw n0 [(dz (om n117 n0) n0 n0),(dz (om n118 n10) n1 n0),(dq (om n119 n0) n2 n0 [] [] false true),(dq (om n120 n10) n3 n0 [] [] false true),(dq (oq n121 (.bin .sub t120 k1)) n4 n0 [] [] false true),(dz (om n122 n0) n5 n0),(dz (om n123 n10) n6 n0),(dz (oq n124 (.bin .sub t123 k1)) n7 n0),(dz (oq n125 (.iaddr n1 t122 t124)) n8 n0),(dz (om n127 n0) n10 n0),(dz (om n128 n10) n11 n0),(dz (oq n129 (.iaddr n1 t127 t128)) n12 n0),(dz (ol n126 n125) n9 n0),(dz (ol n130 n129) n13 n0),(dz (oq n131 (.iaddr n1 t117 t118)) n14 n0),⟨⟨none,none,.store n1 t131 t126⟩,n15,n0,[],[n14,n9,n0,n1,n5,n6,n7,n8,n13,n12,n10,n11],false,false⟩,(dz (oq n132 (.iaddr n1 t119 t121)) n16 n0),⟨⟨none,none,.store n1 t132 t130⟩,n17,n0,[],[n16,n13,n15,n0,n1,n2,n3,n4,n5,n6,n7,n8,n9,n10,n11,n12,n14],true,false⟩])))
 (.ops [(om n104 n10),(oq n105 (.bin .add t104 k1)),(om n10 n105)]))))))
 .skip))))))))
 (.ops [(om n15 n8),(oq n16 (.bin .add t15 k1)),(om n8 n16)]))))))
 (.seq (.ops [(oq n6 (.mv (.c (.d (.bool false)))))])
 .ret))))
def x193:XFn:=⟨a193,n133,[(.t n6)],c193⟩
def a194:Ann:=⟨[(n1,n1,n0),(n1,n4,n0)],[]⟩
def c194:ICode:=
 (.seq (.ops [(oq n4 (.mv (.c (.d (.bool false)))))])
 (.seq (.ops [(om n5 n0),(oq n6 (.call (.c (.fn n94 [] [])) [t5] .borrow)),(om n7 n6),(og n8 n7 true (.mv t1)),(og n9 n7 true (.call (.c (.fn n94 [] [])) [t8] .borrow)),(og n10 n7 true (.un .not t9)),(oq n11 (.pick t7 t10 (.c (.d (.bool false))))),(om n12 n11),(og n13 n12 false (.mv t0)),(og n14 n12 false (.mv t1)),(og n15 n12 false (.bin .lss t13 t14)),(oq n16 (.pick t12 (.c (.d (.bool true))) t15)),(om n4 n16)])
 .ret))
def x194:XFn:=⟨a194,n17,[(.t n4)],c194⟩
def a195:Ann:=⟨[(n3,n12,n0),(n5,n12,n0)],[]⟩
def c195:ICode:=
 (.seq (.ops [(oq n8 (.mv k0))])
 (.seq (.draw n0 [(dz (om n11 n0) n0 n0),(dz (om n12 n1) n1 n0),(dq (om n13 n0) n2 n0 [] [] false true),(dq (om n14 n3) n3 n0 [] [] false true),(dz (om n15 n0) n4 n0),(dz (om n16 n3) n5 n0),(dz (oq n17 (.iaddr n1 t15 t16)) n6 n0),(dz (om n19 n0) n8 n0),(dz (om n20 n1) n9 n0),(dz (oq n21 (.iaddr n1 t19 t20)) n10 n0),(dz (ol n18 n17) n7 n0),(dz (ol n22 n21) n11 n0),(dz (oq n23 (.iaddr n1 t11 t12)) n12 n0),⟨⟨none,none,.store n1 t23 t18⟩,n13,n0,[],[n12,n7,n0,n1,n4,n5,n6,n11,n10,n8,n9],false,false⟩,(dz (oq n24 (.iaddr n1 t13 t14)) n14 n0),⟨⟨none,none,.store n1 t24 t22⟩,n15,n0,[],[n14,n11,n13,n0,n1,n2,n3,n4,n5,n6,n7,n8,n9,n10,n12],true,false⟩])
 (.seq (.ops [(om n25 n1),(oq n26 (.bin .add t25 k1)),(om n27 n2),(oq n28 (.bin .sub t27 k1)),(om n9 n26),(om n10 n28)])
 (.seq (.block n0 (.loop (.block n1 (.seq (.block n2 (.loop (.seq (.seq (.draw n0 [(dz (om n29 n9) n0 n0),(dz (om n30 n10) n1 n0),(dz (oq n31 (.bin .leq t29 t30)) n2 n0),(dz (om n32 n31) n3 n0),(dz (og n33 n32 true (.mv t0)) n4 n0),(dz (og n34 n32 true (.mv t1)) n5 n0),(dz (og n35 n32 true (.iaddr n1 t33 t34)) n6 n0),(dz (og n37 n32 true (.mv t0)) n8 n0),(dz (og n38 n32 true (.mv t9)) n9 n0),(dz (og n39 n32 true (.iaddr n1 t37 t38)) n10 n0),(dz (og n36 n32 true (.load none t35)) n7 n0),(dz (og n40 n32 true (.load none t39)) n11 n0),(dq (og n41 n32 true (.call (.c (.fn n194 [] [])) [t36,t40] .borrow)) n12 n0 [] [n7,n11,n3,n6,n4,n5,n2,n0,n1,n10,n8,n9] true false),(dz (og n42 n32 true (.un .not t41)) n13 n0),(dz (oq n43 (.pick t32 t42 (.c (.d (.bool false))))) n14 n0)])
 (.cond t43 .skip
 (.exit n2)))
 (.block n3 (.ops [(om n44 n9),(oq n45 (.bin .add t44 k1)),(om n9 n45)])))))
 (.seq (.block n4 (.loop (.seq (.seq (.draw n0 [(dz (om n46 n9) n0 n0),(dz (om n47 n10) n1 n0),(dz (oq n48 (.bin .leq t46 t47)) n2 n0),(dz (om n49 n48) n3 n0),(dz (og n50 n49 true (.mv t0)) n4 n0),(dz (og n51 n49 true (.mv t1)) n5 n0),(dz (og n52 n49 true (.iaddr n1 t50 t51)) n6 n0),(dz (og n54 n49 true (.mv t0)) n8 n0),(dz (og n55 n49 true (.mv t10)) n9 n0),(dz (og n56 n49 true (.iaddr n1 t54 t55)) n10 n0),(dz (og n53 n49 true (.load none t52)) n7 n0),(dz (og n57 n49 true (.load none t56)) n11 n0),(dq (og n58 n49 true (.call (.c (.fn n194 [] [])) [t53,t57] .borrow)) n12 n0 [] [n7,n11,n3,n6,n4,n5,n2,n0,n1,n10,n8,n9] true false),(dz (oq n59 (.pick t49 t58 (.c (.d (.bool false))))) n13 n0)])
 (.cond t59 .skip
 (.exit n4)))
 (.block n5 (.ops [(om n60 n10),(oq n61 (.bin .sub t60 k1)),(om n10 n61)])))))
 (.seq (.seq (.ops [(om n62 n9),(om n63 n10),(oq n64 (.bin .gtr t62 t63))])
 (.cond t64 (.exit n0)
 .skip))
 (.seq (.draw n0 [(dz (om n65 n0) n0 n0),(dz (om n66 n9) n1 n0),(dq (om n67 n0) n2 n0 [] [] false true),(dq (om n68 n10) n3 n0 [] [] false true),(dz (om n69 n0) n4 n0),(dz (om n70 n10) n5 n0),(dz (oq n71 (.iaddr n1 t69 t70)) n6 n0),(dz (om n73 n0) n8 n0),(dz (om n74 n9) n9 n0),(dz (oq n75 (.iaddr n1 t73 t74)) n10 n0),(dz (ol n72 n71) n7 n0),(dz (ol n76 n75) n11 n0),(dz (oq n77 (.iaddr n1 t65 t66)) n12 n0),⟨⟨none,none,.store n1 t77 t72⟩,n13,n0,[],[n12,n7,n0,n1,n4,n5,n6,n11,n10,n8,n9],false,false⟩,(dz (oq n78 (.iaddr n1 t67 t68)) n14 n0),⟨⟨none,none,.store n1 t78 t76⟩,n15,n0,[],[n14,n11,n13,n0,n1,n2,n3,n4,n5,n6,n7,n8,n9,n10,n12],true,false⟩])
 (.seq (.ops [(om n79 n9),(oq n80 (.bin .add t79 k1)),(om n9 n80)])
 (.ops [(om n81 n10),(oq n82 (.bin .sub t81 k1)),(om n10 n82)])))))))))
 (.seq (.ops [(om n83 n9),(om n8 n83)])
 .ret)))))
def x195:XFn:=⟨a195,n84,[(.t n8)],c195⟩
def a196:Ann:=⟨[(n3,n12,n0),(n5,n12,n0),(n13,n12,n0),(n15,n12,n0)],[]⟩
def c196:ICode:=
 (.seq (.ops [(oq n8 (.mv k0)),(oq n9 (.mv (.c (.d (.bool false)))))])
 (.seq (.draw n0 [(dz (om n12 n0) n0 n0),(dz (om n13 n1) n1 n0),(dq (om n14 n0) n2 n0 [] [] false true),(dq (om n15 n3) n3 n0 [] [] false true),(dz (om n16 n0) n4 n0),(dz (om n17 n3) n5 n0),(dz (oq n18 (.iaddr n1 t16 t17)) n6 n0),(dz (om n20 n0) n8 n0),(dz (om n21 n1) n9 n0),(dz (oq n22 (.iaddr n1 t20 t21)) n10 n0),(dz (ol n19 n18) n7 n0),(dz (ol n23 n22) n11 n0),(dz (oq n24 (.iaddr n1 t12 t13)) n12 n0),⟨⟨none,none,.store n1 t24 t19⟩,n13,n0,[],[n12,n7,n0,n1,n4,n5,n6,n11,n10,n8,n9],false,false⟩,(dz (oq n25 (.iaddr n1 t14 t15)) n14 n0),⟨⟨none,none,.store n1 t25 t23⟩,n15,n0,[],[n14,n11,n13,n0,n1,n2,n3,n4,n5,n6,n7,n8,n9,n10,n12],true,false⟩])
 (.seq (.ops [(om n26 n1),(oq n27 (.bin .add t26 k1)),(om n28 n2),(oq n29 (.bin .sub t28 k1)),(om n10 n27),(om n11 n29)])
 (.seq (.block n0 (.loop (.seq (.seq (.draw n0 [(dz (om n30 n10) n0 n0),(dz (om n31 n11) n1 n0),(dz (oq n32 (.bin .leq t30 t31)) n2 n0),(dz (om n33 n32) n3 n0),(dz (og n34 n33 true (.mv t0)) n4 n0),(dz (og n35 n33 true (.mv t10)) n5 n0),(dz (og n36 n33 true (.iaddr n1 t34 t35)) n6 n0),(dz (og n38 n33 true (.mv t0)) n8 n0),(dz (og n39 n33 true (.mv t1)) n9 n0),(dz (og n40 n33 true (.iaddr n1 t38 t39)) n10 n0),(dz (og n37 n33 true (.load none t36)) n7 n0),(dz (og n41 n33 true (.load none t40)) n11 n0),(dq (og n42 n33 true (.call (.c (.fn n194 [] [])) [t37,t41] .borrow)) n12 n0 [] [n7,n11,n3,n6,n4,n5,n2,n0,n1,n10,n8,n9] true false),(dz (oq n43 (.pick t33 t42 (.c (.d (.bool false))))) n13 n0)])
 (.cond t43 .skip
 (.exit n0)))
 (.block n1 (.ops [(om n44 n10),(oq n45 (.bin .add t44 k1)),(om n10 n45)])))))
 (.seq (.block n2 (.loop (.seq (.seq (.draw n0 [(dz (om n46 n10) n0 n0),(dz (om n47 n11) n1 n0),(dz (oq n48 (.bin .leq t46 t47)) n2 n0),(dz (om n49 n48) n3 n0),(dz (og n50 n49 true (.mv t0)) n4 n0),(dz (og n51 n49 true (.mv t11)) n5 n0),(dz (og n52 n49 true (.iaddr n1 t50 t51)) n6 n0),(dz (og n54 n49 true (.mv t0)) n8 n0),(dz (og n55 n49 true (.mv t1)) n9 n0),(dz (og n56 n49 true (.iaddr n1 t54 t55)) n10 n0),(dz (og n53 n49 true (.load none t52)) n7 n0),(dz (og n57 n49 true (.load none t56)) n11 n0),(dq (og n58 n49 true (.call (.c (.fn n194 [] [])) [t53,t57] .borrow)) n12 n0 [] [n7,n11,n3,n6,n4,n5,n2,n0,n1,n10,n8,n9] true false),(dz (og n59 n49 true (.un .not t58)) n13 n0),(dz (oq n60 (.pick t49 t59 (.c (.d (.bool false))))) n14 n0)])
 (.cond t60 .skip
 (.exit n2)))
 (.block n3 (.ops [(om n61 n11),(oq n62 (.bin .sub t61 k1)),(om n11 n62)])))))
 (.seq (.seq (.ops [(om n63 n10),(om n64 n11),(oq n65 (.bin .gtr t63 t64))])
 (.cond t65 (.seq (.draw n0 [(dz (om n66 n0) n0 n0),(dz (om n67 n11) n1 n0),(dq (om n68 n0) n2 n0 [] [] false true),(dq (om n69 n1) n3 n0 [] [] false true),(dz (om n70 n0) n4 n0),(dz (om n71 n1) n5 n0),(dz (oq n72 (.iaddr n1 t70 t71)) n6 n0),(dz (om n74 n0) n8 n0),(dz (om n75 n11) n9 n0),(dz (oq n76 (.iaddr n1 t74 t75)) n10 n0),(dz (ol n73 n72) n7 n0),(dz (ol n77 n76) n11 n0),(dz (oq n78 (.iaddr n1 t66 t67)) n12 n0),⟨⟨none,none,.store n1 t78 t73⟩,n13,n0,[],[n12,n7,n0,n1,n4,n5,n6,n11,n10,n8,n9],false,false⟩,(dz (oq n79 (.iaddr n1 t68 t69)) n14 n0),⟨⟨none,none,.store n1 t79 t77⟩,n15,n0,[],[n14,n11,n13,n0,n1,n2,n3,n4,n5,n6,n7,n8,n9,n10,n12],true,false⟩])
 (.seq (.ops [(om n80 n11),(om n8 n80),(oq n9 (.mv (.c (.d (.bool true)))))])
 .ret))
 .skip))
 (.seq (.draw n0 [(dz (om n81 n0) n0 n0),(dz (om n82 n10) n1 n0),(dq (om n83 n0) n2 n0 [] [] false true),(dq (om n84 n11) n3 n0 [] [] false true),(dz (om n85 n0) n4 n0),(dz (om n86 n11) n5 n0),(dz (oq n87 (.iaddr n1 t85 t86)) n6 n0),(dz (om n89 n0) n8 n0),(dz (om n90 n10) n9 n0),(dz (oq n91 (.iaddr n1 t89 t90)) n10 n0),(dz (ol n88 n87) n7 n0),(dz (ol n92 n91) n11 n0),(dz (oq n93 (.iaddr n1 t81 t82)) n12 n0),⟨⟨none,none,.store n1 t93 t88⟩,n13,n0,[],[n12,n7,n0,n1,n4,n5,n6,n11,n10,n8,n9],false,false⟩,(dz (oq n94 (.iaddr n1 t83 t84)) n14 n0),⟨⟨none,none,.store n1 t94 t92⟩,n15,n0,[],[n14,n11,n13,n0,n1,n2,n3,n4,n5,n6,n7,n8,n9,n10,n12],true,false⟩])
 (.seq (.ops [(om n95 n10),(oq n96 (.bin .add t95 k1)),(om n10 n96)])
 (.seq (.ops [(om n97 n11),(oq n98 (.bin .sub t97 k1)),(om n11 n98)])
 (.seq (.block n4 (.loop (.block n5 (.seq (.block n6 (.loop (.seq (.seq (.draw n0 [(dz (om n99 n10) n0 n0),(dz (om n100 n11) n1 n0),(dz (oq n101 (.bin .leq t99 t100)) n2 n0),(dz (om n102 n101) n3 n0),(dz (og n103 n102 true (.mv t0)) n4 n0),(dz (og n104 n102 true (.mv t10)) n5 n0),(dz (og n105 n102 true (.iaddr n1 t103 t104)) n6 n0),(dz (og n107 n102 true (.mv t0)) n8 n0),(dz (og n108 n102 true (.mv t1)) n9 n0),(dz (og n109 n102 true (.iaddr n1 t107 t108)) n10 n0),(dz (og n106 n102 true (.load none t105)) n7 n0),(dz (og n110 n102 true (.load none t109)) n11 n0),(dq (og n111 n102 true (.call (.c (.fn n194 [] [])) [t106,t110] .borrow)) n12 n0 [] [n7,n11,n3,n6,n4,n5,n2,n0,n1,n10,n8,n9] true false),(dz (oq n112 (.pick t102 t111 (.c (.d (.bool false))))) n13 n0)])
 (.cond t112 .skip
 (.exit n6)))
 (.block n7 (.ops [(om n113 n10),(oq n114 (.bin .add t113 k1)),(om n10 n114)])))))
 (.seq (.block n8 (.loop (.seq (.seq (.draw n0 [(dz (om n115 n10) n0 n0),(dz (om n116 n11) n1 n0),(dz (oq n117 (.bin .leq t115 t116)) n2 n0),(dz (om n118 n117) n3 n0),(dz (og n119 n118 true (.mv t0)) n4 n0),(dz (og n120 n118 true (.mv t11)) n5 n0),(dz (og n121 n118 true (.iaddr n1 t119 t120)) n6 n0),(dz (og n123 n118 true (.mv t0)) n8 n0),(dz (og n124 n118 true (.mv t1)) n9 n0),(dz (og n125 n118 true (.iaddr n1 t123 t124)) n10 n0),(dz (og n122 n118 true (.load none t121)) n7 n0),(dz (og n126 n118 true (.load none t125)) n11 n0),(dq (og n127 n118 true (.call (.c (.fn n194 [] [])) [t122,t126] .borrow)) n12 n0 [] [n7,n11,n3,n6,n4,n5,n2,n0,n1,n10,n8,n9] true false),(dz (og n128 n118 true (.un .not t127)) n13 n0),(dz (oq n129 (.pick t118 t128 (.c (.d (.bool false))))) n14 n0)])
 (.cond t129 .skip
 (.exit n8)))
 (.block n9 (.ops [(om n130 n11),(oq n131 (.bin .sub t130 k1)),(om n11 n131)])))))
 (.seq (.seq (.ops [(om n132 n10),(om n133 n11),(oq n134 (.bin .gtr t132 t133))])
 (.cond t134 (.exit n4)
 .skip))
 (.seq (.draw n0 [(dz (om n135 n0) n0 n0),(dz (om n136 n10) n1 n0),(dq (om n137 n0) n2 n0 [] [] false true),(dq (om n138 n11) n3 n0 [] [] false true),(dz (om n139 n0) n4 n0),(dz (om n140 n11) n5 n0),(dz (oq n141 (.iaddr n1 t139 t140)) n6 n0),(dz (om n143 n0) n8 n0),(dz (om n144 n10) n9 n0),(dz (oq n145 (.iaddr n1 t143 t144)) n10 n0),(dz (ol n142 n141) n7 n0),(dz (ol n146 n145) n11 n0),(dz (oq n147 (.iaddr n1 t135 t136)) n12 n0),⟨⟨none,none,.store n1 t147 t142⟩,n13,n0,[],[n12,n7,n0,n1,n4,n5,n6,n11,n10,n8,n9],false,false⟩,(dz (oq n148 (.iaddr n1 t137 t138)) n14 n0),⟨⟨none,none,.store n1 t148 t146⟩,n15,n0,[],[n14,n11,n13,n0,n1,n2,n3,n4,n5,n6,n7,n8,n9,n10,n12],true,false⟩])
 (.seq (.ops [(om n149 n10),(oq n150 (.bin .add t149 k1)),(om n10 n150)])
 (.ops [(om n151 n11),(oq n152 (.bin .sub t151 k1)),(om n11 n152)])))))))))
 (.seq (.draw n0 [(dz (om n153 n0) n0 n0),(dz (om n154 n11) n1 n0),(dq (om n155 n0) n2 n0 [] [] false true),(dq (om n156 n1) n3 n0 [] [] false true),(dz (om n157 n0) n4 n0),(dz (om n158 n1) n5 n0),(dz (oq n159 (.iaddr n1 t157 t158)) n6 n0),(dz (om n161 n0) n8 n0),(dz (om n162 n11) n9 n0),(dz (oq n163 (.iaddr n1 t161 t162)) n10 n0),(dz (ol n160 n159) n7 n0),(dz (ol n164 n163) n11 n0),(dz (oq n165 (.iaddr n1 t153 t154)) n12 n0),⟨⟨none,none,.store n1 t165 t160⟩,n13,n0,[],[n12,n7,n0,n1,n4,n5,n6,n11,n10,n8,n9],false,false⟩,(dz (oq n166 (.iaddr n1 t155 t156)) n14 n0),⟨⟨none,none,.store n1 t166 t164⟩,n15,n0,[],[n14,n11,n13,n0,n1,n2,n3,n4,n5,n6,n7,n8,n9,n10,n12],true,false⟩])
 (.seq (.ops [(om n167 n11),(om n8 n167),(oq n9 (.mv (.c (.d (.bool false)))))])
 .ret))))))))))))
def x196:XFn:=⟨a196,n168,[(.t n8),(.t n9)],c196⟩
def a197:Ann:=⟨[(n1,n7,n0),(n1,n8,n0)],[]⟩
def c197:ICode:=
 (.seq (.ops [(oq n5 (.mv (.c (.d (.bool false)))))])
 (.seq (.draw n0 [(dq (om n7 n0) n1 n0 [] [] false true),(dz (of n9 n0 n1) n3 n0),(dz (of n11 n0 n3) n5 n0),(dq (oq n6 (.load (some n7) t1)) n0 n0 [] [] false true),(dq (ol n8 n2) n2 n0 [] [] false true),(dz (oq n10 (.load (some n2) t9)) n4 n0),(dz (ol n12 n11) n6 n0),(dq (oq n13 (.call (.c (.fn n198 [] [])) [t10,t12] .borrow)) n7 n0 [] [n4,n6,n3,n5] false false),(dq (oq n14 (.call (.c (.fn n179 [] [])) [t6,t7,t8,t13] .borrow)) n8 n0 [] [n0,n1,n2,n7,n4,n6,n3,n5] true false),(dz (om n5 n14) n9 n0)])
 .ret))
def x197:XFn:=⟨a197,n15,[(.t n5)],c197⟩
def a198:Ann:=⟨[(n1,n3,n0)],[]⟩
def c198:ICode:=
 (.seq (.ops [(oq n2 (.box t0)),(oq n4 (.mv k0))])
 (.seq (.ops [(of n5 n1 n2),(ol n6 n5),(om n7 n1),(oq n8 (.call (.c (.fn n96 [] [])) [t6,t7] .borrow)),(om n4 n8)])
 .ret))
def x198:XFn:=⟨a198,n9,[(.t n4)],c198⟩
def a199:Ann:=⟨[(n3,n18,n0),(n5,n12,n0)],[]⟩
def c199:ICode:=
 (.seq (.ops [(om n10 n1),(om n8 n10)])
 (.block n0 (.loop (.block n1 (.seq (.ops [(om n11 n8),(oq n12 (.bin .mul k2 t11)),(oq n13 (.bin .add t12 k1)),(om n9 n13)])
 (.seq (.seq (.ops [(om n14 n9),(om n15 n2),(oq n16 (.bin .geq t14 t15))])
 (.cond t16 (.exit n0)
 .skip))
 (.seq (.seq (.draw n0 [(dz (om n17 n9) n0 n0),(dz (oq n18 (.bin .add t17 k1)) n1 n0),(dz (om n19 n2) n2 n0),(dz (oq n20 (.bin .lss t18 t19)) n3 n0),(dz (om n21 n20) n4 n0),(dz (og n22 n21 true (.mv t0)) n5 n0),(dz (og n23 n21 true (.mv t3)) n6 n0),(dz (og n24 n21 true (.mv t9)) n7 n0),(dz (og n25 n21 true (.bin .add t23 t24)) n8 n0),(dz (og n26 n21 true (.iaddr n1 t22 t25)) n9 n0),(dz (og n28 n21 true (.mv t0)) n11 n0),(dz (og n29 n21 true (.mv t3)) n12 n0),(dz (og n30 n21 true (.mv t9)) n13 n0),(dz (og n31 n21 true (.bin .add t29 t30)) n14 n0),(dz (og n32 n21 true (.bin .add t31 k1)) n15 n0),(dz (og n33 n21 true (.iaddr n1 t28 t32)) n16 n0),(dz (og n27 n21 true (.load none t26)) n10 n0),(dz (og n34 n21 true (.load none t33)) n17 n0),(dq (og n35 n21 true (.call (.c (.fn n194 [] [])) [t27,t34] .borrow)) n18 n0 [] [n10,n17,n4,n9,n5,n8,n3,n1,n2,n0,n6,n7,n16,n11,n15,n14,n12,n13] true false),(dz (oq n36 (.pick t21 t35 (.c (.d (.bool false))))) n19 n0)])
 (.cond t36 (.ops [(om n37 n9),(oq n38 (.bin .add t37 k1)),(om n9 n38)])
 .skip))
 (.seq (.seq (.draw n0 [(dz (om n39 n0) n0 n0),(dz (om n40 n3) n1 n0),(dz (om n41 n8) n2 n0),(dz (oq n42 (.bin .add t40 t41)) n3 n0),(dz (oq n43 (.iaddr n1 t39 t42)) n4 n0),(dz (om n45 n0) n6 n0),(dz (om n46 n3) n7 n0),(dz (om n47 n9) n8 n0),(dz (oq n48 (.bin .add t46 t47)) n9 n0),(dz (oq n49 (.iaddr n1 t45 t48)) n10 n0),(dz (ol n44 n43) n5 n0),(dz (ol n50 n49) n11 n0),(dq (oq n51 (.call (.c (.fn n194 [] [])) [t44,t50] .borrow)) n12 n0 [] [n5,n11,n4,n0,n3,n1,n2,n10,n6,n9,n7,n8] true false),(dz (oq n52 (.un .not t51)) n13 n0)])
 (.cond t52 .ret
 .skip))
 (.seq (.draw n0 [(dz (om n53 n0) n0 n0),(dz (om n54 n3) n1 n0),(dz (om n55 n8) n2 n0),(dz (oq n56 (.bin .add t54 t55)) n3 n0),(dq (om n57 n0) n4 n0 [] [] false true),(dq (om n58 n3) n5 n0 [] [] false true),(dq (om n59 n9) n6 n0 [] [] false true),(dq (oq n60 (.bin .add t58 t59)) n7 n0 [] [] false true),(dz (om n61 n0) n8 n0),(dz (om n62 n3) n9 n0),(dz (om n63 n9) n10 n0),(dz (oq n64 (.bin .add t62 t63)) n11 n0),(dz (oq n65 (.iaddr n1 t61 t64)) n12 n0),(dz (om n67 n0) n14 n0),(dz (om n68 n3) n15 n0),(dz (om n69 n8) n16 n0),(dz (oq n70 (.bin .add t68 t69)) n17 n0),(dz (oq n71 (.iaddr n1 t67 t70)) n18 n0),(dz (ol n66 n65) n13 n0),(dz (ol n72 n71) n19 n0),(dz (oq n73 (.iaddr n1 t53 t56)) n20 n0),⟨⟨none,none,.store n1 t73 t66⟩,n21,n0,[],[n20,n13,n0,n1,n2,n3,n8,n9,n10,n11,n12,n19,n18,n14,n17,n15,n16],false,false⟩,(dz (oq n74 (.iaddr n1 t57 t60)) n22 n0),⟨⟨none,none,.store n1 t74 t72⟩,n23,n0,[],[n22,n19,n21,n0,n1,n2,n3,n4,n5,n6,n7,n8,n9,n10,n11,n12,n13,n14,n15,n16,n17,n18,n20],true,false⟩])
 (.ops [(om n75 n9),(om n8 n75)]))))))))))
def x199:XFn:=⟨a199,n76,[],c199⟩
def a200:Ann:=⟨[(n1,n7,n2)],[]⟩
def c200:ICode:=
 (.seq (.ops [(oq n6 (.mv k0))])
 (.seq (.ops [(om n7 n0),(om n8 n1),(oq n9 (.bin .sub t8 k1)),(om n10 n1),(om n11 n1),(oq n12 (.bin .add t11 k1)),(om n13 n2),(oq n14 (.call (.c (.fn n201 [] [])) [t7,t9,t10,t12,t13] .raw)),(om n6 n14)])
 .ret))
def x200:XFn:=⟨a200,n15,[(.t n6)],c200⟩
def a201:Ann:=⟨[(n1,n4,n2),(n2,n4,n2),(n3,n4,n2)],[]⟩
def c201:ICode:=
 (.seq (.ops [(oq n10 (.mv k0))])
 (.seq (.ops [(om n12 n0),(om n13 n1),(om n14 n2),(om n15 n4),(oq n16 (.call (.c (.fn n202 [] [])) [t12,t13,t14,t15] .raw)),(om n11 n16),(oq n17 (.extract t11 n0)),(oq n18 (.extract t11 n1)),(om n1 n17),(om n2 n18)])
 (.seq (.ops [(om n20 n0),(om n21 n2),(om n22 n3),(om n23 n4),(oq n24 (.call (.c (.fn n202 [] [])) [t20,t21,t22,t23] .raw)),(om n19 n24),(oq n25 (.extract t19 n0)),(oq n26 (.extract t19 n1)),(om n2 n25),(om n3 n26)])
 (.seq (.ops [(om n28 n0),(om n29 n1),(om n30 n2),(om n31 n4),(oq n32 (.call (.c (.fn n202 [] [])) [t28,t29,t30,t31] .raw)),(om n27 n32),(oq n33 (.extract t27 n0)),(oq n34 (.extract t27 n1)),(om n1 n33),(om n2 n34)])
 (.seq (.ops [(om n35 n2),(om n10 n35)])
 .ret)))))
def x201:XFn:=⟨a201,n36,[(.t n10)],c201⟩
def a202:Ann:=⟨[(n1,n8,n0)],[]⟩
def c202:ICode:=
 (.seq (.ops [(oq n8 (.mv k0)),(oq n9 (.mv k0))])
 (.seq (.seq (.draw n0 [(dz (om n10 n0) n0 n0),(dz (om n11 n2) n1 n0),(dz (oq n12 (.iaddr n1 t10 t11)) n2 n0),(dz (om n14 n0) n4 n0),(dz (om n15 n1) n5 n0),(dz (oq n16 (.iaddr n1 t14 t15)) n6 n0),(dz (ol n13 n12) n3 n0),(dz (ol n17 n16) n7 n0),(dq (oq n18 (.call (.c (.fn n194 [] [])) [t13,t17] .borrow)) n8 n0 [] [n3,n7,n2,n0,n1,n6,n4,n5] true false)])
 (.cond t18 (.seq (.ops [(om n19 n3),(oq n20 (.nilchk t19)),(ol n21 n20),(oq n22 (.bin .add t21 k1)),(oq n23 (.nilchk t19)),⟨none,none,.store n1 t23 t22⟩])
 (.seq (.ops [(om n24 n2),(om n25 n1),(om n8 n24),(om n9 n25)])
 .ret))
 .skip))
 (.seq (.ops [(om n26 n1),(om n27 n2),(om n8 n26),(om n9 n27)])
 .ret)))
def x202:XFn:=⟨a202,n28,[(.t n8),(.t n9)],c202⟩
def tab:XT:=(.node n130 x130 (.node n87 x87 (.node n55 x55 (.node n30 x30 (.node n23 x23 (.node n18 x18 (.node n17 x17 (.node n13 x13 .leaf .leaf) .leaf) (.node n20 x20 .leaf .leaf)) (.node n27 x27 (.node n25 x25 .leaf .leaf) (.node n28 x28 .leaf .leaf))) (.node n46 x46 (.node n40 x40 (.node n37 x37 (.node n36 x36 .leaf .leaf) .leaf) (.node n45 x45 .leaf .leaf)) (.node n53 x53 (.node n47 x47 .leaf .leaf) (.node n54 x54 .leaf .leaf)))) (.node n67 x67 (.node n62 x62 (.node n60 x60 (.node n57 x57 (.node n56 x56 .leaf .leaf) .leaf) (.node n61 x61 .leaf .leaf)) (.node n64 x64 (.node n63 x63 .leaf .leaf) (.node n65 x65 .leaf .leaf))) (.node n78 x78 (.node n70 x70 (.node n69 x69 .leaf .leaf) (.node n71 x71 .leaf .leaf)) (.node n81 x81 (.node n79 x79 .leaf .leaf) (.node n82 x82 .leaf .leaf))))) (.node n107 x107 (.node n98 x98 (.node n94 x94 (.node n92 x92 (.node n89 x89 (.node n88 x88 .leaf .leaf) .leaf) (.node n93 x93 .leaf .leaf)) (.node n96 x96 (.node n95 x95 .leaf .leaf) (.node n97 x97 .leaf .leaf))) (.node n102 x102 (.node n100 x100 (.node n99 x99 .leaf .leaf) (.node n101 x101 .leaf .leaf)) (.node n104 x104 (.node n103 x103 .leaf .leaf) (.node n105 x105 .leaf .leaf)))) (.node n122 x122 (.node n118 x118 (.node n112 x112 (.node n109 x109 (.node n108 x108 .leaf .leaf) .leaf) (.node n113 x113 .leaf .leaf)) (.node n120 x120 (.node n119 x119 .leaf .leaf) (.node n121 x121 .leaf .leaf))) (.node n126 x126 (.node n124 x124 (.node n123 x123 .leaf .leaf) (.node n125 x125 .leaf .leaf)) (.node n128 x128 (.node n127 x127 .leaf .leaf) (.node n129 x129 .leaf .leaf)))))) (.node n169 x169 (.node n148 x148 (.node n139 x139 (.node n135 x135 (.node n133 x133 (.node n132 x132 (.node n131 x131 .leaf .leaf) .leaf) (.node n134 x134 .leaf .leaf)) (.node n137 x137 (.node n136 x136 .leaf .leaf) (.node n138 x138 .leaf .leaf))) (.node n144 x144 (.node n142 x142 (.node n141 x141 .leaf .leaf) (.node n143 x143 .leaf .leaf)) (.node n146 x146 (.node n145 x145 .leaf .leaf) (.node n147 x147 .leaf .leaf)))) (.node n161 x161 (.node n157 x157 (.node n151 x151 (.node n150 x150 (.node n149 x149 .leaf .leaf) .leaf) (.node n156 x156 .leaf .leaf)) (.node n159 x159 (.node n158 x158 .leaf .leaf) (.node n160 x160 .leaf .leaf))) (.node n165 x165 (.node n163 x163 (.node n162 x162 .leaf .leaf) (.node n164 x164 .leaf .leaf)) (.node n167 x167 (.node n166 x166 .leaf .leaf) (.node n168 x168 .leaf .leaf))))) (.node n186 x186 (.node n178 x178 (.node n174 x174 (.node n172 x172 (.node n171 x171 (.node n170 x170 .leaf .leaf) .leaf) (.node n173 x173 .leaf .leaf)) (.node n176 x176 (.node n175 x175 .leaf .leaf) (.node n177 x177 .leaf .leaf))) (.node n182 x182 (.node n180 x180 (.node n179 x179 .leaf .leaf) (.node n181 x181 .leaf .leaf)) (.node n184 x184 (.node n183 x183 .leaf .leaf) (.node n185 x185 .leaf .leaf)))) (.node n195 x195 (.node n191 x191 (.node n189 x189 (.node n188 x188 (.node n187 x187 .leaf .leaf) .leaf) (.node n190 x190 .leaf .leaf)) (.node n193 x193 (.node n192 x192 .leaf .leaf) (.node n194 x194 .leaf .leaf))) (.node n199 x199 (.node n197 x197 (.node n196 x196 .leaf .leaf) (.node n198 x198 .leaf .leaf)) (.node n201 x201 (.node n200 x200 .leaf .leaf) (.node n202 x202 .leaf .leaf)))))))
end
end Go.Proofs.Tryz.Run
