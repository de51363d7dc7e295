/- Further functions, and that they are what the program has. Conditions: none. -/
import Derived.Test.YtpcokdalcafgdaaGreatNb
namespace Go.Proofs.Tryz.Run
open Go Go.Vf Go.Proofs
noncomputable section
def n400 : Nat := nat_lit 400
def a6 : Ann := ⟨[(n2,n0,n0),(n3,n1,n1),(n3,n2,n1),(n4,n1,n0),(n6,n9,n0),(n7,n5,n1),(n7,n6,n0),(n7,n9,n0)],[]⟩
def c6 : ICode :=
 (.seq (.ops [(oq n1 (.box (.t n0))),(oq n2 (.mv (.c (.d (.bool false)))))])
 (.seq (.seq (.ops [(of n6 n1 n1),(ol n7 n6),(oq n8 (.len (.t n7))),(oq n9 (.bin .gtr (.t n8) (k n400))),(om n10 n9),(og n11 n10 false (.faddr n0 (.t n1))),(og n12 n10 false (.load none (.t n11))),(og n13 n10 false (.len (.t n12))),(og n14 n10 false (.bin .gtr (.t n13) (k n8))),(oq n15 (.pick (.t n10) (.c (.d (.bool true))) (.t n14))),(om n16 n15),(og n17 n16 false (.faddr n2 (.t n1))),(og n18 n16 false (.load none (.t n17))),(og n19 n16 false (.len (.t n18))),(og n20 n16 false (.bin .gtr (.t n19) (k n400))),(oq n21 (.pick (.t n16) (.c (.d (.bool true))) (.t n20)))])
 (.cond (.t n21) (.seq (.ops [(oq n22 (.call (.c (.fn n17 [] [])) [] .borrow)),(om n2 n22)])
 .ret)
 .skip))
 (.seq (.ops [(oq n24 (.load (some n3) (.t n1))),(oq n25 (.call (.c (.fn n31 [] [])) [(.t n24)] .share)),(oq n26 (.call (.c (.fn n30 [] [])) [(.t n25)] .share)),(om n23 n26),(oq n27 (.extract (.t n23) n0)),(oq n28 (.extract (.t n23) n1)),(om n3 n27),(om n4 n28)])
 (.seq (.seq (.ops [(oq n29 (.load (some n3) (.t n1))),(oq n30 (.call (.c (.fn n32 [] [])) [(.t n29)] .borrow)),(om n5 n30)])
 (.seq (.ops [(om n31 n5),(oq n32 (.bin .neq (.t n31) (k n0)))])
 (.cond (.t n32) (.seq (.ops [(om n33 n4),(om n34 n5),(oq n35 (.bin .eql (.t n33) (.t n34))),(om n36 n35),(og n37 n36 true (.mv (.t n3))),(og n38 n36 true (.len (.t n37))),(og n39 n36 true (.bin .eql (.t n38) (k n0))),(oq n40 (.pick (.t n36) (.t n39) (.c (.d (.bool false))))),(om n41 n40),(og n42 n41 true (.call (.c (.fn n17 [] [])) [] .borrow)),(oq n43 (.pick (.t n41) (.t n42) (.c (.d (.bool false))))),(om n2 n43)])
 .ret)
 .skip)))
 (.seq (.ops [(om n44 n4),(oq n45 (.bin .eql (.t n44) (k n0))),(om n46 n45),(og n47 n46 true (.mv (.t n3))),(og n48 n46 true (.load (some n3) (.t n1))),(og n49 n46 true (.call (.c (.fn n33 [] [])) [(.t n48)] .share)),(og n50 n46 true (.call (.c (.fn n23 [] [])) [(.t n47),(.t n49)] .borrow)),(oq n51 (.pick (.t n46) (.t n50) (.c (.d (.bool false))))),(om n52 n51),(og n53 n52 true (.call (.c (.fn n17 [] [])) [] .borrow)),(oq n54 (.pick (.t n52) (.t n53) (.c (.d (.bool false))))),(om n2 n54)])
 .ret)))))
def x6 : XFn := ⟨a6,n55,[(.t n2)],c6⟩
def a11 : Ann := ⟨[(n1,n18,n0),(n2,n0,n0),(n3,n1,n1),(n3,n2,n1),(n5,n5,n0),(n7,n1,n1),(n8,n4,n3),(n9,n1,n0),(n10,n0,n0),(n11,n1,n1),(n11,n2,n1),(n12,n5,n0),(n19,n7,n2),(n20,n7,n2),(n21,n7,n2),(n27,n0,n0)],[]⟩
def c11 : ICode :=
 (.seq (.ops [(oq n2 (.box (.t n0))),(oq n3 (.box (.t n1))),(oq n4 (.mv (.c (.d (.bool false)))))])
 (.seq (.seq (.ops [(of n15 n1 n2),(ol n16 n15),(oq n17 (.len (.t n16))),(oq n18 (.bin .gtr (.t n17) (k n400))),(om n19 n18),(og n20 n19 false (.faddr n0 (.t n2))),(og n21 n19 false (.load none (.t n20))),(og n22 n19 false (.len (.t n21))),(og n23 n19 false (.bin .gtr (.t n22) (k n8))),(oq n24 (.pick (.t n19) (.c (.d (.bool true))) (.t n23))),(om n25 n24),(og n26 n25 false (.faddr n2 (.t n2))),(og n27 n25 false (.load none (.t n26))),(og n28 n25 false (.len (.t n27))),(og n29 n25 false (.bin .gtr (.t n28) (k n400))),(oq n30 (.pick (.t n25) (.c (.d (.bool true))) (.t n29))),(om n31 n30),(og n32 n31 false (.load (some n3) (.t n2))),(og n33 n31 false (.call (.c (.fn n32 [] [])) [(.t n32)] .borrow)),(og n34 n31 false (.bin .neq (.t n33) (k n0))),(oq n35 (.pick (.t n31) (.c (.d (.bool true))) (.t n34)))])
 (.cond (.t n35) (.seq (.ops [(oq n36 (.call (.c (.fn n17 [] [])) [] .borrow)),(om n4 n36)])
 .ret)
 .skip))
 (.seq (.ops [(oq n38 (.load (some n3) (.t n2))),(oq n39 (.call (.c (.fn n31 [] [])) [(.t n38)] .share)),(oq n40 (.call (.c (.fn n30 [] [])) [(.t n39)] .share)),(om n37 n40),(oq n41 (.extract (.t n37) n0)),(oq n42 (.extract (.t n37) n1)),(om n5 n41),(om n6 n42)])
 (.seq (.ops [(of n43 n0 n2),(ol n44 n43),(oq n45 (.len (.t n44))),(oq n46 (.mkslice n1 [(.int .i64 (.l (i n0)))] n8 (.t n45))),(om n7 n46)])
 (.seq (.seq (.ops [(om n47 n6),(oq n48 (.bin .neq (.t n47) (k n0))),(om n49 n48),(og n50 n49 false (.mv (.t n7))),(og n51 n49 false (.mv (.t n5))),(og n52 n49 false (.call (.c (.fn n38 [] [])) [(.t n50),(.t n51)] .borrow)),(og n53 n49 false (.un .not (.t n52))),(oq n54 (.pick (.t n49) (.c (.d (.bool true))) (.t n53)))])
 (.cond (.t n54) (.seq (.ops [(oq n4 (.mv (.c (.d (.bool false)))))])
 .ret)
 .skip))
 (.seq (.ops [(oq n55 (.load (some n3) (.t n2))),(oq n56 (.call (.c (.fn n31 [] [])) [(.t n55)] .share)),(oq n8 (.alloc [.nil,.nil,.nil])),⟨none,none,.store n3 (.t n8) (.t n56)⟩])
 (.seq (.ops [(of n57 n1 n8),(ol n58 n57),(oq n59 (.load (some n5) (.t n3))),(oq n60 (.bslice n5 n1 [(.int .u8 (.l (i n0))),(.int .i64 (.l (i n0))),(.int .i64 (.l (i n0))),(.int .i64 (.l (i n0))),(.int .i64 (.l (i n0)))] [(n0,(.t n59))] false)),(oq n61 (.appendN n5 n40 (.t n58) (.t n60) true)),(of n62 n1 n8),⟨none,none,.store n1 (.t n62) (.t n61)⟩])
 (.seq (.seq (.ops [(oq n63 (.load (some n3) (.t n8))),(oq n64 (.call (.c (.fn n32 [] [])) [(.t n63)] .borrow)),(oq n65 (.bin .neq (.t n64) (k n0)))])
 (.cond (.t n65) (.seq (.ops [(oq n66 (.call (.c (.fn n17 [] [])) [] .borrow)),(om n4 n66)])
 .ret)
 .skip))
 (.seq (.ops [(oq n68 (.load (some n3) (.t n8))),(oq n69 (.call (.c (.fn n31 [] [])) [(.t n68)] .share)),(oq n70 (.call (.c (.fn n30 [] [])) [(.t n69)] .share)),(om n67 n70),(oq n71 (.extract (.t n67) n0)),(oq n72 (.extract (.t n67) n1)),(om n9 n71),(om n10 n72)])
 (.seq (.seq (.ops [(om n73 n10),(oq n74 (.bin .neq (.t n73) (k n0))),(om n75 n74),(og n76 n75 false (.mv (.t n7))),(og n77 n75 false (.mv (.t n9))),(og n78 n75 false (.call (.c (.fn n38 [] [])) [(.t n76),(.t n77)] .borrow)),(og n79 n75 false (.un .not (.t n78))),(oq n80 (.pick (.t n75) (.c (.d (.bool true))) (.t n79)))])
 (.cond (.t n80) (.seq (.ops [(oq n4 (.mv (.c (.d (.bool false)))))])
 .ret)
 .skip))
 (.seq (.ops [(of n81 n0 n2),(ol n82 n81),(oq n83 (.len (.t n82))),(oq n84 (.mkslice n1 [(.bool false)] n1 (.t n83))),(om n11 n84)])
 (.seq (.seq (.ops [(oq n12 (.mv (k n0)))])
 (.block n0 (.loop (.seq (.seq (.ops [(om n85 n12),(of n86 n1 n2),(ol n87 n86),(oq n88 (.len (.t n87))),(oq n89 (.bin .lss (.t n85) (.t n88)))])
 (.cond (.t n89) .skip
 (.exit n0)))
 (.seq (.block n1 (.seq (.ops [(of n92 n1 n2),(ol n93 n92),(om n94 n12),(oq n95 (.iaddr n5 (.t n93) (.t n94))),(oq n96 (.load (some n5) (.t n95))),(oq n13 (.alloc [(.int .u8 (.l (i n0))),(.int .i64 (.l (i n0))),(.int .i64 (.l (i n0))),(.int .i64 (.l (i n0))),(.int .i64 (.l (i n0)))])),⟨none,none,.store n5 (.t n13) (.t n96)⟩])
 (.seq (.ops [(oq n97 (.load (some n3) (.t n2))),(om n98 n11),(of n99 n0 n13),(ol n100 n99),(oq n101 (.bin .gtr (.t n100) (.c (.d (.int .u8 (.l (i n4))))))),(of n102 n1 n13),(ol n103 n102),(oq n104 (.call (.c (.fn n39 [] [])) [(.t n97),(.t n98),(.t n101),(.t n103)] .raw))])
 (.seq (.ops [(oq n105 (.load (some n3) (.t n2))),(om n106 n11),(of n107 n0 n13),(ol n108 n107),(oq n109 (.bin .gtr (.t n108) (.c (.d (.int .u8 (.l (i n6))))))),(of n110 n2 n13),(ol n111 n110),(oq n112 (.call (.c (.fn n39 [] [])) [(.t n105),(.t n106),(.t n109),(.t n111)] .raw))])
 (.ops [(oq n113 (.load (some n3) (.t n2))),(om n114 n11),(of n115 n0 n13),(ol n116 n115),(oq n117 (.bin .eql (.t n116) (.c (.d (.int .u8 (.l (i n17))))))),(of n118 n3 n13),(ol n119 n118),(oq n120 (.call (.c (.fn n39 [] [])) [(.t n113),(.t n114),(.t n117),(.t n119)] .raw))])))))
 (.ops [(om n90 n12),(oq n91 (.bin .add (.t n90) (k n1))),(om n12 n91)]))))))
 (.seq (.seq (.ops [(oq n14 (.mv (k n0)))])
 (.block n2 (.loop (.seq (.seq (.ops [(om n121 n14),(om n122 n5),(oq n123 (.len (.t n122))),(oq n124 (.bin .lss (.t n121) (.t n123))),(om n125 n124),(og n126 n125 true (.mv (.t n11))),(og n127 n125 true (.mv (.t n5))),(og n128 n125 true (.mv (.t n14))),(og n129 n125 true (.iaddr n1 (.t n127) (.t n128))),(og n130 n125 true (.load none (.t n129))),(og n131 n125 true (.iaddr n1 (.t n126) (.t n130))),(og n132 n125 true (.load none (.t n131))),(oq n133 (.pick (.t n125) (.t n132) (.c (.d (.bool false)))))])
 (.cond (.t n133) .skip
 (.exit n2)))
 (.seq (.block n3 (.seq (.draw n0 [(dz (om n136 n9) n0 n0),(dz (om n137 n14) n1 n0),(dz (oq n138 (.iaddr n1 (.t n136) (.t n137))) n2 n0),(dz (om n140 n5) n4 n0),(dz (om n141 n14) n5 n0),(dz (oq n142 (.iaddr n1 (.t n140) (.t n141))) n6 n0),(dz (ol n139 n138) n3 n0),(dz (ol n143 n142) n7 n0),(dz (oq n144 (.bin .neq (.t n139) (.t n143))) n8 n0)])
 (.cond (.t n144) (.seq (.ops [(oq n4 (.mv (.c (.d (.bool false)))))])
 .ret)
 .skip)))
 (.ops [(om n134 n14),(oq n135 (.bin .add (.t n134) (k n1))),(om n14 n135)]))))))
 (.seq (.ops [(oq n145 (.call (.c (.fn n17 [] [])) [] .borrow)),(om n4 n145)])
 .ret))))))))))))))
def x11 : XFn := ⟨a11,n146,[(.t n4)],c11⟩
def a31 : Ann := ⟨[(n1,n2,n3),(n1,n5,n3),(n1,n8,n1)],[]⟩
def c31 : ICode :=
 (.seq (.ops [(oq n1 (.box (.t n0))),(oq n2 (.alloc [.nil,.nil,.nil]))])
 (.seq (.draw n0 [(dz (of n3 n0 n1) n0 n0),(dq (of n6 n1 n1) n3 n0 [] [] false true),(dq (of n9 n2 n1) n6 n0 [] [] false true),(dz (ol n4 n3) n1 n0),(dq (ol n7 n6) n4 n0 [] [] false true),(dq (ol n10 n9) n7 n0 [] [] false true),(dq (oq n5 (.appendN n3 n32 (.c (.d .nil)) (.t n4) true)) n2 n0 [] [n1,n0] false false),(dq (oq n8 (.appendN n5 n40 (.c (.d .nil)) (.t n7) true)) n5 n0 [] [n4,n2,n3,n1,n0] false false),(dq (oq n11 (.call (.c (.fn n41 [] [])) [(.t n10)] .share)) n8 n0 [] [n7,n5,n6,n4,n2,n3,n1,n0] true false),(dz (oq n12 (.build [.nil,.nil,.nil] [(n0,n1,(.t n5)),(n1,n1,(.t n8)),(n2,n1,(.t n11))])) n9 n0),⟨⟨none,none,.store n3 (.t n2) (.t n12)⟩,n10,n0,[],[n9,n8,n0,n1,n2,n3,n4,n5,n6,n7],true,false⟩])
 .ret))
def x31 : XFn := ⟨a31,n13,[(.c n2 (some n3))],c31⟩
def a32 : Ann := ⟨[(n7,n4,n0),(n12,n9,n0),(n17,n9,n0)],[]⟩
def c32 : ICode :=
 (.seq (.ops [(oq n1 (.box (.t n0))),(oq n2 (.mv (k n0)))])
 (.seq (.seq (.ops [(of n7 n0 n1),(ol n8 n7),(oq n9 (.len (.t n8))),(oq n10 (.bin .gtr (.t n9) (k n6))),(om n11 n10),(og n12 n11 false (.faddr n1 (.t n1))),(og n13 n11 false (.load none (.t n12))),(og n14 n11 false (.len (.t n13))),(og n15 n11 false (.bin .gtr (.t n14) (k n3000))),(oq n16 (.pick (.t n11) (.c (.d (.bool true))) (.t n15))),(om n17 n16),(og n18 n17 false (.faddr n2 (.t n1))),(og n19 n17 false (.load none (.t n18))),(og n20 n17 false (.len (.t n19))),(og n21 n17 false (.bin .gtr (.t n20) (k n3000))),(oq n22 (.pick (.t n17) (.c (.d (.bool true))) (.t n21)))])
 (.cond (.t n22) (.seq (.ops [(oq n2 (.mv (k n5)))])
 .ret)
 .skip))
 (.seq (.seq (.ops [(oq n3 (.mv (k n0)))])
 (.block n0 (.loop (.seq (.seq (.ops [(om n23 n3),(of n24 n0 n1),(ol n25 n24),(oq n26 (.len (.t n25))),(oq n27 (.bin .lss (.t n23) (.t n26)))])
 (.cond (.t n27) .skip
 (.exit n0)))
 (.seq (.block n1 (.seq (.ops [(of n30 n0 n1),(ol n31 n30),(om n32 n3),(oq n33 (.iaddr n3 (.t n31) (.t n32))),(oq n34 (.load (some n3) (.t n33))),(oq n4 (.alloc [(.str []),(.int .i64 (.l (i n0))),(.int .i64 (.l (i n0)))])),⟨none,none,.store n3 (.t n4) (.t n34)⟩])
 (.seq (.ops [(of n35 n1 n4),(ol n36 n35),(of n37 n2 n4),(ol n38 n37),(oq n39 (.call (.c (.fn n72 [] [])) [(.t n36),(.c (.d (.int .i64 (.l (.negSucc n9998))))),(.t n38)] .borrow)),(oq n40 (.un .not (.t n39))),(om n41 n40),(og n42 n41 false (.faddr n2 (.t n4))),(og n43 n41 false (.load none (.t n42))),(og n44 n41 false (.bin .gtr (.t n43) (k n9999))),(oq n45 (.pick (.t n41) (.c (.d (.bool true))) (.t n44))),(om n46 n45),(og n47 n46 false (.faddr n2 (.t n4))),(og n48 n46 false (.load none (.t n47))),(og n49 n46 false (.faddr n1 (.t n4))),(og n50 n46 false (.load none (.t n49))),(og n51 n46 false (.bin .sub (.t n48) (.t n50))),(og n52 n46 false (.bin .geq (.t n51) (k n12))),(oq n53 (.pick (.t n46) (.c (.d (.bool true))) (.t n52)))])
 (.cond (.t n53) (.seq (.ops [(oq n2 (.mv (k n3)))])
 .ret)
 .skip))))
 (.ops [(om n28 n3),(oq n29 (.bin .add (.t n28) (k n1))),(om n3 n29)]))))))
 (.seq (.seq (.ops [(oq n5 (.mv (k n0)))])
 (.block n2 (.loop (.seq (.seq (.ops [(om n54 n5),(of n55 n1 n1),(ol n56 n55),(oq n57 (.len (.t n56))),(oq n58 (.bin .lss (.t n54) (.t n57)))])
 (.cond (.t n58) .skip
 (.exit n2)))
 (.seq (.block n3 (.seq (.draw n0 [(dz (of n61 n1 n1) n0 n0),(dz (om n63 n5) n2 n0),(dz (om n66 n5) n5 n0),(dz (of n67 n0 n1) n6 n0),(dz (ol n62 n61) n1 n0),(dz (oq n64 (.iaddr n5 (.t n62) (.t n63))) n3 n0),(dz (oq n65 (.load (some n5) (.t n64))) n4 n0),(dz (ol n68 n67) n7 n0),(dz (oq n69 (.len (.t n68))) n8 n0),(dq (oq n70 (.call (.c (.fn n73 [] [])) [(.t n65),(.t n66),(.t n69)] .borrow)) n9 n0 [] [n4,n5,n8,n3,n1,n2,n0,n7,n6] true false),(dz (oq n71 (.un .not (.t n70))) n10 n0)])
 (.cond (.t n71) (.seq (.ops [(oq n2 (.mv (k n4)))])
 .ret)
 .skip)))
 (.ops [(om n59 n5),(oq n60 (.bin .add (.t n59) (k n1))),(om n5 n60)]))))))
 (.seq (.seq (.ops [(oq n6 (.mv (k n0)))])
 (.block n4 (.loop (.seq (.seq (.ops [(om n72 n6),(of n73 n2 n1),(ol n74 n73),(oq n75 (.len (.t n74))),(oq n76 (.bin .lss (.t n72) (.t n75)))])
 (.cond (.t n76) .skip
 (.exit n4)))
 (.seq (.block n5 (.seq (.draw n0 [(dz (of n79 n2 n1) n0 n0),(dz (om n81 n6) n2 n0),(dz (of n84 n1 n1) n5 n0),(dz (ol n80 n79) n1 n0),(dz (oq n82 (.iaddr n1 (.t n80) (.t n81))) n3 n0),(dz (ol n83 n82) n4 n0),(dz (ol n85 n84) n6 n0),(dz (oq n86 (.len (.t n85))) n7 n0),(dz (oq n87 (.bin .sub (.t n86) (k n1))) n8 n0),(dq (oq n88 (.call (.c (.fn n72 [] [])) [(.t n83),(k n0),(.t n87)] .borrow)) n9 n0 [] [n4,n8,n3,n1,n2,n0,n7,n6,n5] true false),(dz (oq n89 (.un .not (.t n88))) n10 n0)])
 (.cond (.t n89) (.seq (.ops [(oq n2 (.mv (k n4)))])
 .ret)
 .skip)))
 (.ops [(om n77 n6),(oq n78 (.bin .add (.t n77) (k n1))),(om n6 n78)]))))))
 (.seq (.ops [(oq n2 (.mv (k n0)))])
 .ret))))))
def x32 : XFn := ⟨a32,n90,[(.t n2)],c32⟩
def a33 : Ann := ⟨[(n1,n0,n1),(n6,n1,n1),(n12,n3,n2),(n16,n2,n2)],[]⟩
def c33 : ICode :=
 (.seq (.ops [(oq n1 (.box (.t n0))),(oq n2 (.mv (.c (.d .nil))))])
 (.seq (.ops [(oq n3 (.newnil n1))])
 (.seq (.seq (.ops [(oq n4 (.mv (k n0)))])
 (.block n0 (.loop (.seq (.seq (.ops [(om n10 n4),(of n11 n1 n1),(ol n12 n11),(oq n13 (.len (.t n12))),(oq n14 (.bin .lss (.t n10) (.t n13)))])
 (.cond (.t n14) .skip
 (.exit n0)))
 (.seq (.block n1 (.seq (.ops [(of n17 n1 n1),(ol n18 n17),(om n19 n4),(oq n20 (.iaddr n5 (.t n18) (.t n19))),(oq n21 (.load (some n5) (.t n20))),(oq n5 (.alloc [(.int .u8 (.l (i n0))),(.int .i64 (.l (i n0))),(.int .i64 (.l (i n0))),(.int .i64 (.l (i n0))),(.int .i64 (.l (i n0)))])),⟨none,none,.store n5 (.t n5) (.t n21)⟩])
 (.seq (.ops [(oq n22 (.load (some n5) (.t n5))),(oq n23 (.call (.c (.fn n74 [] [])) [(.t n22)] .share)),(om n6 n23)])
 (.seq (.ops [(oq n7 (.mv (k n0)))])
 (.block n2 (.loop (.seq (.seq (.ops [(om n24 n7),(om n25 n6),(oq n26 (.len (.t n25))),(oq n27 (.bin .lss (.t n24) (.t n26)))])
 (.cond (.t n27) .skip
 (.exit n2)))
 (.seq (.block n3 (.seq (.draw n1 [(dz (of n30 n1 n1) n0 n0),(dz (om n32 n6) n2 n0),(dz (om n33 n7) n3 n0),(dz (oq n34 (.iaddr n1 (.t n32) (.t n33))) n4 n0),(dq (ol n31 n30) n1 n0 [n0] [] false false),(dq (ol n35 n34) n5 n0 [n0] [] false false),(dz (oq n36 (.iaddr n5 (.t n31) (.t n35))) n6 n0),(dq (oq n37 (.load (some n5) (.t n36))) n7 n0 [n0] [] false false),(dz (oq n8 (.alloc [(.int .u8 (.l (i n0))),(.int .i64 (.l (i n0))),(.int .i64 (.l (i n0))),(.int .i64 (.l (i n0))),(.int .i64 (.l (i n0)))])) n8 n0),⟨⟨none,none,.store n5 (.t n8) (.t n37)⟩,n9,n1,[],[n8,n7,n0,n1,n2,n3,n4,n5,n6],true,false⟩])
 (.seq (.ops [(of n38 n0 n8),(ol n39 n38),(oq n40 (.bin .eql (.t n39) (.c (.d (.int .u8 (.l (i n3)))))))])
 (.cond (.t n40) (.ops [(om n41 n3),(of n42 n4 n8),(ol n43 n42),(oq n44 (.call (.c (.fn n75 [] [])) [(.t n41),(.t n43)] .raw)),(om n3 n44)])
 .skip))))
 (.ops [(om n28 n7),(oq n29 (.bin .add (.t n28) (k n1))),(om n7 n29)])))))))))
 (.ops [(om n15 n4),(oq n16 (.bin .add (.t n15) (k n1))),(om n4 n16)]))))))
 (.seq (.seq (.ops [(oq n9 (.mv (k n0)))])
 (.block n4 (.loop (.seq (.seq (.ops [(om n45 n9),(of n46 n0 n1),(ol n47 n46),(oq n48 (.len (.t n47))),(oq n49 (.bin .lss (.t n45) (.t n48)))])
 (.cond (.t n49) .skip
 (.exit n4)))
 (.seq (.block n5 (.ops [(om n52 n3),(om n53 n9),(oq n54 (.call (.c (.fn n75 [] [])) [(.t n52),(.t n53)] .raw)),(om n3 n54)]))
 (.ops [(om n50 n9),(oq n51 (.bin .add (.t n50) (k n1))),(om n9 n51)]))))))
 (.seq (.ops [(om n55 n3),(om n2 n55)])
 .ret)))))
def x33 : XFn := ⟨a33,n56,[(.t n2)],c33⟩
def a38 : Ann := ⟨[(n6,n7,n0)],[]⟩
def c38 : ICode :=
 (.seq (.ops [(oq n4 (.mv (.c (.d (.bool false)))))])
 (.seq (.seq (.ops [(om n7 n1),(oq n8 (.len (.t n7))),(om n9 n0),(oq n10 (.len (.t n9))),(oq n11 (.bin .neq (.t n8) (.t n10)))])
 (.cond (.t n11) (.seq (.ops [(oq n4 (.mv (.c (.d (.bool false)))))])
 .ret)
 .skip))
 (.seq (.seq (.ops [(oq n5 (.mv (k n0)))])
 (.block n0 (.loop (.seq (.seq (.ops [(om n12 n5),(om n13 n1),(oq n14 (.len (.t n13))),(oq n15 (.bin .lss (.t n12) (.t n14)))])
 (.cond (.t n15) .skip
 (.exit n0)))
 (.seq (.block n1 (.seq (.seq (.ops [(om n18 n1),(om n19 n5),(oq n20 (.iaddr n1 (.t n18) (.t n19))),(ol n21 n20),(om n22 n0),(oq n23 (.len (.t n22))),(oq n24 (.bin .sub (.t n23) (k n1))),(oq n25 (.call (.c (.fn n43 [] [])) [(.t n21),(k n0),(.t n24)] .borrow)),(oq n26 (.un .not (.t n25)))])
 (.cond (.t n26) (.seq (.ops [(oq n4 (.mv (.c (.d (.bool false)))))])
 .ret)
 .skip))
 (.seq (.ops [(oq n6 (.mv (k n0)))])
 (.block n2 (.loop (.seq (.seq (.ops [(om n27 n6),(om n28 n5),(oq n29 (.bin .lss (.t n27) (.t n28)))])
 (.cond (.t n29) .skip
 (.exit n2)))
 (.seq (.block n3 (.seq (.draw n0 [(dz (om n32 n1) n0 n0),(dz (om n33 n6) n1 n0),(dz (oq n34 (.iaddr n1 (.t n32) (.t n33))) n2 n0),(dz (om n36 n1) n4 n0),(dz (om n37 n5) n5 n0),(dz (oq n38 (.iaddr n1 (.t n36) (.t n37))) n6 n0),(dz (ol n35 n34) n3 n0),(dz (ol n39 n38) n7 n0),(dz (oq n40 (.bin .eql (.t n35) (.t n39))) n8 n0)])
 (.cond (.t n40) (.seq (.ops [(oq n4 (.mv (.c (.d (.bool false)))))])
 .ret)
 .skip)))
 (.ops [(om n30 n6),(oq n31 (.bin .add (.t n30) (k n1))),(om n6 n31)]))))))))
 (.ops [(om n16 n5),(oq n17 (.bin .add (.t n16) (k n1))),(om n5 n17)]))))))
 (.seq (.ops [(oq n4 (.mv (.c (.d (.bool true)))))])
 .ret))))
def x38 : XFn := ⟨a38,n41,[(.t n4)],c38⟩
def a39 : Ann := ⟨[],[]⟩
def c39 : ICode :=
 (.seq (.ops [(oq n4 (.box (.t n0)))])
 (.seq (.ops [(om n8 n2),(om n9 n8),(og n10 n9 true (.faddr n1 (.t n4))),(og n11 n9 true (.load none (.t n10))),(og n12 n9 true (.mv (.t n3))),(og n13 n9 true (.iaddr n5 (.t n11) (.t n12))),(og n14 n9 true (.faddr n0 (.t n13))),(og n15 n9 true (.load none (.t n14))),(og n16 n9 true (.bin .eql (.t n15) (.c (.d (.int .u8 (.l (i n3))))))),(oq n17 (.pick (.t n9) (.t n16) (.c (.d (.bool false)))))])
 (.cond (.t n17) (.ops [(om n18 n1),(of n19 n1 n4),(ol n20 n19),(om n21 n3),(oq n22 (.iaddr n5 (.t n20) (.t n21))),(of n23 n4 n22),(ol n24 n23),(oq n25 (.iaddr n1 (.t n18) (.t n24))),⟨none,none,.store n1 (.t n25) (.c (.d (.bool true)))⟩])
 .skip)))
def x39 : XFn := ⟨a39,n26,[],c39⟩
def a41 : Ann := ⟨[(n1,n1,n3)],[]⟩
def c41 : ICode :=
 (.seq (.ops [(oq n2 (.mv (.c (.d .nil))))])
 (.seq (.ops [(om n3 n0),(oq n4 (.appendN n1 n8 (.c (.d .nil)) (.t n3) true)),(om n2 n4)])
 .ret))
def x41 : XFn := ⟨a41,n5,[(.t n2)],c41⟩
def a43 : Ann := ⟨[],[]⟩
def c43 : ICode :=
 (.seq (.ops [(oq n6 (.mv (.c (.d (.bool false)))))])
 (.seq (.ops [(om n7 n0),(om n8 n1),(oq n9 (.bin .geq (.t n7) (.t n8))),(om n10 n9),(og n11 n10 true (.mv (.t n0))),(og n12 n10 true (.mv (.t n2))),(og n13 n10 true (.bin .leq (.t n11) (.t n12))),(oq n14 (.pick (.t n10) (.t n13) (.c (.d (.bool false))))),(om n6 n14)])
 .ret))
def x43 : XFn := ⟨a43,n15,[(.t n6)],c43⟩
def a72 : Ann := ⟨[],[]⟩
def c72 : ICode :=
 (.seq (.ops [(oq n6 (.mv (.c (.d (.bool false)))))])
 (.seq (.ops [(om n7 n0),(om n8 n1),(oq n9 (.bin .geq (.t n7) (.t n8))),(om n10 n9),(og n11 n10 true (.mv (.t n0))),(og n12 n10 true (.mv (.t n2))),(og n13 n10 true (.bin .leq (.t n11) (.t n12))),(oq n14 (.pick (.t n10) (.t n13) (.c (.d (.bool false))))),(om n6 n14)])
 .ret))
def x72 : XFn := ⟨a72,n15,[(.t n6)],c72⟩
def a73 : Ann := ⟨[(n1,n3,n0),(n2,n4,n0),(n8,n10,n0)],[]⟩
def c73 : ICode :=
 (.seq (.ops [(oq n3 (.box (.t n0))),(oq n6 (.mv (.c (.d (.bool false)))))])
 (.seq (.ops [(of n13 n0 n3),(ol n14 n13),(om n15 n2),(oq n16 (.call (.c (.fn n106 [] [])) [(.t n14),(.t n15)] .borrow)),(om n12 n16),(oq n17 (.extract (.t n12) n0)),(oq n18 (.extract (.t n12) n1)),(oq n19 (.extract (.t n12) n2)),(om n7 n17),(om n8 n18),(om n9 n19)])
 (.seq (.seq (.ops [(of n20 n4 n3),(ol n21 n20),(om n22 n8),(om n23 n9),(oq n24 (.call (.c (.fn n72 [] [])) [(.t n21),(.t n22),(.t n23)] .borrow)),(oq n25 (.un .not (.t n24)))])
 (.cond (.t n25) (.seq (.ops [(oq n6 (.mv (.c (.d (.bool false)))))])
 .ret)
 .skip))
 (.seq (.ops [(of n26 n1 n3),(ol n27 n26),(of n28 n2 n3),(ol n29 n28),(of n30 n3 n3),(ol n31 n30),(oq n32 (.bslice n1 n3 [(.int .i64 (.l (i n0)))] [(n0,(.t n27)),(n1,(.t n29)),(n2,(.t n31))] false)),(om n10 n32)])
 (.seq (.seq (.ops [(oq n11 (.mv (k n0)))])
 (.block n0 (.loop (.seq (.seq (.ops [(om n33 n11),(oq n34 (.bin .lss (.t n33) (k n3)))])
 (.cond (.t n34) .skip
 (.exit n0)))
 (.seq (.block n1 (.seq (.ops [(om n37 n11),(om n38 n7),(oq n39 (.bin .lss (.t n37) (.t n38))),(om n40 n39),(og n41 n40 true (.mv (.t n10))),(og n42 n40 true (.mv (.t n11))),(og n43 n40 true (.iaddr n1 (.t n41) (.t n42))),(og n44 n40 true (.load none (.t n43))),(og n45 n40 true (.mv (.t n1))),(og n46 n40 true (.bin .sub (.t n45) (k n1))),(og n47 n40 true (.call (.c (.fn n72 [] [])) [(.t n44),(k n0),(.t n46)] .borrow)),(og n48 n40 true (.un .not (.t n47))),(oq n49 (.pick (.t n40) (.t n48) (.c (.d (.bool false))))),(om n50 n49),(og n51 n50 false (.mv (.t n11))),(og n52 n50 false (.mv (.t n7))),(og n53 n50 false (.bin .geq (.t n51) (.t n52))),(og n54 n50 false (.mv (.t n53))),(og n55 n54 true (.mv (.t n10))),(og n56 n54 true (.mv (.t n11))),(og n57 n54 true (.iaddr n1 (.t n55) (.t n56))),(og n58 n54 true (.load none (.t n57))),(og n59 n54 true (.bin .neq (.t n58) (k n0))),(og n60 n50 false (.pick (.t n54) (.t n59) (.c (.d (.bool false))))),(oq n61 (.pick (.t n50) (.c (.d (.bool true))) (.t n60)))])
 (.cond (.t n61) (.seq (.ops [(oq n6 (.mv (.c (.d (.bool false)))))])
 .ret)
 .skip)))
 (.ops [(om n35 n11),(oq n36 (.bin .add (.t n35) (k n1))),(om n11 n36)]))))))
 (.seq (.ops [(oq n6 (.mv (.c (.d (.bool true)))))])
 .ret))))))
def x73 : XFn := ⟨a73,n62,[(.t n6)],c73⟩
def a74 : Ann := ⟨[],[]⟩
def c74 : ICode :=
 (.seq (.ops [(oq n1 (.box (.t n0))),(oq n2 (.mv (.c (.d .nil))))])
 (.seq (.block n0 (.seq (.ops [(of n4 n0 n1),(ol n5 n4),(oq n6 (.bin .leq (.t n5) (.c (.d (.int .u8 (.l (i n4))))))),(om n3 n6)])
 (.cond (.t n3) (.seq (.ops [(oq n2 (.mv (.c (.d .nil))))])
 .ret)
 (.seq (.ops [(of n8 n0 n1),(ol n9 n8),(oq n10 (.bin .leq (.t n9) (.c (.d (.int .u8 (.l (i n6))))))),(om n7 n10)])
 (.cond (.t n7) (.seq (.ops [(of n11 n1 n1),(ol n12 n11),(oq n13 (.bslice n1 n1 [(.int .i64 (.l (i n0)))] [(n0,(.t n12))] false)),(om n2 n13)])
 .ret)
 (.seq (.ops [(of n15 n0 n1),(ol n16 n15),(oq n17 (.bin .eql (.t n16) (.c (.d (.int .u8 (.l (i n17))))))),(om n14 n17)])
 (.cond (.t n14) (.seq (.ops [(of n18 n1 n1),(ol n19 n18),(of n20 n2 n1),(ol n21 n20),(of n22 n3 n1),(ol n23 n22),(oq n24 (.bslice n1 n3 [(.int .i64 (.l (i n0)))] [(n0,(.t n19)),(n1,(.t n21)),(n2,(.t n23))] false)),(om n2 n24)])
 .ret)
 .skip)))))))
 (.seq (.ops [(of n25 n1 n1),(ol n26 n25),(of n27 n2 n1),(ol n28 n27),(oq n29 (.bslice n1 n2 [(.int .i64 (.l (i n0)))] [(n0,(.t n26)),(n1,(.t n28))] false)),(om n2 n29)])
 .ret)))
def x74 : XFn := ⟨a74,n30,[(.t n2)],c74⟩
def a75 : Ann := ⟨[(n6,n3,n3)],[]⟩
def c75 : ICode :=
 (.seq (.ops [(oq n4 (.mv (.c (.d .nil))))])
 (.seq (.seq (.ops [(oq n5 (.mv (k n0)))])
 (.block n0 (.loop (.seq (.seq (.ops [(om n6 n5),(om n7 n0),(oq n8 (.len (.t n7))),(oq n9 (.bin .lss (.t n6) (.t n8)))])
 (.cond (.t n9) .skip
 (.exit n0)))
 (.seq (.block n1 (.seq (.ops [(om n12 n0),(om n13 n5),(oq n14 (.iaddr n1 (.t n12) (.t n13))),(ol n15 n14),(om n16 n1),(oq n17 (.bin .eql (.t n15) (.t n16)))])
 (.cond (.t n17) (.seq (.ops [(om n18 n0),(om n4 n18)])
 .ret)
 .skip)))
 (.ops [(om n10 n5),(oq n11 (.bin .add (.t n10) (k n1))),(om n5 n11)]))))))
 (.seq (.ops [(om n19 n0),(om n20 n1),(oq n21 (.bslice n1 n1 [(.int .i64 (.l (i n0)))] [(n0,(.t n20))] false)),(oq n22 (.appendN n1 n8 (.t n19) (.t n21) true)),(om n4 n22)])
 .ret)))
def x75 : XFn := ⟨a75,n23,[(.t n4)],c75⟩
def a106 : Ann := ⟨[],[]⟩
def c106 : ICode :=
 (.seq (.ops [(oq n4 (.mv (k n0))),(oq n5 (.mv (k n0))),(oq n6 (.mv (k n0)))])
 (.seq (.block n0 (.seq (.ops [(om n8 n0),(oq n9 (.bin .eql (.t n8) (.c (.d (.int .u8 (.l (i n1))))))),(om n7 n9)])
 (.cond (.t n7) (.seq (.ops [(oq n4 (.mv (k n0))),(oq n5 (.mv (.c (.d (.int .i64 (.l (.negSucc n9998))))))),(oq n6 (.mv (k n9999)))])
 .ret)
 (.seq (.ops [(om n11 n0),(oq n12 (.bin .eql (.t n11) (.c (.d (.int .u8 (.l (i n2))))))),(om n10 n12)])
 (.cond (.t n10) (.seq (.ops [(oq n4 (.mv (k n0))),(oq n5 (.mv (k n1))),(oq n6 (.mv (k n4)))])
 .ret)
 (.seq (.ops [(om n14 n0),(oq n15 (.bin .eql (.t n14) (.c (.d (.int .u8 (.l (i n3))))))),(om n13 n15)])
 (.cond (.t n13) (.seq (.ops [(om n16 n1),(oq n17 (.bin .sub (.t n16) (k n1))),(oq n4 (.mv (k n0))),(oq n5 (.mv (k n0))),(om n6 n17)])
 .ret)
 (.seq (.ops [(om n19 n0),(oq n20 (.bin .eql (.t n19) (.c (.d (.int .u8 (.l (i n4))))))),(om n18 n20)])
 (.cond (.t n18) (.seq (.ops [(oq n4 (.mv (k n0))),(oq n5 (.mv (k n0))),(oq n6 (.mv (k n31)))])
 .ret)
 (.seq (.ops [(om n22 n0),(oq n23 (.bin .eql (.t n22) (.c (.d (.int .u8 (.l (i n5))))))),(om n24 n23),(og n25 n24 false (.mv (.t n0))),(og n26 n24 false (.bin .eql (.t n25) (.c (.d (.int .u8 (.l (i n6))))))),(oq n27 (.pick (.t n24) (.c (.d (.bool true))) (.t n26))),(om n21 n27)])
 (.cond (.t n21) (.seq (.ops [(oq n4 (.mv (k n1))),(oq n5 (.mv (k n0))),(oq n6 (.mv (k n0)))])
 .ret)
 (.seq (.ops [(om n29 n0),(oq n30 (.bin .geq (.t n29) (.c (.d (.int .u8 (.l (i n7))))))),(om n31 n30),(og n32 n31 true (.mv (.t n0))),(og n33 n31 true (.bin .leq (.t n32) (.c (.d (.int .u8 (.l (i n16))))))),(oq n34 (.pick (.t n31) (.t n33) (.c (.d (.bool false))))),(om n28 n34)])
 (.cond (.t n28) (.seq (.ops [(oq n4 (.mv (k n2))),(oq n5 (.mv (k n0))),(oq n6 (.mv (k n0)))])
 .ret)
 (.seq (.ops [(om n36 n0),(oq n37 (.bin .eql (.t n36) (.c (.d (.int .u8 (.l (i n17))))))),(om n35 n37)])
 (.cond (.t n35) (.seq (.ops [(oq n4 (.mv (k n3))),(oq n5 (.mv (k n0))),(oq n6 (.mv (k n0)))])
 .ret)
 .skip)))))))))))))))
 (.seq (.ops [(oq n4 (.mv (.c (.d (.int .i64 (.l (.negSucc n0))))))),(oq n5 (.mv (k n0))),(oq n6 (.mv (.c (.d (.int .i64 (.l (.negSucc n0)))))))])
 .ret)))
def x106 : XFn := ⟨a106,n38,[(.t n4),(.t n5),(.t n6)],c106⟩

end
theorem ok6 : FnOk Tryz.prog 6 x6 := fnOk_of Tryz.func6 (by kernel_rfl) (by kernel_rfl) (by kernel_rfl) (by kernel_rfl)
theorem ok11 : FnOk Tryz.prog 11 x11 := fnOk_of Tryz.func11 (by kernel_rfl) (by kernel_rfl) (by kernel_rfl) (by kernel_rfl)
theorem ok31 : FnOk Tryz.prog 31 x31 := fnOk_of Tryz.func31 (by kernel_rfl) (by kernel_rfl) (by kernel_rfl) (by kernel_rfl)
theorem ok32 : FnOk Tryz.prog 32 x32 := fnOk_of Tryz.func32 (by kernel_rfl) (by kernel_rfl) (by kernel_rfl) (by kernel_rfl)
theorem ok33 : FnOk Tryz.prog 33 x33 := fnOk_of Tryz.func33 (by kernel_rfl) (by kernel_rfl) (by kernel_rfl) (by kernel_rfl)
theorem ok38 : FnOk Tryz.prog 38 x38 := fnOk_of Tryz.func38 (by kernel_rfl) (by kernel_rfl) (by kernel_rfl) (by kernel_rfl)
theorem ok39 : FnOk Tryz.prog 39 x39 := fnOk_of Tryz.func39 (by kernel_rfl) (by kernel_rfl) (by kernel_rfl) (by kernel_rfl)
theorem ok41 : FnOk Tryz.prog 41 x41 := fnOk_of Tryz.func41 (by kernel_rfl) (by kernel_rfl) (by kernel_rfl) (by kernel_rfl)
theorem ok43 : FnOk Tryz.prog 43 x43 := fnOk_of Tryz.func43 (by kernel_rfl) (by kernel_rfl) (by kernel_rfl) (by kernel_rfl)
theorem ok72 : FnOk Tryz.prog 72 x72 := fnOk_of Tryz.func72 (by kernel_rfl) (by kernel_rfl) (by kernel_rfl) (by kernel_rfl)
theorem ok73 : FnOk Tryz.prog 73 x73 := fnOk_of Tryz.func73 (by kernel_rfl) (by kernel_rfl) (by kernel_rfl) (by kernel_rfl)
theorem ok74 : FnOk Tryz.prog 74 x74 := fnOk_of Tryz.func74 (by kernel_rfl) (by kernel_rfl) (by kernel_rfl) (by kernel_rfl)
theorem ok75 : FnOk Tryz.prog 75 x75 := fnOk_of Tryz.func75 (by kernel_rfl) (by kernel_rfl) (by kernel_rfl) (by kernel_rfl)
theorem ok106 : FnOk Tryz.prog 106 x106 := fnOk_of Tryz.func106 (by kernel_rfl) (by kernel_rfl) (by kernel_rfl) (by kernel_rfl)
end Go.Proofs.Tryz.Run
