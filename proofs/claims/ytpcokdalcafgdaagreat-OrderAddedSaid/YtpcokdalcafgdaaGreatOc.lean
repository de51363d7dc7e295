/- Further functions, and that they are what the program has. Conditions: none. -/
import Derived.Test.YtpcokdalcafgdaaGreatOb
namespace Go.Proofs.Tryz.Run
open Go Go.Vf Go.Proofs
noncomputable section
def a11r : Ann := ⟨[(n1,n18,n0),(n2,n0,n0),(n3,n1,n1),(n3,n2,n1),(n5,n5,n0),(n7,n1,n2),(n8,n4,n3),(n9,n1,n0),(n10,n0,n0),(n11,n1,n1),(n11,n2,n1),(n12,n5,n0),(n19,n7,n2),(n20,n7,n2),(n21,n7,n2),(n27,n0,n0)],[]⟩
def c11r : ICode :=
 (.seq (.ops [(oq n2 (.box (.t n0))),(oq n3 (.box (.t n1))),(oq n4 (.mv (.c (.d (.bool false)))))])
 (.seq (.seq (.ops [(of n15 n1 n2),(ol n16 n15),(oq n17 (.len (.t n16))),(oq n18 (.bin .gtr (.t n17) (k n400))),(om n19 n18),(og n20 n19 false (.faddr n0 (.t n2))),(og n21 n19 false (.load none (.t n20))),(og n22 n19 false (.len (.t n21))),(og n23 n19 false (.bin .gtr (.t n22) (k n8))),(oq n24 (.pick (.t n19) (.c (.d (.bool true))) (.t n23))),(om n25 n24),(og n26 n25 false (.faddr n2 (.t n2))),(og n27 n25 false (.load none (.t n26))),(og n28 n25 false (.len (.t n27))),(og n29 n25 false (.bin .gtr (.t n28) (k n400))),(oq n30 (.pick (.t n25) (.c (.d (.bool true))) (.t n29))),(om n31 n30),(og n32 n31 false (.load (some n3) (.t n2))),(og n33 n31 false (.call (.c (.fn n32 [] [])) [(.t n32)] .borrow)),(og n34 n31 false (.bin .neq (.t n33) (k n0))),(oq n35 (.pick (.t n31) (.c (.d (.bool true))) (.t n34)))])
 (.cond (.t n35) (.seq (.ops [(oq n36 (.call (.c (.fn n17 [] [])) [] .borrow)),(om n4 n36)])
 .ret)
 .skip))
 (.seq (.ops [(oq n38 (.load (some n3) (.t n2))),(oq n39 (.call (.c (.fn n31 [] [])) [(.t n38)] .share)),(oq n40 (.call (.c (.fn n30 [] [])) [(.t n39)] .share)),(om n37 n40),(oq n41 (.extract (.t n37) n0)),(oq n42 (.extract (.t n37) n1)),(om n5 n41),(om n6 n42)])
 (.seq (.ops [(of n43 n0 n2),(ol n44 n43),(oq n45 (.len (.t n44))),(oq n46 (.mkslice n1 [(.int .i64 (.l (i n0)))] n8 (.t n45))),(om n7 n46)])
 (.seq (.seq (.ops [(om n47 n6),(oq n48 (.bin .neq (.t n47) (k n0))),(om n49 n48),(og n50 n49 false (.mv (.t n7))),(og n51 n49 false (.mv (.t n5))),(og n52 n49 false (.call (.c (.fn n38 [] [])) [(.t n50),(.t n51)] .borrow)),(og n53 n49 false (.un .not (.t n52))),(oq n54 (.pick (.t n49) (.c (.d (.bool true))) (.t n53)))])
 (.cond (.t n54) (.seq (.ops [(oq n4 (.mv (.c (.d (.bool false)))))])
 .ret)
 .skip))
 (.seq (.ops [(oq n55 (.load (some n3) (.t n2))),(oq n56 (.call (.c (.fn n31 [] [])) [(.t n55)] .raw)),(oq n8 (.alloc [.nil,.nil,.nil])),⟨none,none,.store n3 (.t n8) (.t n56)⟩])
 (.seq (.ops [(of n57 n1 n8),(ol n58 n57),(oq n59 (.load (some n5) (.t n3))),(oq n60 (.bslice n5 n1 [(.int .u8 (.l (i n0))),(.int .i64 (.l (i n0))),(.int .i64 (.l (i n0))),(.int .i64 (.l (i n0))),(.int .i64 (.l (i n0)))] [(n0,(.t n59))] false)),(oq n61 (.appendN n5 n40 (.t n58) (.t n60) true)),(of n62 n1 n8),⟨none,none,.store n1 (.t n62) (.t n61)⟩])
 (.seq (.seq (.ops [(oq n63 (.load (some n3) (.t n8))),(oq n64 (.call (.c (.fn n32 [] [])) [(.t n63)] .borrow)),(oq n65 (.bin .neq (.t n64) (k n0)))])
 (.cond (.t n65) (.seq (.ops [(oq n66 (.call (.c (.fn n17 [] [])) [] .borrow)),(om n4 n66)])
 .ret)
 .skip))
 (.seq (.ops [(oq n68 (.load (some n3) (.t n8))),(oq n69 (.call (.c (.fn n31 [] [])) [(.t n68)] .share)),(oq n70 (.call (.c (.fn n30 [] [])) [(.t n69)] .share)),(om n67 n70),(oq n71 (.extract (.t n67) n0)),(oq n72 (.extract (.t n67) n1)),(om n9 n71),(om n10 n72)])
 (.seq (.seq (.ops [(om n73 n10),(oq n74 (.bin .neq (.t n73) (k n0))),(om n75 n74),(og n76 n75 false (.mv (.t n7))),(og n77 n75 false (.mv (.t n9))),(og n78 n75 false (.call (.c (.fn n38 [] [])) [(.t n76),(.t n77)] .borrow)),(og n79 n75 false (.un .not (.t n78))),(oq n80 (.pick (.t n75) (.c (.d (.bool true))) (.t n79)))])
 (.cond (.t n80) (.seq (.ops [(oq n4 (.mv (.c (.d (.bool false)))))])
 .ret)
 .skip))
 (.seq (.ops [(of n81 n0 n2),(ol n82 n81),(oq n83 (.len (.t n82))),(oq n84 (.mkslice n1 [(.bool false)] n1 (.t n83))),(om n11 n84)])
 (.seq (.seq (.ops [(oq n12 (.mv (k n0)))])
 (.block n0 (.loop (.seq (.seq (.ops [(om n85 n12),(of n86 n1 n2),(ol n87 n86),(oq n88 (.len (.t n87))),(oq n89 (.bin .lss (.t n85) (.t n88)))])
 (.cond (.t n89) .skip
 (.exit n0)))
 (.seq (.block n1 (.seq (.ops [(of n92 n1 n2),(ol n93 n92),(om n94 n12),(oq n95 (.iaddr n5 (.t n93) (.t n94))),(oq n96 (.load (some n5) (.t n95))),(oq n13 (.alloc [(.int .u8 (.l (i n0))),(.int .i64 (.l (i n0))),(.int .i64 (.l (i n0))),(.int .i64 (.l (i n0))),(.int .i64 (.l (i n0)))])),⟨none,none,.store n5 (.t n13) (.t n96)⟩])
 (.seq (.ops [(oq n97 (.load (some n3) (.t n2))),(om n98 n11),(of n99 n0 n13),(ol n100 n99),(oq n101 (.bin .gtr (.t n100) (.c (.d (.int .u8 (.l (i n4))))))),(of n102 n1 n13),(ol n103 n102),(oq n104 (.call (.c (.fn n39 [] [])) [(.t n97),(.t n98),(.t n101),(.t n103)] .raw))])
 (.seq (.ops [(oq n105 (.load (some n3) (.t n2))),(om n106 n11),(of n107 n0 n13),(ol n108 n107),(oq n109 (.bin .gtr (.t n108) (.c (.d (.int .u8 (.l (i n6))))))),(of n110 n2 n13),(ol n111 n110),(oq n112 (.call (.c (.fn n39 [] [])) [(.t n105),(.t n106),(.t n109),(.t n111)] .raw))])
 (.ops [(oq n113 (.load (some n3) (.t n2))),(om n114 n11),(of n115 n0 n13),(ol n116 n115),(oq n117 (.bin .eql (.t n116) (.c (.d (.int .u8 (.l (i n17))))))),(of n118 n3 n13),(ol n119 n118),(oq n120 (.call (.c (.fn n39 [] [])) [(.t n113),(.t n114),(.t n117),(.t n119)] .raw))])))))
 (.ops [(om n90 n12),(oq n91 (.bin .add (.t n90) (k n1))),(om n12 n91)]))))))
 (.seq (.seq (.ops [(oq n14 (.mv (k n0)))])
 (.block n2 (.loop (.seq (.seq (.ops [(om n121 n14),(om n122 n5),(oq n123 (.len (.t n122))),(oq n124 (.bin .lss (.t n121) (.t n123))),(om n125 n124),(og n126 n125 true (.mv (.t n11))),(og n127 n125 true (.mv (.t n5))),(og n128 n125 true (.mv (.t n14))),(og n129 n125 true (.iaddr n1 (.t n127) (.t n128))),(og n130 n125 true (.load none (.t n129))),(og n131 n125 true (.iaddr n1 (.t n126) (.t n130))),(og n132 n125 true (.load none (.t n131))),(oq n133 (.pick (.t n125) (.t n132) (.c (.d (.bool false)))))])
 (.cond (.t n133) .skip
 (.exit n2)))
 (.seq (.block n3 (.seq (.draw n0 [(dz (om n136 n9) n0 n0),(dz (om n137 n14) n1 n0),(dz (oq n138 (.iaddr n1 (.t n136) (.t n137))) n2 n0),(dz (om n140 n5) n4 n0),(dz (om n141 n14) n5 n0),(dz (oq n142 (.iaddr n1 (.t n140) (.t n141))) n6 n0),(dz (ol n139 n138) n3 n0),(dz (ol n143 n142) n7 n0),(dz (oq n144 (.bin .neq (.t n139) (.t n143))) n8 n0)])
 (.cond (.t n144) (.seq (.ops [(oq n4 (.mv (.c (.d (.bool false)))))])
 .ret)
 .skip)))
 (.ops [(om n134 n14),(oq n135 (.bin .add (.t n134) (k n1))),(om n14 n135)]))))))
 (.seq (.ops [(oq n145 (.call (.c (.fn n17 [] [])) [] .borrow)),(om n4 n145)])
 .ret))))))))))))))
def x11r : XFn := ⟨a11r,n146,[(.t n4)],c11r⟩

end
theorem ok11r : FnOk Tryz.prog 11 x11r := fnOk_of Tryz.func11 (by kernel_rfl) (by kernel_rfl) (by kernel_rfl) (by kernel_rfl)
end Go.Proofs.Tryz.Run
