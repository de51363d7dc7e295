/- Further functions, and that they are what the program has. Conditions: none. -/
import Derived.Test.YtbglklaocjifhaaGreatFLr
import Derived.Test.YtbglklaocjifhaaGreatFNa
import Derived.Test.YtbglklaocjifhaaGreatFNb
import Derived.Test.YtbglklaocjifhaaGreatFNc
set_option linter.unusedSimpArgs false
set_option linter.unusedVariables false
namespace Go.Proofs.Tryz.Run
open Go Go.Vf Go.Proofs
noncomputable section
def a3:Ann:=⟨[(n1,n1,n0),(n2,n0,n0),(n3,n1,n1),(n4,n1,n1),(n6,n2,n1),(n8,n4,n0),(n8,n8,n0),(n8,n13,n0),(n8,n18,n0),(n8,n22,n0),(n10,n5,n0),(n10,n12,n0)],[]⟩
def c3:a0c:=
 (.seq (.ops [(oq n1 (.box (.t n0))),(oq n2 (.mv (.c (.d (.bool false)))))])
 (.seq (.seq (.ops [(oq n11 (.load (some n13) (.t n1))),(oq n12 (.call (.c (.fn n18 [] [])) [(.t n11)] .borrow)),(oq n13 (.un .not (.t n12)))])
 (.cond (.t n13) (.seq (.ops [(oq n14 (.call (.c (.fn n19 [] [])) [] .borrow)),(om n2 n14)])
 .ret)
 .skip))
 (.seq (.ops [(oq n16 (.load (some n13) (.t n1))),(oq n17 (.call (.c (.fn n20 [] [])) [(.t n16)] .share)),(om n15 n17),(oq n18 (.extract (.t n15) n0)),(oq n19 (.extract (.t n15) n1)),(oq n20 (.extract (.t n15) n2)),(oq n3 (.alloc [(.int .i64 (.l (i n0))),.nil,.nil])),⟨none,none,.store n3 (.t n3) (.t n18)⟩,(om n4 n19),(om n5 n20)])
 (.seq (.ops [(oq n22 (.load (some n13) (.t n1))),(oq n23 (.call (.c (.fn n21 [] [])) [(.t n22)] .share)),(om n21 n23),(oq n24 (.extract (.t n21) n0)),(oq n25 (.extract (.t n21) n1)),(oq n26 (.extract (.t n21) n2)),(oq n7 (.alloc [.nil,.nil])),(om n6 n24),⟨none,none,.store n2 (.t n7) (.t n25)⟩,(om n8 n26)])
 (.seq (.seq (.ops [(om n27 n8),(oq n28 (.bin .eql (.t n27) (k n0)))])
 (.cond (.t n28) (.seq (.seq (.ops [(oq n30 (.load (some n2) (.t n7))),(om n31 n6),(oq n32 (.call (.c (.fn n22 [] [])) [(.t n30),(.t n31),(k n4)] .share)),(om n29 n32),(oq n33 (.extract (.t n29) n0)),(oq n34 (.extract (.t n29) n1)),(oq n9 (.alloc [(.int .i64 (.l (i n0))),.nil,.nil])),⟨none,none,.store n3 (.t n9) (.t n33)⟩,(om n10 n34)])
 (.seq (.ops [(om n35 n10)])
 (.cond (.t n35) (.seq (.ops [(om n36 n5),(oq n37 (.bin .eql (.t n36) (k n0))),(om n38 n37),(og n39 n38 true (.load (some n3) (.t n3))),(og n40 n38 true (.call (.c (.fn n23 [] [])) [(.t n39)] .borrow)),(oq n41 (.pick (.t n38) (.t n40) (.c (.d (.bool false))))),(om n42 n41),(og n43 n42 true (.load (some n3) (.t n3))),(og n44 n42 true (.call (.c (.fn n24 [] [])) [(.t n43),(k n4)] .borrow)),(oq n45 (.pick (.t n42) (.t n44) (.c (.d (.bool false))))),(om n46 n45),(og n47 n46 true (.load (some n3) (.t n3))),(og n48 n46 true (.load (some n3) (.t n9))),(og n49 n46 true (.call (.c (.fn n25 [] [])) [(.t n47),(.t n48)] .borrow)),(oq n50 (.pick (.t n46) (.t n49) (.c (.d (.bool false))))),(om n51 n50),(og n52 n51 true (.mv (.t n4))),(og n53 n51 true (.load (some n3) (.t n9))),(og n54 n51 true (.call (.c (.fn n26 [] [])) [(.t n53),(k n5)] .borrow)),(og n55 n51 true (.bin .eql (.t n52) (.t n54))),(oq n56 (.pick (.t n51) (.t n55) (.c (.d (.bool false))))),(om n57 n56),(og n58 n57 true (.call (.c (.fn n19 [] [])) [] .borrow)),(oq n59 (.pick (.t n57) (.t n58) (.c (.d (.bool false))))),(om n2 n59)])
 .ret)
 .skip)))
 (.ops [(oq n8 (.mv (k n7)))]))
 .skip))
 (.seq (.ops [(om n60 n5),(om n61 n8),(oq n62 (.bin .eql (.t n60) (.t n61))),(om n63 n62),(og n64 n63 true (.load (some n3) (.t n3))),(og n65 n63 true (.call (.c (.fn n27 [] [])) [(.t n64)] .borrow)),(oq n66 (.pick (.t n63) (.t n65) (.c (.d (.bool false))))),(om n67 n66),(og n68 n67 true (.mv (.t n4))),(og n69 n67 true (.bin .eql (.t n68) (k n0))),(oq n70 (.pick (.t n67) (.t n69) (.c (.d (.bool false))))),(om n71 n70),(og n72 n71 true (.call (.c (.fn n19 [] [])) [] .borrow)),(oq n73 (.pick (.t n71) (.t n72) (.c (.d (.bool false))))),(om n2 n73)])
 .ret))))))
def a4:Ann:=⟨[(n1,n1,n0),(n2,n0,n0),(n3,n1,n1),(n4,n1,n1),(n7,n2,n1),(n11,n9,n0),(n17,n2,n1),(n17,n3,n1),(n19,n2,n1),(n21,n1,n0),(n21,n3,n0),(n24,n0,n0)],[]⟩
def a5:Ann:=⟨[(n1,n1,n0),(n2,n0,n0),(n3,n1,n1),(n4,n1,n1),(n6,n2,n0),(n8,n7,n1),(n8,n8,n0),(n8,n15,n1),(n8,n16,n0),(n8,n19,n0),(n10,n12,n0)],[]⟩
def a6:Ann:=⟨[(n1,n1,n0),(n2,n0,n0),(n3,n1,n1),(n3,n2,n0),(n4,n1,n1),(n4,n2,n0),(n5,n1,n0),(n6,n11,n0),(n7,n9,n0),(n7,n13,n0)],[]⟩
def c6:a0c:=
 (.seq (.ops [(oq n1 (.box (.t n0))),(oq n2 (.mv (.c (.d (.bool false)))))])
 (.seq (.seq (.ops [(oq n6 (.load (some n3) (.t n1))),(oq n7 (.call (.c (.fn n23 [] [])) [(.t n6)] .borrow)),(oq n8 (.un .not (.t n7)))])
 (.cond (.t n8) (.seq (.ops [(oq n9 (.call (.c (.fn n19 [] [])) [] .borrow)),(om n2 n9)])
 .ret)
 .skip))
 (.seq (.ops [(oq n10 (.load (some n3) (.t n1))),(oq n11 (.call (.c (.fn n36 [] [])) [(.t n10)] .share)),(oq n12 (.call (.c (.fn n35 [] [])) [(.t n11)] .borrow)),(om n3 n12)])
 (.seq (.ops [(oq n14 (.load (some n3) (.t n1))),(oq n15 (.call (.c (.fn n36 [] [])) [(.t n14)] .share)),(oq n16 (.call (.c (.fn n37 [] [])) [(.t n15)] .borrow)),(om n13 n16),(oq n17 (.extract (.t n13) n0)),(oq n18 (.extract (.t n13) n1)),(om n4 n17),(om n5 n18)])
 (.seq (.seq (.ops [(oq n19 (.load (some n3) (.t n1))),(oq n20 (.call (.c (.fn n24 [] [])) [(.t n19),(k n4)] .borrow)),(oq n21 (.un .not (.t n20)))])
 (.cond (.t n21) (.seq (.ops [(om n22 n3),(oq n23 (.bin .eql (.t n22) (k n4))),(om n24 n23),(og n25 n24 true (.mv (.t n5))),(og n26 n24 true (.bin .eql (.t n25) (k n4))),(oq n27 (.pick (.t n24) (.t n26) (.c (.d (.bool false))))),(om n28 n27),(og n29 n28 true (.mv (.t n4))),(og n30 n28 true (.bin .eql (.t n29) (k n0))),(oq n31 (.pick (.t n28) (.t n30) (.c (.d (.bool false))))),(om n32 n31),(og n33 n32 true (.call (.c (.fn n19 [] [])) [] .borrow)),(oq n34 (.pick (.t n32) (.t n33) (.c (.d (.bool false))))),(om n2 n34)])
 .ret)
 .skip))
 (.seq (.ops [(om n35 n3),(oq n36 (.bin .eql (.t n35) (k n0))),(om n37 n36),(og n38 n37 true (.mv (.t n5))),(og n39 n37 true (.bin .eql (.t n38) (k n0))),(oq n40 (.pick (.t n37) (.t n39) (.c (.d (.bool false))))),(om n41 n40),(og n42 n41 true (.mv (.t n4))),(og n43 n41 true (.load (some n3) (.t n1))),(og n44 n41 true (.call (.c (.fn n26 [] [])) [(.t n43),(k n5)] .borrow)),(og n45 n41 true (.bin .eql (.t n42) (.t n44))),(oq n46 (.pick (.t n41) (.t n45) (.c (.d (.bool false))))),(om n47 n46),(og n48 n47 true (.call (.c (.fn n19 [] [])) [] .borrow)),(oq n49 (.pick (.t n47) (.t n48) (.c (.d (.bool false))))),(om n2 n49)])
 .ret))))))
def x6:XFn:=⟨a6,n50,[(.t n2)],c6⟩
end
theorem ok6:a0q Tryz.prog 6 x6:=a0b Tryz.func6 (by kernel_rfl) (by kernel_rfl) (by kernel_rfl) (by kernel_rfl)
end Go.Proofs.Tryz.Run
