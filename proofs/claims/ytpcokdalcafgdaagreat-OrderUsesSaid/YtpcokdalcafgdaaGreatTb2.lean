/- The functions of the table, and the table. Conditions: none. -/
import Derived.Test.YtpcokdalcafgdaaGreatTb1
namespace Go.Proofs.Tryz.Run
open Go Go.Vf
noncomputable section
def a137 : Ann := ⟨[(n2, n5, n2), (n8, n13, n2), (n10, n3, n2)], []⟩
def c137 : ICode :=
 (.seq (.ops [⟨some n10, none, .mv (k n0)⟩])
 (.seq (.seq (.ops [⟨some n14, none, .mv (.t n0)⟩, ⟨some n15, none, .load none (.t n2)⟩, ⟨some n16, none, .len (.t n15)⟩, ⟨some n17, none, .bin .eql (.t n14) (.t n16)⟩])
 (.cond (.t n17) (.seq (.draw n0 [⟨⟨some n20, none, .mv (.t n1)⟩, n2, n0, [], [], false, false⟩, ⟨⟨some n18, none, .load none (.t n3)⟩, n0, n0, [], [], false, false⟩, ⟨⟨some n19, none, .load none (.t n4)⟩, n1, n0, [], [], false, false⟩, ⟨⟨some n21, none, .iaddr n2 (.t n19) (.t n20)⟩, n3, n0, [], [], false, false⟩, ⟨⟨some n22, none, .load (some n2) (.t n21)⟩, n4, n0, [], [], false, false⟩, ⟨⟨some n23, none, .call (.c (.fn n138 [] [])) [(.t n18), (.t n22)] .raw⟩, n5, n0, [], [n0, n4, n3, n1, n2], true, false⟩, ⟨⟨some n10, none, .mv (.t n23)⟩, n6, n0, [], [], false, false⟩])
 .ret)
 .skip))
 (.seq (.ops [⟨some n24, none, .load none (.t n2)⟩, ⟨some n25, none, .mv (.t n0)⟩, ⟨some n26, none, .iaddr n1 (.t n24) (.t n25)⟩, ⟨some n27, none, .load none (.t n26)⟩, ⟨some n11, none, .mv (.t n27)⟩])
 (.seq (.ops [⟨some n28, none, .load none (.t n5)⟩, ⟨some n29, none, .mv (.t n11)⟩, ⟨some n30, none, .iaddr n1 (.t n28) (.t n29)⟩, ⟨some n31, none, .load none (.t n30)⟩, ⟨some n32, none, .mkslice n1 [(.int .i64 (.l (i n0)))] n8 (.t n31)⟩, ⟨some n12, none, .mv (.t n32)⟩])
 (.seq (.seq (.ops [⟨some n33, none, .mv (.t n12)⟩, ⟨some n34, none, .len (.t n33)⟩, ⟨some n35, none, .mv (k n0)⟩])
 (.block n0 (.loop (.seq (.ops [⟨some n36, none, .bin .lss (.t n35) (.t n34)⟩])
 (.seq (.cond (.t n36) .skip
 (.exit n0))
 (.seq (.block n1 (.seq (.ops [⟨some n37, none, .mv (.t n35)⟩, ⟨some n13, none, .mv (.t n37)⟩])
 (.draw n0 [⟨⟨some n38, none, .mv (.t n12)⟩, n0, n0, [], [], false, true⟩, ⟨⟨some n39, none, .mv (.t n13)⟩, n1, n0, [], [], false, true⟩, ⟨⟨some n41, none, .mv (.t n0)⟩, n3, n0, [], [], false, false⟩, ⟨⟨some n42, none, .bin .add (.t n41) (k n1)⟩, n4, n0, [], [], false, false⟩, ⟨⟨some n43, none, .mv (.t n1)⟩, n5, n0, [], [], false, false⟩, ⟨⟨some n44, none, .mv (.t n13)⟩, n6, n0, [], [], false, false⟩, ⟨⟨some n46, none, .mv (.t n11)⟩, n8, n0, [], [], false, false⟩, ⟨⟨some n40, none, .load none (.t n6)⟩, n2, n0, [], [], false, false⟩, ⟨⟨some n45, none, .load none (.t n7)⟩, n7, n0, [], [], false, false⟩, ⟨⟨some n47, none, .iaddr n1 (.t n45) (.t n46)⟩, n9, n0, [], [], false, false⟩, ⟨⟨some n48, none, .load none (.t n47)⟩, n10, n0, [], [], false, false⟩, ⟨⟨some n49, none, .bin .mul (.t n44) (.t n48)⟩, n11, n0, [], [], false, false⟩, ⟨⟨some n50, none, .bin .add (.t n43) (.t n49)⟩, n12, n0, [], [], false, false⟩, ⟨⟨some n51, none, .call (.t n40) [(.t n42), (.t n50)] .raw⟩, n13, n0, [], [n2, n4, n12, n3, n5, n11, n6, n10, n9, n7, n8], false, false⟩, ⟨⟨some n52, none, .iaddr n1 (.t n38) (.t n39)⟩, n14, n0, [], [], false, false⟩, ⟨⟨none, none, .store n1 (.t n52) (.t n51)⟩, n15, n0, [], [n14, n13, n0, n1, n2, n3, n4, n5, n6, n7, n8, n9, n10, n11, n12], true, false⟩])))
 (.ops [⟨some n53, none, .bin .add (.t n35) (k n1)⟩, ⟨some n35, none, .mv (.t n53)⟩])))))))
 (.seq (.ops [⟨some n54, none, .load none (.t n3)⟩, ⟨some n55, none, .mv (.t n11)⟩, ⟨some n56, none, .mv (.t n12)⟩, ⟨some n57, none, .call (.c (.fn n139 [] [])) [(.t n54), (.t n55), (.t n56)] .raw⟩, ⟨some n10, none, .mv (.t n57)⟩])
 .ret))))))
def x137 : XFn := ⟨a137, n58, [(.t n10)], c137⟩
def a138 : Ann := ⟨[(n5, n8, n3), (n6, n1, n0)], []⟩
def c138 : ICode :=
 (.seq (.ops [⟨some n3, none, .box (.t n1)⟩, ⟨some n4, none, .mv (k n0)⟩])
 (.seq (.draw n0 [⟨⟨some n8, none, .mv (.t n0)⟩, n0, n0, [], [], false, false⟩, ⟨⟨some n9, none, .nilchk (.t n8)⟩, n1, n0, [], [], false, false⟩, ⟨⟨some n10, none, .faddr n7 (.t n9)⟩, n2, n0, [], [], false, false⟩, ⟨⟨some n11, none, .load none (.t n10)⟩, n3, n0, [], [], false, false⟩, ⟨⟨some n12, none, .load (some n2) (.t n3)⟩, n4, n0, [], [], false, false⟩, ⟨⟨some n13, none, .lookup true [.u8, .i64] true (.t n11) (.t n12)⟩, n5, n0, [], [], false, false⟩, ⟨⟨some n7, none, .mv (.t n13)⟩, n6, n0, [], [], false, false⟩, ⟨⟨some n14, none, .extract (.t n7) n0⟩, n7, n0, [], [], false, false⟩, ⟨⟨some n15, none, .extract (.t n7) n1⟩, n8, n0, [], [], false, false⟩, ⟨⟨some n5, none, .mv (.t n14)⟩, n9, n0, [], [], false, false⟩, ⟨⟨some n6, none, .mv (.t n15)⟩, n10, n0, [], [], false, false⟩])
 (.seq (.seq (.ops [⟨some n16, none, .mv (.t n6)⟩, ⟨some n17, none, .un .not (.t n16)⟩])
 (.cond (.t n17) (.seq (.ops [⟨some n18, none, .mv (.t n0)⟩, ⟨some n19, none, .nilchk (.t n18)⟩, ⟨some n20, none, .faddr n2 (.t n19)⟩, ⟨some n21, none, .faddr n2 (.t n20)⟩, ⟨some n22, none, .load none (.t n21)⟩, ⟨some n23, none, .len (.t n22)⟩, ⟨some n5, none, .mv (.t n23)⟩])
 (.seq (.draw n0 [⟨⟨some n24, none, .mv (.t n0)⟩, n0, n0, [], [], false, false⟩, ⟨⟨some n25, none, .nilchk (.t n24)⟩, n1, n0, [], [], false, false⟩, ⟨⟨some n26, none, .faddr n7 (.t n25)⟩, n2, n0, [], [], false, false⟩, ⟨⟨some n29, none, .mv (.t n5)⟩, n5, n0, [], [], false, false⟩, ⟨⟨some n27, none, .load none (.t n26)⟩, n3, n0, [], [], false, false⟩, ⟨⟨some n28, none, .load (some n2) (.t n3)⟩, n4, n0, [], [], false, false⟩, ⟨⟨none, none, .mapupd true [.u8, .i64] (.t n27) (.t n28) (.t n29)⟩, n6, n0, [], [n3, n4, n5, n0, n1, n2], true, false⟩])
 (.draw n0 [⟨⟨some n30, none, .mv (.t n0)⟩, n0, n0, [], [], false, true⟩, ⟨⟨some n31, none, .mv (.t n0)⟩, n1, n0, [], [], false, true⟩, ⟨⟨some n32, none, .nilchk (.t n31)⟩, n2, n0, [], [], false, true⟩, ⟨⟨some n33, none, .faddr n2 (.t n32)⟩, n3, n0, [], [], false, true⟩, ⟨⟨some n34, none, .faddr n2 (.t n33)⟩, n4, n0, [], [], false, true⟩, ⟨⟨some n35, none, .load none (.t n34)⟩, n5, n0, [], [], false, true⟩, ⟨⟨some n36, none, .load (some n2) (.t n3)⟩, n6, n0, [], [], false, false⟩, ⟨⟨some n37, none, .bslice n2 n1 [(.int .u8 (.l (i n0))), (.int .i64 (.l (i n0)))] [(n0, (.t n36))] false⟩, n7, n0, [], [n6], false, false⟩, ⟨⟨some n38, none, .appendN n2 n16 (.t n35) (.t n37) true⟩, n8, n0, [], [n5, n7, n4, n3, n2, n1, n6], false, false⟩, ⟨⟨some n39, none, .nilchk (.t n30)⟩, n9, n0, [], [], false, false⟩, ⟨⟨some n40, none, .faddr n2 (.t n39)⟩, n10, n0, [], [], false, false⟩, ⟨⟨some n41, none, .faddr n2 (.t n40)⟩, n11, n0, [], [], false, false⟩, ⟨⟨none, none, .store n1 (.t n41) (.t n38)⟩, n12, n0, [], [n11, n8, n0, n1, n2, n3, n4, n5, n6, n7, n10, n9], true, false⟩])))
 .skip))
 (.seq (.ops [⟨some n42, none, .mv (.t n5)⟩, ⟨some n43, none, .call (.c (.fn n171 [] [])) [(.t n42)] .borrow⟩, ⟨some n4, none, .mv (.t n43)⟩])
 .ret))))
def x138 : XFn := ⟨a138, n44, [(.t n4)], c138⟩
def a139 : Ann := ⟨[(n1, n2, n2), (n9, n10, n3)], []⟩
def c139 : ICode :=
 (.seq (.ops [⟨some n5, none, .box (.t n2)⟩, ⟨some n6, none, .mv (k n0)⟩])
 (.seq (.seq (.ops [⟨some n10, none, .load none (.t n5)⟩, ⟨some n11, none, .mkfn n173 [] [(.t n5)]⟩, ⟨some n12, none, .call (.c (.fn n172 [] [])) [(.t n10), (.t n11)] .raw⟩])
 (.cond (.t n12) (.seq (.ops [⟨some n13, none, .load none (.t n5)⟩, ⟨some n14, none, .iaddr n1 (.t n13) (k n0)⟩, ⟨some n15, none, .load none (.t n14)⟩, ⟨some n6, none, .mv (.t n15)⟩])
 .ret)
 .skip))
 (.seq (.ops [⟨some n16, none, .mv (.t n1)⟩, ⟨some n17, none, .build [(.int .i64 (.l (i n0))), (.int .i64 (.l (i n0))), (.int .i64 (.l (i n0))), (.int .i64 (.l (i n0))), (.int .i64 (.l (i n0))), (.int .i64 (.l (i n0))), (.int .i64 (.l (i n0))), (.int .i64 (.l (i n0))), (.int .i64 (.l (i n0))), (.int .i64 (.l (i n0))), (.int .i64 (.l (i n0))), (.int .i64 (.l (i n0))), (.int .i64 (.l (i n0)))] [(n0, n1, (.t n16))]⟩, ⟨some n7, none, .alloc [(.int .i64 (.l (i n0))), (.int .i64 (.l (i n0))), (.int .i64 (.l (i n0))), (.int .i64 (.l (i n0))), (.int .i64 (.l (i n0))), (.int .i64 (.l (i n0))), (.int .i64 (.l (i n0))), (.int .i64 (.l (i n0))), (.int .i64 (.l (i n0))), (.int .i64 (.l (i n0))), (.int .i64 (.l (i n0))), (.int .i64 (.l (i n0))), (.int .i64 (.l (i n0)))]⟩, ⟨none, none, .store n13 (.t n7) (.t n17)⟩])
 (.seq (.draw n0 [⟨⟨some n18, none, .faddr n1 (.t n7)⟩, n0, n0, [], [], false, false⟩, ⟨⟨some n19, none, .slarr n12 (.t n18) none none⟩, n1, n0, [], [], false, false⟩, ⟨⟨some n20, none, .load none (.t n5)⟩, n2, n0, [], [], false, false⟩, ⟨⟨some n21, none, .copy n1 (.t n19) (.t n20)⟩, n3, n0, [], [n1, n2, n0], true, false⟩])
 (.seq (.draw n0 [⟨⟨some n23, none, .mv (.t n0)⟩, n0, n0, [], [], false, false⟩, ⟨⟨some n24, none, .nilchk (.t n23)⟩, n1, n0, [], [], false, false⟩, ⟨⟨some n25, none, .faddr n8 (.t n24)⟩, n2, n0, [], [], false, false⟩, ⟨⟨some n26, none, .load none (.t n25)⟩, n3, n0, [], [], false, false⟩, ⟨⟨some n27, none, .load (some n13) (.t n7)⟩, n4, n0, [], [], false, false⟩, ⟨⟨some n28, none, .lookup true [.i64, .i64, .i64, .i64, .i64, .i64, .i64, .i64, .i64, .i64, .i64, .i64, .i64] true (.t n26) (.t n27)⟩, n5, n0, [], [], false, false⟩, ⟨⟨some n22, none, .mv (.t n28)⟩, n6, n0, [], [], false, false⟩, ⟨⟨some n29, none, .extract (.t n22) n0⟩, n7, n0, [], [], false, false⟩, ⟨⟨some n30, none, .extract (.t n22) n1⟩, n8, n0, [], [], false, false⟩, ⟨⟨some n8, none, .mv (.t n29)⟩, n9, n0, [], [], false, false⟩, ⟨⟨some n9, none, .mv (.t n30)⟩, n10, n0, [], [], false, false⟩])
 (.seq (.seq (.ops [⟨some n31, none, .mv (.t n9)⟩, ⟨some n32, none, .un .not (.t n31)⟩])
 (.cond (.t n32) (.seq (.ops [⟨some n33, none, .mv (.t n0)⟩, ⟨some n34, none, .nilchk (.t n33)⟩, ⟨some n35, none, .faddr n2 (.t n34)⟩, ⟨some n36, none, .faddr n3 (.t n35)⟩, ⟨some n37, none, .load none (.t n36)⟩, ⟨some n38, none, .len (.t n37)⟩, ⟨some n8, none, .mv (.t n38)⟩])
 (.seq (.draw n0 [⟨⟨some n39, none, .mv (.t n0)⟩, n0, n0, [], [], false, false⟩, ⟨⟨some n40, none, .nilchk (.t n39)⟩, n1, n0, [], [], false, false⟩, ⟨⟨some n41, none, .faddr n8 (.t n40)⟩, n2, n0, [], [], false, false⟩, ⟨⟨some n44, none, .mv (.t n8)⟩, n5, n0, [], [], false, false⟩, ⟨⟨some n42, none, .load none (.t n41)⟩, n3, n0, [], [], false, false⟩, ⟨⟨some n43, none, .load (some n13) (.t n7)⟩, n4, n0, [], [], false, false⟩, ⟨⟨none, none, .mapupd true [.i64, .i64, .i64, .i64, .i64, .i64, .i64, .i64, .i64, .i64, .i64, .i64, .i64] (.t n42) (.t n43) (.t n44)⟩, n6, n0, [], [n3, n4, n5, n0, n1, n2], true, false⟩])
 (.draw n0 [⟨⟨some n45, none, .mv (.t n0)⟩, n0, n0, [], [], false, true⟩, ⟨⟨some n46, none, .mv (.t n0)⟩, n1, n0, [], [], false, true⟩, ⟨⟨some n47, none, .nilchk (.t n46)⟩, n2, n0, [], [], false, true⟩, ⟨⟨some n48, none, .faddr n2 (.t n47)⟩, n3, n0, [], [], false, true⟩, ⟨⟨some n49, none, .faddr n3 (.t n48)⟩, n4, n0, [], [], false, true⟩, ⟨⟨some n51, none, .mv (.t n1)⟩, n6, n0, [], [], false, false⟩, ⟨⟨some n50, none, .load none (.t n49)⟩, n5, n0, [], [], false, true⟩, ⟨⟨some n52, none, .load none (.t n5)⟩, n7, n0, [], [], false, false⟩, ⟨⟨some n53, none, .build [(.int .i64 (.l (i n0))), .nil] [(n0, n1, (.t n51)), (n1, n1, (.t n52))]⟩, n8, n0, [], [], false, false⟩, ⟨⟨some n54, none, .bslice n2 n1 [(.int .i64 (.l (i n0))), .nil] [(n0, (.t n53))] false⟩, n9, n0, [], [n8, n6, n7], false, false⟩, ⟨⟨some n55, none, .appendN n2 n32 (.t n50) (.t n54) true⟩, n10, n0, [], [n5, n9, n4, n3, n2, n1, n8, n6, n7], false, false⟩, ⟨⟨some n56, none, .nilchk (.t n45)⟩, n11, n0, [], [], false, false⟩, ⟨⟨some n57, none, .faddr n2 (.t n56)⟩, n12, n0, [], [], false, false⟩, ⟨⟨some n58, none, .faddr n3 (.t n57)⟩, n13, n0, [], [], false, false⟩, ⟨⟨none, none, .store n1 (.t n58) (.t n55)⟩, n14, n0, [], [n13, n10, n0, n1, n2, n3, n4, n5, n6, n7, n8, n9, n12, n11], true, false⟩])))
 .skip))
 (.seq (.ops [⟨some n59, none, .mv (.t n8)⟩, ⟨some n6, none, .mv (.t n59)⟩])
 .ret)))))))
def x139 : XFn := ⟨a139, n60, [(.t n6)], c139⟩
def a141 : Ann := ⟨[(n0, n5, n2)], []⟩
def c141 : ICode :=
 (.ops [⟨some n4, none, .mv (.t n0)⟩, ⟨some n5, none, .mv (.t n0)⟩, ⟨some n6, none, .len (.t n5)⟩, ⟨some n7, none, .mv (.t n1)⟩, ⟨some n8, none, .bin .sub (.t n6) (.t n7)⟩, ⟨some n9, none, .call (.c (.fn n174 [] [])) [(.t n4), (.t n8)] .raw⟩])
def x141 : XFn := ⟨a141, n10, [], c141⟩
def a142 : Ann := ⟨[(n4, n5, n2)], []⟩
def c142 : ICode :=
 (.seq (.ops [⟨some n4, none, .mv (k n0)⟩])
 (.seq (.seq (.ops [⟨some n6, none, .mv (.t n0)⟩, ⟨some n7, none, .len (.t n6)⟩, ⟨some n8, none, .mv (k n0)⟩])
 (.block n0 (.loop (.seq (.ops [⟨some n9, none, .bin .lss (.t n8) (.t n7)⟩])
 (.seq (.cond (.t n9) .skip
 (.exit n0))
 (.seq (.block n1 (.seq (.ops [⟨some n10, none, .mv (.t n8)⟩, ⟨some n5, none, .mv (.t n10)⟩])
 (.seq (.ops [⟨some n11, none, .mv (.t n1)⟩, ⟨some n12, none, .mv (.t n0)⟩, ⟨some n13, none, .mv (.t n5)⟩, ⟨some n14, none, .iaddr n3 (.t n12) (.t n13)⟩, ⟨some n15, none, .load (some n3) (.t n14)⟩, ⟨some n16, none, .call (.t n11) [(.t n15)] .raw⟩])
 (.cond (.t n16) (.seq (.ops [⟨some n17, none, .mv (.t n5)⟩, ⟨some n4, none, .mv (.t n17)⟩])
 .ret)
 .skip))))
 (.ops [⟨some n18, none, .bin .add (.t n8) (k n1)⟩, ⟨some n8, none, .mv (.t n18)⟩])))))))
 (.seq (.ops [⟨some n4, none, .mv (.c (.d (.int .i64 (.l (.negSucc n0)))))⟩])
 .ret)))
def x142 : XFn := ⟨a142, n19, [(.t n4)], c142⟩
def a143 : Ann := ⟨[(n1, n2, n2)], []⟩
def c143 : ICode :=
 (.seq (.ops [⟨some n4, none, .mv (.c (.d (.bool false)))⟩])
 (.seq (.ops [⟨some n5, none, .mv (.t n0)⟩, ⟨some n6, none, .mv (.t n1)⟩, ⟨some n7, none, .call (.c (.fn n175 [] [])) [(.t n5), (.t n6)] .raw⟩, ⟨some n8, none, .bin .geq (.t n7) (k n0)⟩, ⟨some n4, none, .mv (.t n8)⟩])
 .ret))
def x143 : XFn := ⟨a143, n9, [(.t n4)], c143⟩
def a144 : Ann := ⟨[], []⟩
def c144 : ICode :=
 (.seq (.ops [⟨some n4, none, .mv (.c (.d (.bool false)))⟩])
 (.seq (.ops [⟨some n5, none, .mv (.t n0)⟩, ⟨some n6, none, .load none (.t n1)⟩, ⟨some n7, none, .bin .lss (.t n5) (.t n6)⟩, ⟨some n8, none, .mv (.t n7)⟩, ⟨some n9, (some (n8, false)), .mv (.t n0)⟩, ⟨some n10, (some (n8, false)), .load none (.t n2)⟩, ⟨some n11, (some (n8, false)), .bin .gtr (.t n9) (.t n10)⟩, ⟨some n12, none, .pick (.t n8) (.c (.d (.bool true))) (.t n11)⟩, ⟨some n4, none, .mv (.t n12)⟩])
 .ret))
def x144 : XFn := ⟨a144, n13, [(.t n4)], c144⟩
def a145 : Ann := ⟨[(n3, n3, n0), (n5, n3, n0), (n7, n7, n0), (n9, n3, n0)], []⟩
def c145 : ICode :=
 (.seq (.ops [⟨some n2, none, .box (.t n0)⟩, ⟨some n3, none, .box (.t n1)⟩, ⟨some n4, none, .mv (.c (.d (.bool false)))⟩])
 (.seq (.seq (.ops [⟨some n5, none, .faddr n0 (.t n3)⟩, ⟨some n6, none, .load none (.t n5)⟩])
 (.block n0 (.seq (.ops [⟨some n8, none, .bin .eql (.t n6) (.c (.d (.int .u8 (.l (i n1)))))⟩, ⟨some n7, none, .mv (.t n8)⟩])
 (.cond (.t n7) (.seq (.ops [⟨some n9, none, .faddr n4 (.t n3)⟩, ⟨some n10, none, .load none (.t n9)⟩, ⟨some n11, none, .bslice n1 n1 [(.int .i64 (.l (i n0)))] [(n0, (.t n10))] false⟩, ⟨some n12, none, .call (.c (.fn n104 [] [])) [(.c (.d (.int .i64 (.l (.negSucc n9998))))), (k n9999), (.t n11)] .borrow⟩, ⟨some n4, none, .mv (.t n12)⟩])
 .ret)
 (.seq (.ops [⟨some n14, none, .bin .eql (.t n6) (.c (.d (.int .u8 (.l (i n2)))))⟩, ⟨some n13, none, .mv (.t n14)⟩])
 (.cond (.t n13) (.seq (.ops [⟨some n15, none, .faddr n4 (.t n3)⟩, ⟨some n16, none, .load none (.t n15)⟩, ⟨some n17, none, .bslice n1 n1 [(.int .i64 (.l (i n0)))] [(n0, (.t n16))] false⟩, ⟨some n18, none, .call (.c (.fn n104 [] [])) [(k n1), (k n4), (.t n17)] .borrow⟩, ⟨some n4, none, .mv (.t n18)⟩])
 .ret)
 (.seq (.ops [⟨some n20, none, .bin .eql (.t n6) (.c (.d (.int .u8 (.l (i n3)))))⟩, ⟨some n19, none, .mv (.t n20)⟩])
 (.cond (.t n19) (.seq (.ops [⟨some n21, none, .faddr n0 (.t n2)⟩, ⟨some n22, none, .load none (.t n21)⟩, ⟨some n23, none, .len (.t n22)⟩, ⟨some n24, none, .bin .sub (.t n23) (k n1)⟩, ⟨some n25, none, .faddr n4 (.t n3)⟩, ⟨some n26, none, .load none (.t n25)⟩, ⟨some n27, none, .bslice n1 n1 [(.int .i64 (.l (i n0)))] [(n0, (.t n26))] false⟩, ⟨some n28, none, .call (.c (.fn n104 [] [])) [(k n0), (.t n24), (.t n27)] .borrow⟩, ⟨some n4, none, .mv (.t n28)⟩])
 .ret)
 (.seq (.ops [⟨some n30, none, .bin .eql (.t n6) (.c (.d (.int .u8 (.l (i n4)))))⟩, ⟨some n29, none, .mv (.t n30)⟩])
 (.cond (.t n29) (.seq (.ops [⟨some n31, none, .faddr n4 (.t n3)⟩, ⟨some n32, none, .load none (.t n31)⟩, ⟨some n33, none, .bslice n1 n1 [(.int .i64 (.l (i n0)))] [(n0, (.t n32))] false⟩, ⟨some n34, none, .call (.c (.fn n104 [] [])) [(k n0), (k n31), (.t n33)] .borrow⟩, ⟨some n4, none, .mv (.t n34)⟩])
 .ret)
 .skip))))))))))
 (.seq (.ops [⟨some n35, none, .faddr n4 (.t n3)⟩, ⟨some n36, none, .load none (.t n35)⟩, ⟨some n37, none, .bin .eql (.t n36) (k n0)⟩, ⟨some n4, none, .mv (.t n37)⟩])
 .ret)))
def x145 : XFn := ⟨a145, n38, [(.t n4)], c145⟩
def a146 : Ann := ⟨[], []⟩
def c146 : ICode :=
 (.seq (.ops [⟨some n1, none, .box (.t n0)⟩, ⟨some n2, none, .alloc [(.int .i64 (.l (i n0))), (.int .i64 (.l (i n0))), (.int .i64 (.l (i n0)))]⟩])
 (.seq (.ops [⟨some n3, none, .faddr n1 (.t n1)⟩, ⟨some n4, none, .load none (.t n3)⟩, ⟨some n5, none, .faddr n2 (.t n1)⟩, ⟨some n6, none, .load none (.t n5)⟩, ⟨some n7, none, .faddr n3 (.t n1)⟩, ⟨some n8, none, .load none (.t n7)⟩, ⟨some n9, none, .build [(.int .i64 (.l (i n0))), (.int .i64 (.l (i n0))), (.int .i64 (.l (i n0)))] [(n0, n1, (.t n4)), (n1, n1, (.t n6)), (n2, n1, (.t n8))]⟩, ⟨none, none, .store n3 (.t n2) (.t n9)⟩])
 .ret))
def x146 : XFn := ⟨a146, n10, [(.c n2 (some n3))], c146⟩
def a147 : Ann := ⟨[], []⟩
def c147 : ICode :=
 (.seq (.ops [⟨some n2, none, .mv (k n0)⟩])
 (.seq (.block n0 (.seq (.ops [⟨some n4, none, .mv (.t n0)⟩, ⟨some n5, none, .bin .leq (.t n4) (.c (.d (.int .u8 (.l (i n4)))))⟩, ⟨some n3, none, .mv (.t n5)⟩])
 (.cond (.t n3) (.seq (.ops [⟨some n2, none, .mv (k n0)⟩])
 .ret)
 (.seq (.ops [⟨some n7, none, .mv (.t n0)⟩, ⟨some n8, none, .bin .leq (.t n7) (.c (.d (.int .u8 (.l (i n6)))))⟩, ⟨some n6, none, .mv (.t n8)⟩])
 (.cond (.t n6) (.seq (.ops [⟨some n2, none, .mv (k n1)⟩])
 .ret)
 (.seq (.ops [⟨some n10, none, .mv (.t n0)⟩, ⟨some n11, none, .bin .leq (.t n10) (.c (.d (.int .u8 (.l (i n16)))))⟩, ⟨some n9, none, .mv (.t n11)⟩])
 (.cond (.t n9) (.seq (.ops [⟨some n2, none, .mv (k n2)⟩])
 .ret)
 .skip)))))))
 (.seq (.ops [⟨some n2, none, .mv (k n3)⟩])
 .ret)))
def x147 : XFn := ⟨a147, n12, [(.t n2)], c147⟩
def a148 : Ann := ⟨[(n1, n2, n2)], []⟩
def c148 : ICode :=
 (.seq (.ops [⟨some n3, none, .mv (.c (.d (.bool false)))⟩])
 (.seq (.ops [⟨some n4, none, .load none (.t n1)⟩, ⟨some n5, none, .mv (.t n0)⟩, ⟨some n6, none, .call (.t n4) [(.t n5)] .raw⟩, ⟨some n7, none, .un .not (.t n6)⟩, ⟨some n3, none, .mv (.t n7)⟩])
 .ret))
def x148 : XFn := ⟨a148, n8, [(.t n3)], c148⟩
def a149 : Ann := ⟨[(n1, n2, n2)], []⟩
def c149 : ICode :=
 (.seq (.ops [⟨some n3, none, .box (.t n0)⟩, ⟨some n4, none, .box (.t n1)⟩, ⟨some n6, none, .mv (.c (.d (.bool false)))⟩])
 (.seq (.ops [⟨some n7, none, .mv (.t n2)⟩, ⟨some n8, none, .mkfn n176 [] [(.t n3), (.t n4)]⟩, ⟨some n9, none, .call (.c (.fn n143 [] [])) [(.t n7), (.t n8)] .raw⟩, ⟨some n10, none, .un .not (.t n9)⟩, ⟨some n6, none, .mv (.t n10)⟩])
 .ret))
def x149 : XFn := ⟨a149, n11, [(.t n6)], c149⟩
def a150 : Ann := ⟨[(n1, n4, n0), (n1, n5, n2)], []⟩
def c150 : ICode :=
 (.seq (.ops [⟨some n3, none, .mv (.t n0)⟩, ⟨some n4, none, .len (.t n3)⟩, ⟨some n2, none, .mv (.t n4)⟩])
 (.ops [⟨some n5, none, .mv (.t n0)⟩, ⟨some n6, none, .mv (.t n2)⟩, ⟨some n7, none, .mv (.t n2)⟩, ⟨some n8, none, .conv .u64 (.t n7)⟩, ⟨some n9, none, .call (.c (.fn n93 [] [])) [(.t n8)] .borrow⟩, ⟨some n10, none, .call (.c (.fn n177 [] [])) [(.t n5), (k n0), (.t n6), (.t n9)] .raw⟩]))
def x150 : XFn := ⟨a150, n11, [], c150⟩
def a151 : Ann := ⟨[], []⟩
def c151 : ICode :=
 (.seq (.ops [⟨some n2, none, .mv (.c (.d .nil))⟩])
 (.seq (.ops [⟨some n5, none, .mv (.t n0)⟩, ⟨some n6, none, .mkslice n1 [(.int .i64 (.l (i n0)))] n8 (.t n5)⟩, ⟨some n3, none, .mv (.t n6)⟩])
 (.seq (.seq (.ops [⟨some n7, none, .mv (.t n0)⟩, ⟨some n8, none, .mv (k n0)⟩])
 (.block n0 (.loop (.seq (.ops [⟨some n9, none, .bin .lss (.t n8) (.t n7)⟩])
 (.seq (.cond (.t n9) .skip
 (.exit n0))
 (.seq (.block n1 (.seq (.ops [⟨some n10, none, .mv (.t n8)⟩, ⟨some n4, none, .mv (.t n10)⟩])
 (.ops [⟨some n11, none, .mv (.t n3)⟩, ⟨some n12, none, .mv (.t n4)⟩, ⟨some n13, none, .mv (.t n4)⟩, ⟨some n14, none, .iaddr n1 (.t n11) (.t n12)⟩, ⟨none, none, .store n1 (.t n14) (.t n13)⟩])))
 (.ops [⟨some n15, none, .bin .add (.t n8) (k n1)⟩, ⟨some n8, none, .mv (.t n15)⟩])))))))
 (.seq (.ops [⟨some n16, none, .mv (.t n3)⟩, ⟨some n2, none, .mv (.t n16)⟩])
 .ret))))
def x151 : XFn := ⟨a151, n17, [(.t n2)], c151⟩
def a156 : Ann := ⟨[(n1, n4, n0), (n7, n2, n0), (n8, n3, n1), (n8, n6, n2), (n9, n6, n0)], []⟩
def c156 : ICode :=
 (.seq (.ops [⟨some n1, none, .box (.t n0)⟩, ⟨some n2, none, .alloc [.nil, .nil, .nil, .nil, .nil, .nil, (.int .i64 (.l (i n0)))]⟩, ⟨some n3, none, .mv (k n0)⟩])
 (.seq (.seq (.ops [⟨some n5, none, .faddr n0 (.t n1)⟩, ⟨some n6, none, .load none (.t n5)⟩, ⟨some n7, none, .faddr n1 (.t n1)⟩, ⟨some n8, none, .load none (.t n7)⟩, ⟨some n9, none, .call (.c (.fn n109 [] [])) [(.t n6), (.t n8)] .borrow⟩, ⟨some n4, none, .mv (.t n9)⟩])
 (.seq (.ops [⟨some n10, none, .mv (.t n4)⟩, ⟨some n11, none, .bin .neq (.t n10) (k n0)⟩])
 (.cond (.t n11) (.seq (.ops [⟨some n12, none, .load (some n7) (.t n2)⟩, ⟨some n13, none, .mv (.t n4)⟩, ⟨none, none, .store n7 (.t n2) (.t n12)⟩, ⟨some n3, none, .mv (.t n13)⟩])
 .ret)
 .skip)))
 (.seq (.ops [⟨some n14, none, .faddr n0 (.t n1)⟩, ⟨some n15, none, .load none (.t n14)⟩, ⟨some n16, none, .faddr n1 (.t n1)⟩, ⟨some n17, none, .load none (.t n16)⟩, ⟨some n18, none, .build [.nil, .nil] [(n0, n1, (.t n15)), (n1, n1, (.t n17))]⟩, ⟨some n19, none, .load (some n5) (.t n1)⟩, ⟨some n20, none, .build [.nil, .nil, .nil, .nil, .nil, .nil, (.int .i64 (.l (i n0)))] [(n0, n2, (.t n18)), (n2, n5, (.t n19))]⟩, ⟨none, none, .store n7 (.t n2) (.t n20)⟩])
 (.seq (.block n0 (.seq (.ops [⟨some n22, none, .faddr n3 (.t n1)⟩, ⟨some n23, none, .load none (.t n22)⟩, ⟨some n24, none, .len (.t n23)⟩, ⟨some n25, none, .bin .gtr (.t n24) (k n6000)⟩, ⟨some n21, none, .mv (.t n25)⟩])
 (.cond (.t n21) (.seq (.ops [⟨some n26, none, .load (some n7) (.t n2)⟩, ⟨none, none, .store n7 (.t n2) (.t n26)⟩, ⟨some n3, none, .mv (k n5)⟩])
 .ret)
 (.seq (.seq (.ops [⟨some n28, none, .faddr n2 (.t n1)⟩, ⟨some n29, none, .load none (.t n28)⟩, ⟨some n30, none, .call (.c (.fn n135 [] [])) [(.t n29), (.c (.fn n136 [] []))] .borrow⟩, ⟨some n31, none, .un .not (.t n30)⟩, ⟨some n27, none, .mv (.t n31)⟩])
 (.cond (.t n27) .skip
 (.seq (.draw n0 [⟨⟨some n32, none, .faddr n3 (.t n1)⟩, n0, n0, [], [], false, false⟩, ⟨⟨some n33, none, .load none (.t n32)⟩, n1, n0, [], [], false, false⟩, ⟨⟨some n34, none, .len (.t n33)⟩, n2, n0, [], [], false, false⟩, ⟨⟨some n36, none, .load (some n7) (.t n2)⟩, n4, n0, [], [], false, true⟩, ⟨⟨some n37, none, .mkfn n178 [(.t n36)] []⟩, n5, n0, [], [], false, true⟩, ⟨⟨some n35, none, .call (.c (.fn n151 [] [])) [(.t n34)] .share⟩, n3, n0, [], [n2, n1, n0], false, false⟩, ⟨⟨some n38, none, .call (.c (.fn n172 [] [])) [(.t n35), (.t n37)] .raw⟩, n6, n0, [], [n3, n5, n2, n1, n0, n4], true, false⟩, ⟨⟨some n39, none, .un .not (.t n38)⟩, n7, n0, [], [], false, false⟩, ⟨⟨some n27, none, .mv (.t n39)⟩, n8, n0, [], [], false, false⟩])
 (.cond (.t n27) .skip
 (.ops [⟨some n40, none, .load (some n7) (.t n2)⟩, ⟨some n41, none, .faddr n4 (.t n1)⟩, ⟨some n42, none, .load none (.t n41)⟩, ⟨some n43, none, .faddr n3 (.t n1)⟩, ⟨some n44, none, .load none (.t n43)⟩, ⟨some n45, none, .len (.t n44)⟩, ⟨some n46, none, .call (.c (.fn n179 [] [])) [(.t n40), (.t n42), (.t n45), (.c (.d (.int .i64 (.l (.negSucc n0)))))] .borrow⟩, ⟨some n47, none, .un .not (.t n46)⟩, ⟨some n27, none, .mv (.t n47)⟩])))))
 (.cond (.t n27) (.seq (.ops [⟨some n48, none, .load (some n7) (.t n2)⟩, ⟨none, none, .store n7 (.t n2) (.t n48)⟩, ⟨some n3, none, .mv (k n4)⟩])
 .ret)
 .skip)))))
 (.seq (.ops [⟨some n49, none, .load (some n7) (.t n2)⟩, ⟨none, none, .store n7 (.t n2) (.t n49)⟩, ⟨some n3, none, .mv (k n0)⟩])
 .ret)))))
def x156 : XFn := ⟨a156, n50, [(.c n2 (some n7)), (.t n3)], c156⟩
def a157 : Ann := ⟨[(n2, n4, n0), (n2, n10, n0), (n2, n17, n0), (n2, n25, n2)], []⟩
def c157 : ICode :=
 (.seq (.ops [⟨some n2, none, .box (.t n0)⟩, ⟨some n3, none, .box (.t n1)⟩, ⟨some n4, none, .mv (.c (.d (.bool false)))⟩])
 (.seq (.ops [⟨some n5, none, .mv (.c (.fn n180 [] []))⟩])
 (.seq (.ops [⟨some n6, none, .faddr n0 (.t n2)⟩, ⟨some n7, none, .load none (.t n6)⟩, ⟨some n8, none, .faddr n0 (.t n3)⟩, ⟨some n9, none, .load none (.t n8)⟩, ⟨some n10, none, .call (.c (.fn n122 [] [])) [(.t n7), (.t n9)] .borrow⟩, ⟨some n11, none, .mv (.t n10)⟩, ⟨some n12, (some (n11, true)), .faddr n1 (.t n2)⟩, ⟨some n13, (some (n11, true)), .load none (.t n12)⟩, ⟨some n14, (some (n11, true)), .faddr n1 (.t n3)⟩, ⟨some n15, (some (n11, true)), .load none (.t n14)⟩, ⟨some n16, (some (n11, true)), .call (.c (.fn n122 [] [])) [(.t n13), (.t n15)] .borrow⟩, ⟨some n17, none, .pick (.t n11) (.t n16) (.c (.d (.bool false)))⟩, ⟨some n18, none, .mv (.t n17)⟩, ⟨some n19, (some (n18, true)), .faddr n2 (.t n2)⟩, ⟨some n20, (some (n18, true)), .load none (.t n19)⟩, ⟨some n21, (some (n18, true)), .faddr n2 (.t n3)⟩, ⟨some n22, (some (n18, true)), .load none (.t n21)⟩, ⟨some n23, (some (n18, true)), .call (.c (.fn n181 [] [])) [(.t n20), (.t n22)] .borrow⟩, ⟨some n24, none, .pick (.t n18) (.t n23) (.c (.d (.bool false)))⟩, ⟨some n25, none, .mv (.t n24)⟩, ⟨some n26, (some (n25, true)), .faddr n3 (.t n2)⟩, ⟨some n27, (some (n25, true)), .load none (.t n26)⟩, ⟨some n28, (some (n25, true)), .faddr n3 (.t n3)⟩, ⟨some n29, (some (n25, true)), .load none (.t n28)⟩, ⟨some n30, (some (n25, true)), .mv (.t n5)⟩, ⟨some n31, (some (n25, true)), .call (.c (.fn n182 [] [])) [(.t n27), (.t n29), (.t n30)] .raw⟩, ⟨some n32, none, .pick (.t n25) (.t n31) (.c (.d (.bool false)))⟩, ⟨some n33, none, .mv (.t n32)⟩, ⟨some n34, (some (n33, true)), .faddr n4 (.t n2)⟩, ⟨some n35, (some (n33, true)), .load none (.t n34)⟩, ⟨some n36, (some (n33, true)), .faddr n4 (.t n3)⟩, ⟨some n37, (some (n33, true)), .load none (.t n36)⟩, ⟨some n38, (some (n33, true)), .bin .eql (.t n35) (.t n37)⟩, ⟨some n39, none, .pick (.t n33) (.t n38) (.c (.d (.bool false)))⟩, ⟨some n4, none, .mv (.t n39)⟩])
 .ret)))
def x157 : XFn := ⟨a157, n40, [(.t n4)], c157⟩
def a158 : Ann := ⟨[(n1, n2, n2), (n5, n5, n2)], []⟩
def c158 : ICode :=
 (.seq (.ops [⟨some n1, none, .box (.t n0)⟩, ⟨some n2, none, .alloc [.nil, .nil, .nil, .nil, (.int .i64 (.l (i n0)))]⟩])
 (.seq (.ops [⟨some n6, none, .faddr n0 (.t n1)⟩, ⟨some n7, none, .load (some n2) (.t n6)⟩, ⟨some n8, none, .call (.c (.fn n133 [] [])) [(.t n7)] .raw⟩, ⟨some n3, none, .alloc [(.raw (.pointer none))]⟩, ⟨none, none, .store n1 (.t n3) (.t n8)⟩])
 (.seq (.ops [⟨some n9, none, .mkmap false [.i64]⟩, ⟨some n4, none, .alloc [(.raw (.map none))]⟩, ⟨none, none, .store n1 (.t n4) (.t n9)⟩])
 (.seq (.ops [⟨some n5, none, .alloc [(.raw .nilFunc)]⟩])
 (.seq (.ops [⟨some n10, none, .mkfn n183 [] [(.t n3), (.t n1), (.t n4), (.t n5)]⟩, ⟨none, none, .store n1 (.t n5) (.t n10)⟩])
 (.seq (.draw n0 [⟨⟨some n13, none, .faddr n2 (.t n1)⟩, n2, n0, [], [], false, false⟩, ⟨⟨some n14, none, .faddr n4 (.t n13)⟩, n3, n0, [], [], false, false⟩, ⟨⟨some n11, none, .load none (.t n3)⟩, n0, n0, [], [], false, true⟩, ⟨⟨some n12, none, .load none (.t n5)⟩, n1, n0, [], [], false, false⟩, ⟨⟨some n15, none, .load none (.t n14)⟩, n4, n0, [], [], false, false⟩, ⟨⟨some n16, none, .call (.t n12) [(.t n15)] .raw⟩, n5, n0, [], [n1, n4, n3, n2], false, false⟩, ⟨⟨some n17, none, .nilchk (.t n11)⟩, n6, n0, [], [], false, false⟩, ⟨⟨some n18, none, .faddr n2 (.t n17)⟩, n7, n0, [], [], false, false⟩, ⟨⟨some n19, none, .faddr n4 (.t n18)⟩, n8, n0, [], [], false, false⟩, ⟨⟨none, none, .store n1 (.t n19) (.t n16)⟩, n9, n0, [], [n8, n5, n0, n1, n2, n3, n4, n7, n6], true, false⟩])
 (.seq (.ops [⟨some n20, none, .load none (.t n3)⟩, ⟨some n21, none, .nilchk (.t n20)⟩, ⟨some n22, none, .faddr n2 (.t n21)⟩, ⟨some n23, none, .load (some n5) (.t n22)⟩, ⟨none, none, .store n5 (.t n2) (.t n23)⟩])
 .ret)))))))
def x158 : XFn := ⟨a158, n24, [(.c n2 (some n5))], c158⟩
def a159 : Ann := ⟨[(n4, n3, n2)], []⟩
def c159 : ICode :=
 (.seq (.ops [⟨some n2, none, .box (.t n0)⟩])
 (.seq (.ops [⟨some n7, none, .faddr n0 (.t n2)⟩, ⟨some n8, none, .load none (.t n7)⟩, ⟨some n9, none, .len (.t n8)⟩, ⟨some n10, none, .mkslice n1 [(.int .i64 (.l (i n0)))] n8 (.t n9)⟩, ⟨some n4, none, .mv (.t n10)⟩])
 (.seq (.ops [⟨some n5, none, .mv (k n0)⟩])
 (.block n0 (.loop (.seq (.block n1 (.seq (.seq (.ops [⟨some n13, none, .mv (.t n1)⟩, ⟨some n14, none, .mv (.t n5)⟩, ⟨some n15, none, .mv (.t n4)⟩, ⟨some n16, none, .call (.t n13) [(.t n14), (.t n15)] .raw⟩, ⟨some n17, none, .un .not (.t n16)⟩])
 (.cond (.t n17) .ret
 .skip))
 (.seq (.ops [⟨some n18, none, .mv (.t n4)⟩, ⟨some n19, none, .len (.t n18)⟩, ⟨some n20, none, .bin .sub (.t n19) (k n1)⟩, ⟨some n6, none, .mv (.t n20)⟩])
 (.seq (.block n2 (.loop (.seq (.seq (.draw n0 [⟨⟨some n21, none, .mv (.t n6)⟩, n0, n0, [], [], false, false⟩, ⟨⟨some n22, none, .bin .geq (.t n21) (k n0)⟩, n1, n0, [], [], false, false⟩, ⟨⟨some n23, none, .mv (.t n22)⟩, n2, n0, [], [], false, false⟩, ⟨⟨some n24, (some (n23, true)), .mv (.t n4)⟩, n3, n0, [], [], false, false⟩, ⟨⟨some n25, (some (n23, true)), .mv (.t n6)⟩, n4, n0, [], [], false, false⟩, ⟨⟨some n26, (some (n23, true)), .iaddr n1 (.t n24) (.t n25)⟩, n5, n0, [], [], false, false⟩, ⟨⟨some n28, (some (n23, true)), .faddr n0 (.t n2)⟩, n7, n0, [], [], false, false⟩, ⟨⟨some n30, (some (n23, true)), .mv (.t n6)⟩, n9, n0, [], [], false, false⟩, ⟨⟨some n27, (some (n23, true)), .load none (.t n26)⟩, n6, n0, [], [], false, false⟩, ⟨⟨some n29, (some (n23, true)), .load none (.t n28)⟩, n8, n0, [], [], false, false⟩, ⟨⟨some n31, (some (n23, true)), .iaddr n1 (.t n29) (.t n30)⟩, n10, n0, [], [], false, false⟩, ⟨⟨some n32, (some (n23, true)), .load none (.t n31)⟩, n11, n0, [], [], false, false⟩, ⟨⟨some n33, (some (n23, true)), .bin .sub (.t n32) (k n1)⟩, n12, n0, [], [], false, false⟩, ⟨⟨some n34, (some (n23, true)), .bin .eql (.t n27) (.t n33)⟩, n13, n0, [], [], false, false⟩, ⟨⟨some n35, none, .pick (.t n23) (.t n34) (.c (.d (.bool false)))⟩, n14, n0, [], [], false, false⟩])
 (.cond (.t n35) .skip
 (.exit n2)))
 (.block n3 (.seq (.ops [⟨some n36, none, .mv (.t n4)⟩, ⟨some n37, none, .mv (.t n6)⟩, ⟨some n38, none, .iaddr n1 (.t n36) (.t n37)⟩, ⟨none, none, .store n1 (.t n38) (k n0)⟩])
 (.ops [⟨some n39, none, .mv (.t n6)⟩, ⟨some n40, none, .bin .sub (.t n39) (k n1)⟩, ⟨some n6, none, .mv (.t n40)⟩]))))))
 (.seq (.seq (.ops [⟨some n41, none, .mv (.t n6)⟩, ⟨some n42, none, .bin .lss (.t n41) (k n0)⟩])
 (.cond (.t n42) .ret
 .skip))
 (.ops [⟨some n43, none, .mv (.t n4)⟩, ⟨some n44, none, .mv (.t n6)⟩, ⟨some n45, none, .iaddr n1 (.t n43) (.t n44)⟩, ⟨some n46, none, .load none (.t n45)⟩, ⟨some n47, none, .bin .add (.t n46) (k n1)⟩, ⟨some n48, none, .iaddr n1 (.t n43) (.t n44)⟩, ⟨none, none, .store n1 (.t n48) (.t n47)⟩]))))))
 (.ops [⟨some n11, none, .mv (.t n5)⟩, ⟨some n12, none, .bin .add (.t n11) (k n1)⟩, ⟨some n5, none, .mv (.t n12)⟩])))))))
def x159 : XFn := ⟨a159, n49, [], c159⟩
def a160 : Ann := ⟨[(n3, n2, n2), (n5, n1, n0)], []⟩
def c160 : ICode :=
 (.seq (.ops [⟨some n3, none, .box (.t n0)⟩, ⟨some n6, none, .mv (k n0)⟩])
 (.seq (.ops [⟨some n8, none, .faddr n2 (.t n3)⟩, ⟨some n9, none, .faddr n4 (.t n8)⟩, ⟨some n10, none, .load none (.t n9)⟩, ⟨some n7, none, .mv (.t n10)⟩])
 (.seq (.block n0 (.loop (.seq (.seq (.ops [⟨some n11, none, .mv (.t n7)⟩, ⟨some n12, none, .bin .geq (.t n11) (k n0)⟩])
 (.cond (.t n12) .skip
 (.exit n0)))
 (.block n1 (.seq (.ops [⟨some n13, none, .mv (.t n2)⟩, ⟨some n14, none, .mv (.t n7)⟩, ⟨some n15, none, .call (.t n13) [(.t n14)] .raw⟩])
 (.draw n0 [⟨⟨some n16, none, .faddr n2 (.t n3)⟩, n0, n0, [], [], false, false⟩, ⟨⟨some n17, none, .faddr n3 (.t n16)⟩, n1, n0, [], [], false, false⟩, ⟨⟨some n19, none, .mv (.t n7)⟩, n3, n0, [], [], false, false⟩, ⟨⟨some n23, none, .mv (.t n1)⟩, n7, n0, [], [], false, false⟩, ⟨⟨some n24, none, .faddr n2 (.t n3)⟩, n8, n0, [], [], false, false⟩, ⟨⟨some n25, none, .faddr n3 (.t n24)⟩, n9, n0, [], [], false, false⟩, ⟨⟨some n27, none, .mv (.t n7)⟩, n11, n0, [], [], false, false⟩, ⟨⟨some n18, none, .load none (.t n17)⟩, n2, n0, [], [], false, false⟩, ⟨⟨some n20, none, .iaddr n2 (.t n18) (.t n19)⟩, n4, n0, [], [], false, false⟩, ⟨⟨some n21, none, .faddr n1 (.t n20)⟩, n5, n0, [], [], false, false⟩, ⟨⟨some n22, none, .load none (.t n21)⟩, n6, n0, [], [], false, false⟩, ⟨⟨some n26, none, .load none (.t n25)⟩, n10, n0, [], [], false, false⟩, ⟨⟨some n28, none, .iaddr n2 (.t n26) (.t n27)⟩, n12, n0, [], [], false, false⟩, ⟨⟨some n29, none, .faddr n0 (.t n28)⟩, n13, n0, [], [], false, false⟩, ⟨⟨some n30, none, .load none (.t n29)⟩, n14, n0, [], [], false, false⟩, ⟨⟨some n31, none, .iaddr n1 (.t n23) (.t n30)⟩, n15, n0, [], [], false, false⟩, ⟨⟨some n32, none, .load none (.t n31)⟩, n16, n0, [], [], false, false⟩, ⟨⟨some n33, none, .iaddr n1 (.t n22) (.t n32)⟩, n17, n0, [], [], false, false⟩, ⟨⟨some n34, none, .load none (.t n33)⟩, n18, n0, [], [], false, false⟩, ⟨⟨some n7, none, .mv (.t n34)⟩, n19, n0, [], [], false, false⟩]))))))
 (.seq (.ops [⟨some n35, none, .mv (.t n7)⟩, ⟨some n36, none, .call (.c (.fn n171 [] [])) [(.t n35)] .borrow⟩, ⟨some n6, none, .mv (.t n36)⟩])
 .ret))))
def x160 : XFn := ⟨a160, n37, [(.t n6)], c160⟩
def a161 : Ann := ⟨[], []⟩
def c161 : ICode :=
 .skip
def x161 : XFn := ⟨a161, n2, [], c161⟩
def a162 : Ann := ⟨[(n4, n5, n2)], []⟩
def c162 : ICode :=
 (.seq (.ops [⟨some n4, none, .mv (k n0)⟩])
 (.seq (.seq (.ops [⟨some n6, none, .mv (.t n0)⟩, ⟨some n7, none, .len (.t n6)⟩, ⟨some n8, none, .mv (k n0)⟩])
 (.block n0 (.loop (.seq (.ops [⟨some n9, none, .bin .lss (.t n8) (.t n7)⟩])
 (.seq (.cond (.t n9) .skip
 (.exit n0))
 (.seq (.block n1 (.seq (.ops [⟨some n10, none, .mv (.t n8)⟩, ⟨some n5, none, .mv (.t n10)⟩])
 (.seq (.ops [⟨some n11, none, .mv (.t n1)⟩, ⟨some n12, none, .mv (.t n0)⟩, ⟨some n13, none, .mv (.t n5)⟩, ⟨some n14, none, .iaddr n5 (.t n12) (.t n13)⟩, ⟨some n15, none, .load (some n5) (.t n14)⟩, ⟨some n16, none, .call (.t n11) [(.t n15)] .raw⟩])
 (.cond (.t n16) (.seq (.ops [⟨some n17, none, .mv (.t n5)⟩, ⟨some n4, none, .mv (.t n17)⟩])
 .ret)
 .skip))))
 (.ops [⟨some n18, none, .bin .add (.t n8) (k n1)⟩, ⟨some n8, none, .mv (.t n18)⟩])))))))
 (.seq (.ops [⟨some n4, none, .mv (.c (.d (.int .i64 (.l (.negSucc n0)))))⟩])
 .ret)))
def x162 : XFn := ⟨a162, n19, [(.t n4)], c162⟩
def a163 : Ann := ⟨[(n3, n19, n2), (n5, n13, n2)], []⟩
def c163 : ICode :=
 (.seq (.ops [⟨some n12, none, .mv (.t n1)⟩, ⟨some n10, none, .mv (.t n12)⟩])
 (.block n0 (.loop (.block n1 (.seq (.ops [⟨some n13, none, .mv (.t n10)⟩, ⟨some n14, none, .bin .mul (k n2) (.t n13)⟩, ⟨some n15, none, .bin .add (.t n14) (k n1)⟩, ⟨some n11, none, .mv (.t n15)⟩])
 (.seq (.seq (.ops [⟨some n16, none, .mv (.t n11)⟩, ⟨some n17, none, .mv (.t n2)⟩, ⟨some n18, none, .bin .geq (.t n16) (.t n17)⟩])
 (.cond (.t n18) (.exit n0)
 .skip))
 (.seq (.seq (.draw n0 [⟨⟨some n19, none, .mv (.t n11)⟩, n0, n0, [], [], false, false⟩, ⟨⟨some n20, none, .bin .add (.t n19) (k n1)⟩, n1, n0, [], [], false, false⟩, ⟨⟨some n21, none, .mv (.t n2)⟩, n2, n0, [], [], false, false⟩, ⟨⟨some n22, none, .bin .lss (.t n20) (.t n21)⟩, n3, n0, [], [], false, false⟩, ⟨⟨some n23, none, .mv (.t n22)⟩, n4, n0, [], [], false, false⟩, ⟨⟨some n24, (some (n23, true)), .mv (.t n4)⟩, n5, n0, [], [], false, false⟩, ⟨⟨some n25, (some (n23, true)), .mv (.t n0)⟩, n6, n0, [], [], false, false⟩, ⟨⟨some n26, (some (n23, true)), .mv (.t n3)⟩, n7, n0, [], [], false, false⟩, ⟨⟨some n27, (some (n23, true)), .mv (.t n11)⟩, n8, n0, [], [], false, false⟩, ⟨⟨some n28, (some (n23, true)), .bin .add (.t n26) (.t n27)⟩, n9, n0, [], [], false, false⟩, ⟨⟨some n29, (some (n23, true)), .iaddr n2 (.t n25) (.t n28)⟩, n10, n0, [], [], false, false⟩, ⟨⟨some n31, (some (n23, true)), .mv (.t n0)⟩, n12, n0, [], [], false, false⟩, ⟨⟨some n32, (some (n23, true)), .mv (.t n3)⟩, n13, n0, [], [], false, false⟩, ⟨⟨some n33, (some (n23, true)), .mv (.t n11)⟩, n14, n0, [], [], false, false⟩, ⟨⟨some n34, (some (n23, true)), .bin .add (.t n32) (.t n33)⟩, n15, n0, [], [], false, false⟩, ⟨⟨some n35, (some (n23, true)), .bin .add (.t n34) (k n1)⟩, n16, n0, [], [], false, false⟩, ⟨⟨some n36, (some (n23, true)), .iaddr n2 (.t n31) (.t n35)⟩, n17, n0, [], [], false, false⟩, ⟨⟨some n30, (some (n23, true)), .load (some n2) (.t n29)⟩, n11, n0, [], [], false, false⟩, ⟨⟨some n37, (some (n23, true)), .load (some n2) (.t n36)⟩, n18, n0, [], [], false, false⟩, ⟨⟨some n38, (some (n23, true)), .call (.t n24) [(.t n30), (.t n37)] .raw⟩, n19, n0, [], [n5, n11, n18, n4, n3, n1, n2, n0, n10, n6, n9, n7, n8, n17, n12, n16, n15, n13, n14], true, false⟩, ⟨⟨some n39, (some (n23, true)), .bin .lss (.t n38) (k n0)⟩, n20, n0, [], [], false, false⟩, ⟨⟨some n40, none, .pick (.t n23) (.t n39) (.c (.d (.bool false)))⟩, n21, n0, [], [], false, false⟩])
 (.cond (.t n40) (.ops [⟨some n41, none, .mv (.t n11)⟩, ⟨some n42, none, .bin .add (.t n41) (k n1)⟩, ⟨some n11, none, .mv (.t n42)⟩])
 .skip))
 (.seq (.seq (.draw n0 [⟨⟨some n43, none, .mv (.t n4)⟩, n0, n0, [], [], false, false⟩, ⟨⟨some n44, none, .mv (.t n0)⟩, n1, n0, [], [], false, false⟩, ⟨⟨some n45, none, .mv (.t n3)⟩, n2, n0, [], [], false, false⟩, ⟨⟨some n46, none, .mv (.t n10)⟩, n3, n0, [], [], false, false⟩, ⟨⟨some n47, none, .bin .add (.t n45) (.t n46)⟩, n4, n0, [], [], false, false⟩, ⟨⟨some n48, none, .iaddr n2 (.t n44) (.t n47)⟩, n5, n0, [], [], false, false⟩, ⟨⟨some n50, none, .mv (.t n0)⟩, n7, n0, [], [], false, false⟩, ⟨⟨some n51, none, .mv (.t n3)⟩, n8, n0, [], [], false, false⟩, ⟨⟨some n52, none, .mv (.t n11)⟩, n9, n0, [], [], false, false⟩, ⟨⟨some n53, none, .bin .add (.t n51) (.t n52)⟩, n10, n0, [], [], false, false⟩, ⟨⟨some n54, none, .iaddr n2 (.t n50) (.t n53)⟩, n11, n0, [], [], false, false⟩, ⟨⟨some n49, none, .load (some n2) (.t n48)⟩, n6, n0, [], [], false, false⟩, ⟨⟨some n55, none, .load (some n2) (.t n54)⟩, n12, n0, [], [], false, false⟩, ⟨⟨some n56, none, .call (.t n43) [(.t n49), (.t n55)] .raw⟩, n13, n0, [], [n0, n6, n12, n5, n1, n4, n2, n3, n11, n7, n10, n8, n9], true, false⟩, ⟨⟨some n57, none, .bin .lss (.t n56) (k n0)⟩, n14, n0, [], [], false, false⟩, ⟨⟨some n58, none, .un .not (.t n57)⟩, n15, n0, [], [], false, false⟩])
 (.cond (.t n58) .ret
 .skip))
 (.seq (.draw n0 [⟨⟨some n59, none, .mv (.t n0)⟩, n0, n0, [], [], false, false⟩, ⟨⟨some n60, none, .mv (.t n3)⟩, n1, n0, [], [], false, false⟩, ⟨⟨some n61, none, .mv (.t n10)⟩, n2, n0, [], [], false, false⟩, ⟨⟨some n62, none, .bin .add (.t n60) (.t n61)⟩, n3, n0, [], [], false, false⟩, ⟨⟨some n63, none, .mv (.t n0)⟩, n4, n0, [], [], false, true⟩, ⟨⟨some n64, none, .mv (.t n3)⟩, n5, n0, [], [], false, true⟩, ⟨⟨some n65, none, .mv (.t n11)⟩, n6, n0, [], [], false, true⟩, ⟨⟨some n66, none, .bin .add (.t n64) (.t n65)⟩, n7, n0, [], [], false, true⟩, ⟨⟨some n67, none, .mv (.t n0)⟩, n8, n0, [], [], false, false⟩, ⟨⟨some n68, none, .mv (.t n3)⟩, n9, n0, [], [], false, false⟩, ⟨⟨some n69, none, .mv (.t n11)⟩, n10, n0, [], [], false, false⟩, ⟨⟨some n70, none, .bin .add (.t n68) (.t n69)⟩, n11, n0, [], [], false, false⟩, ⟨⟨some n71, none, .iaddr n2 (.t n67) (.t n70)⟩, n12, n0, [], [], false, false⟩, ⟨⟨some n73, none, .mv (.t n0)⟩, n14, n0, [], [], false, false⟩, ⟨⟨some n74, none, .mv (.t n3)⟩, n15, n0, [], [], false, false⟩, ⟨⟨some n75, none, .mv (.t n10)⟩, n16, n0, [], [], false, false⟩, ⟨⟨some n76, none, .bin .add (.t n74) (.t n75)⟩, n17, n0, [], [], false, false⟩, ⟨⟨some n77, none, .iaddr n2 (.t n73) (.t n76)⟩, n18, n0, [], [], false, false⟩, ⟨⟨some n72, none, .load (some n2) (.t n71)⟩, n13, n0, [], [], false, false⟩, ⟨⟨some n78, none, .load (some n2) (.t n77)⟩, n19, n0, [], [], false, false⟩, ⟨⟨some n79, none, .iaddr n2 (.t n59) (.t n62)⟩, n20, n0, [], [], false, false⟩, ⟨⟨none, none, .store n2 (.t n79) (.t n72)⟩, n21, n0, [], [n20, n13, n0, n1, n2, n3, n8, n9, n10, n11, n12, n19, n18, n14, n17, n15, n16], false, false⟩, ⟨⟨some n80, none, .iaddr n2 (.t n63) (.t n66)⟩, n22, n0, [], [], false, false⟩, ⟨⟨none, none, .store n2 (.t n80) (.t n78)⟩, n23, n0, [], [n22, n19, n21, n0, n1, n2, n3, n4, n5, n6, n7, n8, n9, n10, n11, n12, n13, n14, n15, n16, n17, n18, n20], true, false⟩])
 (.ops [⟨some n81, none, .mv (.t n11)⟩, ⟨some n10, none, .mv (.t n81)⟩]))))))))))
def x163 : XFn := ⟨a163, n82, [], c163⟩
def a164 : Ann := ⟨[(n1, n2, n0)], []⟩
def c164 : ICode :=
 (.seq (.ops [⟨some n2, none, .mv (.c (.d (.int .u64 (.l (i n0)))))⟩])
 (.seq (.ops [⟨some n3, none, .mv (.t n0)⟩, ⟨some n4, none, .conv .u64 (.t n3)⟩, ⟨some n5, none, .call (.c (.fn n93 [] [])) [(.t n4)] .borrow⟩, ⟨some n6, none, .bin .shl (.c (.d (.int .u64 (.l (i n1))))) (.t n5)⟩, ⟨some n2, none, .mv (.t n6)⟩])
 .ret))
def x164 : XFn := ⟨a164, n7, [(.t n2)], c164⟩
def a165 : Ann := ⟨[], []⟩
def c165 : ICode :=
 (.seq (.ops [⟨some n2, none, .mv (.c (.d (.int .u64 (.l (i n0)))))⟩])
 (.seq (.draw n0 [⟨⟨some n3, none, .mv (.t n0)⟩, n0, n0, [], [], false, false⟩, ⟨⟨some n4, none, .nilchk (.t n3)⟩, n1, n0, [], [], false, false⟩, ⟨⟨some n6, none, .mv (.t n0)⟩, n3, n0, [], [], false, false⟩, ⟨⟨some n7, none, .nilchk (.t n6)⟩, n4, n0, [], [], false, false⟩, ⟨⟨some n5, none, .load none (.t n4)⟩, n2, n0, [], [], false, false⟩, ⟨⟨some n8, none, .load none (.t n7)⟩, n5, n0, [], [], false, false⟩, ⟨⟨some n9, none, .bin .shl (.t n8) (.c (.d (.int .u64 (.l (i n13)))))⟩, n6, n0, [], [], false, false⟩, ⟨⟨some n10, none, .bin .xor (.t n5) (.t n9)⟩, n7, n0, [], [], false, false⟩, ⟨⟨some n11, none, .nilchk (.t n3)⟩, n8, n0, [], [], false, false⟩, ⟨⟨none, none, .store n1 (.t n11) (.t n10)⟩, n9, n0, [], [n8, n7, n0, n1, n2, n3, n4, n5, n6], true, false⟩])
 (.seq (.draw n0 [⟨⟨some n12, none, .mv (.t n0)⟩, n0, n0, [], [], false, false⟩, ⟨⟨some n13, none, .nilchk (.t n12)⟩, n1, n0, [], [], false, false⟩, ⟨⟨some n15, none, .mv (.t n0)⟩, n3, n0, [], [], false, false⟩, ⟨⟨some n16, none, .nilchk (.t n15)⟩, n4, n0, [], [], false, false⟩, ⟨⟨some n14, none, .load none (.t n13)⟩, n2, n0, [], [], false, false⟩, ⟨⟨some n17, none, .load none (.t n16)⟩, n5, n0, [], [], false, false⟩, ⟨⟨some n18, none, .bin .shr (.t n17) (.c (.d (.int .u64 (.l (i n7)))))⟩, n6, n0, [], [], false, false⟩, ⟨⟨some n19, none, .bin .xor (.t n14) (.t n18)⟩, n7, n0, [], [], false, false⟩, ⟨⟨some n20, none, .nilchk (.t n12)⟩, n8, n0, [], [], false, false⟩, ⟨⟨none, none, .store n1 (.t n20) (.t n19)⟩, n9, n0, [], [n8, n7, n0, n1, n2, n3, n4, n5, n6], true, false⟩])
 (.seq (.draw n0 [⟨⟨some n21, none, .mv (.t n0)⟩, n0, n0, [], [], false, false⟩, ⟨⟨some n22, none, .nilchk (.t n21)⟩, n1, n0, [], [], false, false⟩, ⟨⟨some n24, none, .mv (.t n0)⟩, n3, n0, [], [], false, false⟩, ⟨⟨some n25, none, .nilchk (.t n24)⟩, n4, n0, [], [], false, false⟩, ⟨⟨some n23, none, .load none (.t n22)⟩, n2, n0, [], [], false, false⟩, ⟨⟨some n26, none, .load none (.t n25)⟩, n5, n0, [], [], false, false⟩, ⟨⟨some n27, none, .bin .shl (.t n26) (.c (.d (.int .u64 (.l (i n17)))))⟩, n6, n0, [], [], false, false⟩, ⟨⟨some n28, none, .bin .xor (.t n23) (.t n27)⟩, n7, n0, [], [], false, false⟩, ⟨⟨some n29, none, .nilchk (.t n21)⟩, n8, n0, [], [], false, false⟩, ⟨⟨none, none, .store n1 (.t n29) (.t n28)⟩, n9, n0, [], [n8, n7, n0, n1, n2, n3, n4, n5, n6], true, false⟩])
 (.seq (.ops [⟨some n30, none, .mv (.t n0)⟩, ⟨some n31, none, .nilchk (.t n30)⟩, ⟨some n32, none, .load none (.t n31)⟩, ⟨some n2, none, .mv (.t n32)⟩])
 .ret)))))
def x165 : XFn := ⟨a165, n33, [(.t n2)], c165⟩
def a166 : Ann := ⟨[(n1, n8, n2)], []⟩
def c166 : ICode :=
 (.seq (.ops [⟨some n8, none, .mv (k n0)⟩])
 (.seq (.ops [⟨some n9, none, .mv (.t n0)⟩, ⟨some n10, none, .mv (.t n1)⟩, ⟨some n11, none, .bin .sub (.t n10) (k n1)⟩, ⟨some n12, none, .mv (.t n1)⟩, ⟨some n13, none, .mv (.t n1)⟩, ⟨some n14, none, .bin .add (.t n13) (k n1)⟩, ⟨some n15, none, .mv (.t n2)⟩, ⟨some n16, none, .mv (.t n3)⟩, ⟨some n17, none, .call (.c (.fn n167 [] [])) [(.t n9), (.t n11), (.t n12), (.t n14), (.t n15), (.t n16)] .raw⟩, ⟨some n8, none, .mv (.t n17)⟩])
 .ret))
def x166 : XFn := ⟨a166, n18, [(.t n8)], c166⟩
def a167 : Ann := ⟨[(n1, n5, n2), (n2, n5, n2), (n3, n5, n2)], []⟩
def c167 : ICode :=
 (.seq (.ops [⟨some n12, none, .mv (k n0)⟩])
 (.seq (.ops [⟨some n14, none, .mv (.t n0)⟩, ⟨some n15, none, .mv (.t n1)⟩, ⟨some n16, none, .mv (.t n2)⟩, ⟨some n17, none, .mv (.t n4)⟩, ⟨some n18, none, .mv (.t n5)⟩, ⟨some n19, none, .call (.c (.fn n184 [] [])) [(.t n14), (.t n15), (.t n16), (.t n17), (.t n18)] .raw⟩, ⟨some n13, none, .mv (.t n19)⟩, ⟨some n20, none, .extract (.t n13) n0⟩, ⟨some n21, none, .extract (.t n13) n1⟩, ⟨some n1, none, .mv (.t n20)⟩, ⟨some n2, none, .mv (.t n21)⟩])
 (.seq (.ops [⟨some n23, none, .mv (.t n0)⟩, ⟨some n24, none, .mv (.t n2)⟩, ⟨some n25, none, .mv (.t n3)⟩, ⟨some n26, none, .mv (.t n4)⟩, ⟨some n27, none, .mv (.t n5)⟩, ⟨some n28, none, .call (.c (.fn n184 [] [])) [(.t n23), (.t n24), (.t n25), (.t n26), (.t n27)] .raw⟩, ⟨some n22, none, .mv (.t n28)⟩, ⟨some n29, none, .extract (.t n22) n0⟩, ⟨some n30, none, .extract (.t n22) n1⟩, ⟨some n2, none, .mv (.t n29)⟩, ⟨some n3, none, .mv (.t n30)⟩])
 (.seq (.ops [⟨some n32, none, .mv (.t n0)⟩, ⟨some n33, none, .mv (.t n1)⟩, ⟨some n34, none, .mv (.t n2)⟩, ⟨some n35, none, .mv (.t n4)⟩, ⟨some n36, none, .mv (.t n5)⟩, ⟨some n37, none, .call (.c (.fn n184 [] [])) [(.t n32), (.t n33), (.t n34), (.t n35), (.t n36)] .raw⟩, ⟨some n31, none, .mv (.t n37)⟩, ⟨some n38, none, .extract (.t n31) n0⟩, ⟨some n39, none, .extract (.t n31) n1⟩, ⟨some n1, none, .mv (.t n38)⟩, ⟨some n2, none, .mv (.t n39)⟩])
 (.seq (.ops [⟨some n40, none, .mv (.t n2)⟩, ⟨some n12, none, .mv (.t n40)⟩])
 .ret)))))
def x167 : XFn := ⟨a167, n41, [(.t n12)], c167⟩
def a168 : Ann := ⟨[(n3, n6, n2)], []⟩
def c168 : ICode :=
 (.seq (.ops [⟨some n4, none, .load none (.t n1)⟩, ⟨some n5, none, .len (.t n4)⟩, ⟨some n6, none, .bin .sub (.t n5) (k n1)⟩, ⟨some n3, none, .mv (.t n6)⟩])
 (.block n0 (.loop (.seq (.seq (.ops [⟨some n7, none, .mv (.t n3)⟩, ⟨some n8, none, .bin .geq (.t n7) (k n0)⟩])
 (.cond (.t n8) .skip
 (.exit n0)))
 (.seq (.block n1 (.seq (.ops [⟨some n11, none, .mv (.t n0)⟩, ⟨some n12, none, .mv (.t n3)⟩, ⟨some n13, none, .load none (.t n1)⟩, ⟨some n14, none, .mv (.t n3)⟩, ⟨some n15, none, .iaddr n1 (.t n13) (.t n14)⟩, ⟨some n16, none, .load none (.t n15)⟩, ⟨some n17, none, .call (.t n11) [(.t n12), (.t n16)] .raw⟩, ⟨some n18, none, .un .not (.t n17)⟩])
 (.cond (.t n18) .ret
 .skip)))
 (.ops [⟨some n9, none, .mv (.t n3)⟩, ⟨some n10, none, .bin .sub (.t n9) (k n1)⟩, ⟨some n3, none, .mv (.t n10)⟩]))))))
def x168 : XFn := ⟨a168, n19, [], c168⟩
def a169 : Ann := ⟨[(n1, n2, n2)], []⟩
def c169 : ICode :=
 (.seq (.ops [⟨some n4, none, .mv (.c (.d (.bool false)))⟩])
 (.seq (.ops [⟨some n5, none, .mv (.t n0)⟩, ⟨some n6, none, .mv (.t n1)⟩, ⟨some n7, none, .call (.c (.fn n185 [] [])) [(.t n5), (.t n6)] .raw⟩, ⟨some n8, none, .bin .geq (.t n7) (k n0)⟩, ⟨some n4, none, .mv (.t n8)⟩])
 .ret))
def x169 : XFn := ⟨a169, n9, [(.t n4)], c169⟩
def a170 : Ann := ⟨[(n1, n2, n2)], []⟩
def c170 : ICode :=
 (.seq (.ops [⟨some n2, none, .box (.t n0)⟩, ⟨some n3, none, .mv (.c (.d (.bool false)))⟩])
 (.seq (.ops [⟨some n4, none, .load none (.t n1)⟩, ⟨some n5, none, .load (some n2) (.t n2)⟩, ⟨some n6, none, .call (.t n4) [(.t n5)] .raw⟩, ⟨some n7, none, .un .not (.t n6)⟩, ⟨some n3, none, .mv (.t n7)⟩])
 .ret))
def x170 : XFn := ⟨a170, n8, [(.t n3)], c170⟩
def a171 : Ann := ⟨[], []⟩
def c171 : ICode :=
 (.seq (.ops [⟨some n2, none, .mv (k n0)⟩])
 (.seq (.ops [⟨some n3, none, .mv (.t n0)⟩, ⟨some n4, none, .bin .sub (.c (.d (.int .i64 (.l (.negSucc n0))))) (.t n3)⟩, ⟨some n2, none, .mv (.t n4)⟩])
 .ret))
def x171 : XFn := ⟨a171, n5, [(.t n2)], c171⟩
def a172 : Ann := ⟨[(n1, n2, n2)], []⟩
def c172 : ICode :=
 (.seq (.ops [⟨some n3, none, .box (.t n1)⟩, ⟨some n4, none, .mv (.c (.d (.bool false)))⟩])
 (.seq (.ops [⟨some n5, none, .mv (.t n0)⟩, ⟨some n6, none, .mkfn n186 [] [(.t n3)]⟩, ⟨some n7, none, .call (.c (.fn n143 [] [])) [(.t n5), (.t n6)] .raw⟩, ⟨some n8, none, .un .not (.t n7)⟩, ⟨some n4, none, .mv (.t n8)⟩])
 .ret))
def x172 : XFn := ⟨a172, n9, [(.t n4)], c172⟩
def a173 : Ann := ⟨[], []⟩
def c173 : ICode :=
 (.seq (.ops [⟨some n3, none, .mv (.c (.d (.bool false)))⟩])
 (.seq (.ops [⟨some n4, none, .mv (.t n0)⟩, ⟨some n5, none, .load none (.t n1)⟩, ⟨some n6, none, .iaddr n1 (.t n5) (k n0)⟩, ⟨some n7, none, .load none (.t n6)⟩, ⟨some n8, none, .bin .eql (.t n4) (.t n7)⟩, ⟨some n3, none, .mv (.t n8)⟩])
 .ret))
def x173 : XFn := ⟨a173, n9, [(.t n3)], c173⟩
def a174 : Ann := ⟨[(n0, n3, n2), (n1, n3, n2), (n2, n1, n2)], []⟩
def c174 : ICode :=
 (.seq (.ops [⟨some n4, none, .mv (.t n0)⟩, ⟨some n5, none, .mv (.t n1)⟩, ⟨some n6, none, .slice n1 (.t n4) none (some (.t n5)) none⟩, ⟨some n7, none, .call (.c (.fn n187 [] [])) [(.t n6)] .raw⟩])
 (.seq (.ops [⟨some n8, none, .mv (.t n0)⟩, ⟨some n9, none, .mv (.t n1)⟩, ⟨some n10, none, .slice n1 (.t n8) (some (.t n9)) none none⟩, ⟨some n11, none, .call (.c (.fn n187 [] [])) [(.t n10)] .raw⟩])
 (.ops [⟨some n12, none, .mv (.t n0)⟩, ⟨some n13, none, .call (.c (.fn n187 [] [])) [(.t n12)] .raw⟩])))
def x174 : XFn := ⟨a174, n14, [], c174⟩
def a175 : Ann := ⟨[(n4, n5, n2)], []⟩
def c175 : ICode :=
 (.seq (.ops [⟨some n4, none, .mv (k n0)⟩])
 (.seq (.seq (.ops [⟨some n6, none, .mv (.t n0)⟩, ⟨some n7, none, .len (.t n6)⟩, ⟨some n8, none, .mv (k n0)⟩])
 (.block n0 (.loop (.seq (.ops [⟨some n9, none, .bin .lss (.t n8) (.t n7)⟩])
 (.seq (.cond (.t n9) .skip
 (.exit n0))
 (.seq (.block n1 (.seq (.ops [⟨some n10, none, .mv (.t n8)⟩, ⟨some n5, none, .mv (.t n10)⟩])
 (.seq (.ops [⟨some n11, none, .mv (.t n1)⟩, ⟨some n12, none, .mv (.t n0)⟩, ⟨some n13, none, .mv (.t n5)⟩, ⟨some n14, none, .iaddr n1 (.t n12) (.t n13)⟩, ⟨some n15, none, .load none (.t n14)⟩, ⟨some n16, none, .call (.t n11) [(.t n15)] .raw⟩])
 (.cond (.t n16) (.seq (.ops [⟨some n17, none, .mv (.t n5)⟩, ⟨some n4, none, .mv (.t n17)⟩])
 .ret)
 .skip))))
 (.ops [⟨some n18, none, .bin .add (.t n8) (k n1)⟩, ⟨some n8, none, .mv (.t n18)⟩])))))))
 (.seq (.ops [⟨some n4, none, .mv (.c (.d (.int .i64 (.l (.negSucc n0)))))⟩])
 .ret)))
def x175 : XFn := ⟨a175, n19, [(.t n4)], c175⟩
def a176 : Ann := ⟨[], []⟩
def c176 : ICode :=
 (.seq (.ops [⟨some n4, none, .mv (.c (.d (.bool false)))⟩])
 (.seq (.ops [⟨some n5, none, .mv (.t n0)⟩, ⟨some n6, none, .load none (.t n1)⟩, ⟨some n7, none, .bin .lss (.t n5) (.t n6)⟩, ⟨some n8, none, .mv (.t n7)⟩, ⟨some n9, (some (n8, false)), .mv (.t n0)⟩, ⟨some n10, (some (n8, false)), .load none (.t n2)⟩, ⟨some n11, (some (n8, false)), .bin .gtr (.t n9) (.t n10)⟩, ⟨some n12, none, .pick (.t n8) (.c (.d (.bool true))) (.t n11)⟩, ⟨some n4, none, .mv (.t n12)⟩])
 .ret))
def x176 : XFn := ⟨a176, n13, [(.t n4)], c176⟩
def a177 : Ann := ⟨[(n4, n3, n2), (n6, n3, n2), (n8, n3, n2), (n10, n3, n2), (n12, n3, n2), (n16, n3, n2), (n17, n12, n0), (n18, n4, n2), (n20, n4, n2), (n26, n4, n2), (n29, n5, n2)], []⟩
def c177 : ICode :=
 (.seq (.ops [⟨some n8, none, .mv (.c (.d (.bool true)))⟩])
 (.seq (.ops [⟨some n9, none, .mv (.c (.d (.bool true)))⟩])
 (.block n0 (.loop (.block n1 (.seq (.ops [⟨some n19, none, .mv (.t n2)⟩, ⟨some n20, none, .mv (.t n1)⟩, ⟨some n21, none, .bin .sub (.t n19) (.t n20)⟩, ⟨some n10, none, .mv (.t n21)⟩])
 (.seq (.seq (.ops [⟨some n22, none, .mv (.t n10)⟩, ⟨some n23, none, .bin .leq (.t n22) (k n12)⟩])
 (.cond (.t n23) (.seq (.ops [⟨some n24, none, .mv (.t n0)⟩, ⟨some n25, none, .mv (.t n1)⟩, ⟨some n26, none, .mv (.t n2)⟩, ⟨some n27, none, .call (.c (.fn n188 [] [])) [(.t n24), (.t n25), (.t n26)] .raw⟩])
 .ret)
 .skip))
 (.seq (.seq (.ops [⟨some n28, none, .mv (.t n3)⟩, ⟨some n29, none, .bin .eql (.t n28) (k n0)⟩])
 (.cond (.t n29) (.seq (.ops [⟨some n30, none, .mv (.t n0)⟩, ⟨some n31, none, .mv (.t n1)⟩, ⟨some n32, none, .mv (.t n2)⟩, ⟨some n33, none, .call (.c (.fn n189 [] [])) [(.t n30), (.t n31), (.t n32)] .raw⟩])
 .ret)
 .skip))
 (.seq (.seq (.ops [⟨some n34, none, .mv (.t n8)⟩, ⟨some n35, none, .un .not (.t n34)⟩])
 (.cond (.t n35) (.seq (.ops [⟨some n36, none, .mv (.t n0)⟩, ⟨some n37, none, .mv (.t n1)⟩, ⟨some n38, none, .mv (.t n2)⟩, ⟨some n39, none, .call (.c (.fn n190 [] [])) [(.t n36), (.t n37), (.t n38)] .raw⟩])
 (.ops [⟨some n40, none, .mv (.t n3)⟩, ⟨some n41, none, .bin .sub (.t n40) (k n1)⟩, ⟨some n3, none, .mv (.t n41)⟩]))
 .skip))
 (.seq (.ops [⟨some n43, none, .mv (.t n0)⟩, ⟨some n44, none, .mv (.t n1)⟩, ⟨some n45, none, .mv (.t n2)⟩, ⟨some n46, none, .call (.c (.fn n191 [] [])) [(.t n43), (.t n44), (.t n45)] .raw⟩, ⟨some n42, none, .mv (.t n46)⟩, ⟨some n47, none, .extract (.t n42) n0⟩, ⟨some n48, none, .extract (.t n42) n1⟩, ⟨some n11, none, .mv (.t n47)⟩, ⟨some n12, none, .mv (.t n48)⟩])
 (.seq (.seq (.ops [⟨some n49, none, .mv (.t n12)⟩, ⟨some n50, none, .bin .eql (.t n49) (k n2)⟩])
 (.cond (.t n50) (.seq (.ops [⟨some n51, none, .mv (.t n0)⟩, ⟨some n52, none, .mv (.t n1)⟩, ⟨some n53, none, .mv (.t n2)⟩, ⟨some n54, none, .call (.c (.fn n192 [] [])) [(.t n51), (.t n52), (.t n53)] .raw⟩])
 (.seq (.ops [⟨some n55, none, .mv (.t n2)⟩, ⟨some n56, none, .bin .sub (.t n55) (k n1)⟩, ⟨some n57, none, .mv (.t n11)⟩, ⟨some n58, none, .mv (.t n1)⟩, ⟨some n59, none, .bin .sub (.t n57) (.t n58)⟩, ⟨some n60, none, .bin .sub (.t n56) (.t n59)⟩, ⟨some n11, none, .mv (.t n60)⟩])
 (.ops [⟨some n12, none, .mv (k n1)⟩])))
 .skip))
 (.seq (.seq (.ops [⟨some n61, none, .mv (.t n8)⟩, ⟨some n62, none, .mv (.t n61)⟩, ⟨some n63, (some (n62, true)), .mv (.t n9)⟩, ⟨some n64, none, .pick (.t n62) (.t n63) (.c (.d (.bool false)))⟩, ⟨some n65, none, .mv (.t n64)⟩, ⟨some n66, (some (n65, true)), .mv (.t n12)⟩, ⟨some n67, (some (n65, true)), .bin .eql (.t n66) (k n1)⟩, ⟨some n68, none, .pick (.t n65) (.t n67) (.c (.d (.bool false)))⟩])
 (.cond (.t n68) (.seq (.ops [⟨some n69, none, .mv (.t n0)⟩, ⟨some n70, none, .mv (.t n1)⟩, ⟨some n71, none, .mv (.t n2)⟩, ⟨some n72, none, .call (.c (.fn n193 [] [])) [(.t n69), (.t n70), (.t n71)] .raw⟩])
 (.cond (.t n72) .ret
 .skip))
 .skip))
 (.seq (.seq (.draw n0 [⟨⟨some n73, none, .mv (.t n1)⟩, n0, n0, [], [], false, false⟩, ⟨⟨some n74, none, .bin .gtr (.t n73) (k n0)⟩, n1, n0, [], [], false, false⟩, ⟨⟨some n75, none, .mv (.t n74)⟩, n2, n0, [], [], false, false⟩, ⟨⟨some n76, (some (n75, true)), .mv (.t n0)⟩, n3, n0, [], [], false, false⟩, ⟨⟨some n77, (some (n75, true)), .mv (.t n1)⟩, n4, n0, [], [], false, false⟩, ⟨⟨some n78, (some (n75, true)), .bin .sub (.t n77) (k n1)⟩, n5, n0, [], [], false, false⟩, ⟨⟨some n79, (some (n75, true)), .iaddr n1 (.t n76) (.t n78)⟩, n6, n0, [], [], false, false⟩, ⟨⟨some n81, (some (n75, true)), .mv (.t n0)⟩, n8, n0, [], [], false, false⟩, ⟨⟨some n82, (some (n75, true)), .mv (.t n11)⟩, n9, n0, [], [], false, false⟩, ⟨⟨some n83, (some (n75, true)), .iaddr n1 (.t n81) (.t n82)⟩, n10, n0, [], [], false, false⟩, ⟨⟨some n80, (some (n75, true)), .load none (.t n79)⟩, n7, n0, [], [], false, false⟩, ⟨⟨some n84, (some (n75, true)), .load none (.t n83)⟩, n11, n0, [], [], false, false⟩, ⟨⟨some n85, (some (n75, true)), .call (.c (.fn n194 [] [])) [(.t n80), (.t n84)] .borrow⟩, n12, n0, [], [n7, n11, n2, n6, n3, n5, n1, n0, n4, n10, n8, n9], true, false⟩, ⟨⟨some n86, (some (n75, true)), .un .not (.t n85)⟩, n13, n0, [], [], false, false⟩, ⟨⟨some n87, none, .pick (.t n75) (.t n86) (.c (.d (.bool false)))⟩, n14, n0, [], [], false, false⟩])
 (.cond (.t n87) (.seq (.ops [⟨some n88, none, .mv (.t n0)⟩, ⟨some n89, none, .mv (.t n1)⟩, ⟨some n90, none, .mv (.t n2)⟩, ⟨some n91, none, .mv (.t n11)⟩, ⟨some n92, none, .call (.c (.fn n195 [] [])) [(.t n88), (.t n89), (.t n90), (.t n91)] .raw⟩, ⟨some n13, none, .mv (.t n92)⟩])
 (.seq (.ops [⟨some n93, none, .mv (.t n13)⟩, ⟨some n1, none, .mv (.t n93)⟩])
 (.exit n1)))
 .skip))
 (.seq (.ops [⟨some n95, none, .mv (.t n0)⟩, ⟨some n96, none, .mv (.t n1)⟩, ⟨some n97, none, .mv (.t n2)⟩, ⟨some n98, none, .mv (.t n11)⟩, ⟨some n99, none, .call (.c (.fn n196 [] [])) [(.t n95), (.t n96), (.t n97), (.t n98)] .raw⟩, ⟨some n94, none, .mv (.t n99)⟩, ⟨some n100, none, .extract (.t n94) n0⟩, ⟨some n101, none, .extract (.t n94) n1⟩, ⟨some n14, none, .mv (.t n100)⟩, ⟨some n15, none, .mv (.t n101)⟩])
 (.seq (.ops [⟨some n102, none, .mv (.t n15)⟩, ⟨some n9, none, .mv (.t n102)⟩])
 (.seq (.ops [⟨some n103, none, .mv (.t n14)⟩, ⟨some n104, none, .mv (.t n1)⟩, ⟨some n105, none, .bin .sub (.t n103) (.t n104)⟩, ⟨some n106, none, .mv (.t n2)⟩, ⟨some n107, none, .mv (.t n14)⟩, ⟨some n108, none, .bin .sub (.t n106) (.t n107)⟩, ⟨some n16, none, .mv (.t n105)⟩, ⟨some n17, none, .mv (.t n108)⟩])
 (.seq (.ops [⟨some n109, none, .mv (.t n10)⟩, ⟨some n110, none, .bin .quo (.t n109) (k n8)⟩, ⟨some n18, none, .mv (.t n110)⟩])
 (.seq (.ops [⟨some n111, none, .mv (.t n16)⟩, ⟨some n112, none, .mv (.t n17)⟩, ⟨some n113, none, .bin .lss (.t n111) (.t n112)⟩])
 (.cond (.t n113) (.seq (.ops [⟨some n114, none, .mv (.t n16)⟩, ⟨some n115, none, .mv (.t n18)⟩, ⟨some n116, none, .bin .geq (.t n114) (.t n115)⟩, ⟨some n8, none, .mv (.t n116)⟩])
 (.seq (.ops [⟨some n117, none, .mv (.t n0)⟩, ⟨some n118, none, .mv (.t n1)⟩, ⟨some n119, none, .mv (.t n14)⟩, ⟨some n120, none, .mv (.t n3)⟩, ⟨some n121, none, .call (.c (.fn n177 [] [])) [(.t n117), (.t n118), (.t n119), (.t n120)] .raw⟩])
 (.ops [⟨some n122, none, .mv (.t n14)⟩, ⟨some n123, none, .bin .add (.t n122) (k n1)⟩, ⟨some n1, none, .mv (.t n123)⟩])))
 (.seq (.ops [⟨some n124, none, .mv (.t n17)⟩, ⟨some n125, none, .mv (.t n18)⟩, ⟨some n126, none, .bin .geq (.t n124) (.t n125)⟩, ⟨some n8, none, .mv (.t n126)⟩])
 (.seq (.ops [⟨some n127, none, .mv (.t n0)⟩, ⟨some n128, none, .mv (.t n14)⟩, ⟨some n129, none, .bin .add (.t n128) (k n1)⟩, ⟨some n130, none, .mv (.t n2)⟩, ⟨some n131, none, .mv (.t n3)⟩, ⟨some n132, none, .call (.c (.fn n177 [] [])) [(.t n127), (.t n129), (.t n130), (.t n131)] .raw⟩])
 (.ops [⟨some n133, none, .mv (.t n14)⟩, ⟨some n2, none, .mv (.t n133)⟩]))))))))))))))))))))))
def x177 : XFn := ⟨a177, n134, [], c177⟩
def a178 : Ann := ⟨[(n2, n8, n0), (n4, n3, n2)], []⟩
def c178 : ICode :=
 (.seq (.ops [⟨some n2, none, .box (.t n0)⟩, ⟨some n3, none, .box (.t n1)⟩, ⟨some n4, none, .mv (.c (.d (.bool false)))⟩])
 (.seq (.ops [⟨some n6, none, .faddr n2 (.t n2)⟩, ⟨some n7, none, .faddr n3 (.t n6)⟩, ⟨some n8, none, .load none (.t n7)⟩, ⟨some n9, none, .load none (.t n3)⟩, ⟨some n10, none, .iaddr n2 (.t n8) (.t n9)⟩, ⟨some n11, none, .load (some n2) (.t n10)⟩, ⟨some n5, none, .alloc [(.int .i64 (.l (i n0))), .nil]⟩, ⟨none, none, .store n2 (.t n5) (.t n11)⟩])
 (.seq (.seq (.draw n0 [⟨⟨some n12, none, .faddr n0 (.t n2)⟩, n0, n0, [], [], false, true⟩, ⟨⟨some n13, none, .faddr n0 (.t n12)⟩, n1, n0, [], [], false, true⟩, ⟨⟨some n17, none, .faddr n0 (.t n5)⟩, n5, n0, [], [], false, false⟩, ⟨⟨some n14, none, .load none (.t n13)⟩, n2, n0, [], [], false, true⟩, ⟨⟨some n15, none, .len (.t n14)⟩, n3, n0, [], [], false, true⟩, ⟨⟨some n16, none, .bin .sub (.t n15) (k n1)⟩, n4, n0, [], [], false, true⟩, ⟨⟨some n18, none, .load none (.t n17)⟩, n6, n0, [], [], false, false⟩, ⟨⟨some n19, none, .bslice n1 n1 [(.int .i64 (.l (i n0)))] [(n0, (.t n18))] false⟩, n7, n0, [], [n6, n5], false, false⟩, ⟨⟨some n20, none, .call (.c (.fn n149 [] [])) [(k n0), (.t n16), (.t n19)] .borrow⟩, n8, n0, [], [n4, n7, n3, n2, n1, n0, n6, n5], true, false⟩, ⟨⟨some n21, none, .un .not (.t n20)⟩, n9, n0, [], [], false, false⟩, ⟨⟨some n22, none, .mv (.t n21)⟩, n10, n0, [], [], false, false⟩, ⟨⟨some n23, (some (n22, false)), .faddr n1 (.t n5)⟩, n11, n0, [], [], false, false⟩, ⟨⟨some n26, (some (n22, false)), .faddr n0 (.t n2)⟩, n14, n0, [], [], false, false⟩, ⟨⟨some n27, (some (n22, false)), .faddr n0 (.t n26)⟩, n15, n0, [], [], false, false⟩, ⟨⟨some n29, (some (n22, false)), .faddr n0 (.t n5)⟩, n17, n0, [], [], false, false⟩, ⟨⟨some n24, (some (n22, false)), .load none (.t n23)⟩, n12, n0, [], [], false, false⟩, ⟨⟨some n25, (some (n22, false)), .len (.t n24)⟩, n13, n0, [], [], false, false⟩, ⟨⟨some n28, (some (n22, false)), .load none (.t n27)⟩, n16, n0, [], [], false, false⟩, ⟨⟨some n30, (some (n22, false)), .load none (.t n29)⟩, n18, n0, [], [], false, false⟩, ⟨⟨some n31, (some (n22, false)), .iaddr n1 (.t n28) (.t n30)⟩, n19, n0, [], [], false, false⟩, ⟨⟨some n32, (some (n22, false)), .load none (.t n31)⟩, n20, n0, [], [], false, false⟩, ⟨⟨some n33, (some (n22, false)), .bin .neq (.t n25) (.t n32)⟩, n21, n0, [], [], false, false⟩, ⟨⟨some n34, none, .pick (.t n22) (.c (.d (.bool true))) (.t n33)⟩, n22, n0, [], [], false, false⟩])
 (.cond (.t n34) (.seq (.ops [⟨some n4, none, .mv (.c (.d (.bool false)))⟩])
 .ret)
 .skip))
 (.seq (.ops [⟨some n35, none, .faddr n1 (.t n5)⟩, ⟨some n36, none, .load none (.t n35)⟩, ⟨some n37, none, .mkfn n197 [] [(.t n2), (.t n3), (.t n5)]⟩, ⟨some n38, none, .call (.c (.fn n172 [] [])) [(.t n36), (.t n37)] .raw⟩, ⟨some n4, none, .mv (.t n38)⟩])
 .ret))))
def x178 : XFn := ⟨a178, n39, [(.t n4)], c178⟩
def a179 : Ann := ⟨[(n2, n1, n0), (n3, n13, n0)], []⟩
def c179 : ICode :=
 (.seq (.ops [⟨some n4, none, .box (.t n0)⟩, ⟨some n8, none, .mv (.c (.d (.bool false)))⟩])
 (.seq (.seq (.ops [⟨some n9, none, .mv (.t n1)⟩, ⟨some n10, none, .bin .lss (.t n9) (k n0)⟩])
 (.cond (.t n10) (.seq (.draw n0 [⟨⟨some n11, none, .mv (.t n1)⟩, n0, n0, [], [], false, false⟩, ⟨⟨some n13, none, .faddr n2 (.t n4)⟩, n2, n0, [], [], false, true⟩, ⟨⟨some n14, none, .faddr n2 (.t n13)⟩, n3, n0, [], [], false, true⟩, ⟨⟨some n15, none, .load none (.t n14)⟩, n4, n0, [], [], false, true⟩, ⟨⟨some n16, none, .len (.t n15)⟩, n5, n0, [], [], false, true⟩, ⟨⟨some n12, none, .call (.c (.fn n171 [] [])) [(.t n11)] .borrow⟩, n1, n0, [], [n0], false, false⟩, ⟨⟨some n17, none, .bin .lss (.t n12) (.t n16)⟩, n6, n0, [], [], false, false⟩, ⟨⟨some n8, none, .mv (.t n17)⟩, n7, n0, [], [], false, false⟩])
 .ret)
 .skip))
 (.seq (.draw n0 [⟨⟨some n18, none, .mv (.t n1)⟩, n0, n0, [], [], false, false⟩, ⟨⟨some n19, none, .mv (.t n2)⟩, n1, n0, [], [], false, false⟩, ⟨⟨some n20, none, .bin .lss (.t n18) (.t n19)⟩, n2, n0, [], [], false, false⟩, ⟨⟨some n21, none, .mv (.t n20)⟩, n3, n0, [], [], false, false⟩, ⟨⟨some n22, (some (n21, true)), .faddr n0 (.t n4)⟩, n4, n0, [], [], false, false⟩, ⟨⟨some n24, (some (n21, true)), .faddr n2 (.t n4)⟩, n6, n0, [], [], false, false⟩, ⟨⟨some n25, (some (n21, true)), .faddr n3 (.t n24)⟩, n7, n0, [], [], false, false⟩, ⟨⟨some n27, (some (n21, true)), .mv (.t n1)⟩, n9, n0, [], [], false, false⟩, ⟨⟨some n32, (some (n21, true)), .mv (.t n3)⟩, n14, n0, [], [], false, true⟩, ⟨⟨some n23, (some (n21, true)), .load (some n2) (.t n22)⟩, n5, n0, [], [], false, false⟩, ⟨⟨some n26, (some (n21, true)), .load none (.t n25)⟩, n8, n0, [], [], false, false⟩, ⟨⟨some n28, (some (n21, true)), .iaddr n2 (.t n26) (.t n27)⟩, n10, n0, [], [], false, false⟩, ⟨⟨some n29, (some (n21, true)), .faddr n0 (.t n28)⟩, n11, n0, [], [], false, false⟩, ⟨⟨some n30, (some (n21, true)), .load none (.t n29)⟩, n12, n0, [], [], false, false⟩, ⟨⟨some n31, (some (n21, true)), .call (.c (.fn n198 [] [])) [(.t n23), (.t n30)] .borrow⟩, n13, n0, [], [n5, n12, n3, n4, n2, n0, n1, n11, n10, n8, n9, n7, n6], false, false⟩, ⟨⟨some n33, (some (n21, true)), .bin .gtr (.t n31) (.t n32)⟩, n15, n0, [], [], false, false⟩, ⟨⟨some n34, none, .pick (.t n21) (.t n33) (.c (.d (.bool false)))⟩, n16, n0, [], [], false, false⟩, ⟨⟨some n8, none, .mv (.t n34)⟩, n17, n0, [], [], false, false⟩])
 .ret)))
def x179 : XFn := ⟨a179, n35, [(.t n8)], c179⟩
def a180 : Ann := ⟨[(n1, n10, n0)], []⟩
def c180 : ICode :=
 (.seq (.ops [⟨some n2, none, .box (.t n0)⟩, ⟨some n3, none, .box (.t n1)⟩, ⟨some n4, none, .mv (.c (.d (.bool false)))⟩])
 (.seq (.ops [⟨some n5, none, .faddr n0 (.t n2)⟩, ⟨some n6, none, .load none (.t n5)⟩, ⟨some n7, none, .faddr n0 (.t n3)⟩, ⟨some n8, none, .load none (.t n7)⟩, ⟨some n9, none, .bin .eql (.t n6) (.t n8)⟩, ⟨some n10, none, .mv (.t n9)⟩, ⟨some n11, (some (n10, true)), .faddr n1 (.t n2)⟩, ⟨some n12, (some (n10, true)), .load none (.t n11)⟩, ⟨some n13, (some (n10, true)), .faddr n1 (.t n3)⟩, ⟨some n14, (some (n10, true)), .load none (.t n13)⟩, ⟨some n15, (some (n10, true)), .call (.c (.fn n122 [] [])) [(.t n12), (.t n14)] .borrow⟩, ⟨some n16, none, .pick (.t n10) (.t n15) (.c (.d (.bool false)))⟩, ⟨some n4, none, .mv (.t n16)⟩])
 .ret))
def x180 : XFn := ⟨a180, n17, [(.t n4)], c180⟩
def a181 : Ann := ⟨[], []⟩
def c181 : ICode :=
 (.seq (.ops [⟨some n4, none, .mv (.c (.d (.bool false)))⟩])
 (.seq (.seq (.ops [⟨some n6, none, .mv (.t n0)⟩, ⟨some n7, none, .len (.t n6)⟩, ⟨some n8, none, .mv (.t n1)⟩, ⟨some n9, none, .len (.t n8)⟩, ⟨some n10, none, .bin .neq (.t n7) (.t n9)⟩])
 (.cond (.t n10) (.seq (.ops [⟨some n4, none, .mv (.c (.d (.bool false)))⟩])
 .ret)
 .skip))
 (.seq (.seq (.ops [⟨some n11, none, .mv (.t n0)⟩, ⟨some n12, none, .len (.t n11)⟩, ⟨some n13, none, .mv (k n0)⟩])
 (.block n0 (.loop (.seq (.ops [⟨some n14, none, .bin .lss (.t n13) (.t n12)⟩])
 (.seq (.cond (.t n14) .skip
 (.exit n0))
 (.seq (.block n1 (.seq (.ops [⟨some n15, none, .mv (.t n13)⟩, ⟨some n5, none, .mv (.t n15)⟩])
 (.seq (.draw n0 [⟨⟨some n16, none, .mv (.t n0)⟩, n0, n0, [], [], false, false⟩, ⟨⟨some n17, none, .mv (.t n5)⟩, n1, n0, [], [], false, false⟩, ⟨⟨some n18, none, .iaddr n2 (.t n16) (.t n17)⟩, n2, n0, [], [], false, false⟩, ⟨⟨some n20, none, .mv (.t n1)⟩, n4, n0, [], [], false, false⟩, ⟨⟨some n21, none, .mv (.t n5)⟩, n5, n0, [], [], false, false⟩, ⟨⟨some n22, none, .iaddr n2 (.t n20) (.t n21)⟩, n6, n0, [], [], false, false⟩, ⟨⟨some n19, none, .load (some n2) (.t n18)⟩, n3, n0, [], [], false, false⟩, ⟨⟨some n23, none, .load (some n2) (.t n22)⟩, n7, n0, [], [], false, false⟩, ⟨⟨some n24, none, .aeq true [.u8, .i64] (.t n19) (.t n23)⟩, n8, n0, [], [], false, false⟩])
 (.cond (.t n24) (.seq (.ops [⟨some n4, none, .mv (.c (.d (.bool false)))⟩])
 .ret)
 .skip))))
 (.ops [⟨some n25, none, .bin .add (.t n13) (k n1)⟩, ⟨some n13, none, .mv (.t n25)⟩])))))))
 (.seq (.ops [⟨some n4, none, .mv (.c (.d (.bool true)))⟩])
 .ret))))
def x181 : XFn := ⟨a181, n26, [(.t n4)], c181⟩
def a182 : Ann := ⟨[(n7, n3, n2)], []⟩
def c182 : ICode :=
 (.seq (.ops [⟨some n6, none, .mv (.c (.d (.bool false)))⟩])
 (.seq (.seq (.ops [⟨some n10, none, .mv (.t n0)⟩, ⟨some n11, none, .len (.t n10)⟩, ⟨some n12, none, .mv (.t n1)⟩, ⟨some n13, none, .len (.t n12)⟩, ⟨some n14, none, .bin .neq (.t n11) (.t n13)⟩])
 (.cond (.t n14) (.seq (.ops [⟨some n6, none, .mv (.c (.d (.bool false)))⟩])
 .ret)
 .skip))
 (.seq (.seq (.ops [⟨some n15, none, .mv (.t n0)⟩, ⟨some n16, none, .len (.t n15)⟩, ⟨some n17, none, .mv (k n0)⟩])
 (.block n0 (.loop (.seq (.ops [⟨some n18, none, .bin .lss (.t n17) (.t n16)⟩])
 (.seq (.cond (.t n18) .skip
 (.exit n0))
 (.seq (.block n1 (.seq (.ops [⟨some n19, none, .mv (.t n17)⟩, ⟨some n20, none, .iaddr n2 (.t n15) (.t n17)⟩, ⟨some n21, none, .load (some n2) (.t n20)⟩, ⟨some n8, none, .alloc [(.int .i64 (.l (i n0))), .nil]⟩, ⟨some n7, none, .mv (.t n19)⟩, ⟨none, none, .store n2 (.t n8) (.t n21)⟩])
 (.seq (.ops [⟨some n22, none, .mv (.t n1)⟩, ⟨some n23, none, .mv (.t n7)⟩, ⟨some n24, none, .iaddr n2 (.t n22) (.t n23)⟩, ⟨some n25, none, .load (some n2) (.t n24)⟩, ⟨some n9, none, .alloc [(.int .i64 (.l (i n0))), .nil]⟩, ⟨none, none, .store n2 (.t n9) (.t n25)⟩])
 (.seq (.ops [⟨some n26, none, .mv (.t n2)⟩, ⟨some n27, none, .load (some n2) (.t n8)⟩, ⟨some n28, none, .load (some n2) (.t n9)⟩, ⟨some n29, none, .call (.t n26) [(.t n27), (.t n28)] .raw⟩, ⟨some n30, none, .un .not (.t n29)⟩])
 (.cond (.t n30) (.seq (.ops [⟨some n6, none, .mv (.c (.d (.bool false)))⟩])
 .ret)
 .skip)))))
 (.ops [⟨some n31, none, .bin .add (.t n17) (k n1)⟩, ⟨some n17, none, .mv (.t n31)⟩])))))))
 (.seq (.ops [⟨some n6, none, .mv (.c (.d (.bool true)))⟩])
 .ret))))
def x182 : XFn := ⟨a182, n32, [(.t n6)], c182⟩
def a183 : Ann := ⟨[(n2, n5, n0), (n2, n8, n2), (n11, n4, n2), (n13, n6, n2)], []⟩
def c183 : ICode :=
 (.seq (.ops [⟨some n6, none, .mv (k n0)⟩])
 (.seq (.seq (.ops [⟨some n13, none, .mv (.t n0)⟩, ⟨some n14, none, .bin .lss (.t n13) (k n0)⟩])
 (.cond (.t n14) (.seq (.draw n0 [⟨⟨some n16, none, .faddr n2 (.t n2)⟩, n1, n0, [], [], false, true⟩, ⟨⟨some n17, none, .faddr n2 (.t n16)⟩, n2, n0, [], [], false, true⟩, ⟨⟨some n19, none, .mv (.t n0)⟩, n4, n0, [], [], false, false⟩, ⟨⟨some n15, none, .load none (.t n1)⟩, n0, n0, [], [], false, true⟩, ⟨⟨some n18, none, .load none (.t n17)⟩, n3, n0, [], [], false, true⟩, ⟨⟨some n20, none, .call (.c (.fn n171 [] [])) [(.t n19)] .borrow⟩, n5, n0, [], [n4], false, false⟩, ⟨⟨some n21, none, .iaddr n2 (.t n18) (.t n20)⟩, n6, n0, [], [], false, false⟩, ⟨⟨some n22, none, .load (some n2) (.t n21)⟩, n7, n0, [], [], false, false⟩, ⟨⟨some n23, none, .call (.c (.fn n138 [] [])) [(.t n15), (.t n22)] .raw⟩, n8, n0, [], [n0, n7, n5, n6, n3, n2, n1, n4], true, false⟩, ⟨⟨some n6, none, .mv (.t n23)⟩, n9, n0, [], [], false, false⟩])
 .ret)
 .skip))
 (.seq (.seq (.ops [⟨some n25, none, .load none (.t n3)⟩, ⟨some n26, none, .mv (.t n0)⟩, ⟨some n27, none, .lookup false [.i64] true (.t n25) (.t n26)⟩, ⟨some n24, none, .mv (.t n27)⟩, ⟨some n28, none, .extract (.t n24) n0⟩, ⟨some n29, none, .extract (.t n24) n1⟩, ⟨some n7, none, .mv (.t n28)⟩, ⟨some n8, none, .mv (.t n29)⟩])
 (.seq (.ops [⟨some n30, none, .mv (.t n8)⟩])
 (.cond (.t n30) (.seq (.ops [⟨some n31, none, .mv (.t n7)⟩, ⟨some n6, none, .mv (.t n31)⟩])
 .ret)
 .skip)))
 (.seq (.ops [⟨some n32, none, .faddr n2 (.t n2)⟩, ⟨some n33, none, .faddr n3 (.t n32)⟩, ⟨some n34, none, .load none (.t n33)⟩, ⟨some n35, none, .mv (.t n0)⟩, ⟨some n36, none, .iaddr n2 (.t n34) (.t n35)⟩, ⟨some n37, none, .load (some n2) (.t n36)⟩, ⟨some n9, none, .alloc [(.int .i64 (.l (i n0))), .nil]⟩, ⟨none, none, .store n2 (.t n9) (.t n37)⟩])
 (.seq (.ops [⟨some n38, none, .faddr n1 (.t n9)⟩, ⟨some n39, none, .load none (.t n38)⟩, ⟨some n40, none, .len (.t n39)⟩, ⟨some n41, none, .mkslice n1 [(.int .i64 (.l (i n0)))] n8 (.t n40)⟩, ⟨some n10, none, .mv (.t n41)⟩])
 (.seq (.seq (.ops [⟨some n42, none, .faddr n1 (.t n9)⟩, ⟨some n43, none, .load none (.t n42)⟩, ⟨some n44, none, .len (.t n43)⟩, ⟨some n45, none, .mv (k n0)⟩])
 (.block n0 (.loop (.seq (.ops [⟨some n46, none, .bin .lss (.t n45) (.t n44)⟩])
 (.seq (.cond (.t n46) .skip
 (.exit n0))
 (.seq (.block n1 (.seq (.ops [⟨some n47, none, .mv (.t n45)⟩, ⟨some n48, none, .iaddr n1 (.t n43) (.t n45)⟩, ⟨some n49, none, .load none (.t n48)⟩, ⟨some n11, none, .mv (.t n47)⟩, ⟨some n12, none, .mv (.t n49)⟩])
 (.ops [⟨some n50, none, .mv (.t n10)⟩, ⟨some n51, none, .mv (.t n11)⟩, ⟨some n52, none, .load none (.t n4)⟩, ⟨some n53, none, .mv (.t n12)⟩, ⟨some n54, none, .call (.t n52) [(.t n53)] .raw⟩, ⟨some n55, none, .iaddr n1 (.t n50) (.t n51)⟩, ⟨none, none, .store n1 (.t n55) (.t n54)⟩])))
 (.ops [⟨some n56, none, .bin .add (.t n45) (k n1)⟩, ⟨some n45, none, .mv (.t n56)⟩])))))))
 (.seq (.draw n0 [⟨⟨some n58, none, .mv (.t n0)⟩, n1, n0, [], [], false, true⟩, ⟨⟨some n60, none, .faddr n0 (.t n9)⟩, n3, n0, [], [], false, false⟩, ⟨⟨some n62, none, .mv (.t n10)⟩, n5, n0, [], [], false, false⟩, ⟨⟨some n57, none, .load none (.t n3)⟩, n0, n0, [], [], false, true⟩, ⟨⟨some n59, none, .load none (.t n1)⟩, n2, n0, [], [], false, false⟩, ⟨⟨some n61, none, .load none (.t n60)⟩, n4, n0, [], [], false, false⟩, ⟨⟨some n63, none, .call (.c (.fn n139 [] [])) [(.t n59), (.t n61), (.t n62)] .raw⟩, n6, n0, [], [n2, n4, n5, n3], false, false⟩, ⟨⟨none, none, .mapupd false [.i64] (.t n57) (.t n58) (.t n63)⟩, n7, n0, [], [n0, n1, n6, n2, n3, n4, n5], true, false⟩])
 (.seq (.ops [⟨some n64, none, .load none (.t n3)⟩, ⟨some n65, none, .mv (.t n0)⟩, ⟨some n66, none, .lookup false [.i64] false (.t n64) (.t n65)⟩, ⟨some n6, none, .mv (.t n66)⟩])
 .ret))))))))
def x183 : XFn := ⟨a183, n67, [(.t n6)], c183⟩
def a184 : Ann := ⟨[(n1, n9, n2)], []⟩
def c184 : ICode :=
 (.seq (.ops [⟨some n10, none, .mv (k n0)⟩, ⟨some n11, none, .mv (k n0)⟩])
 (.seq (.seq (.draw n0 [⟨⟨some n12, none, .mv (.t n4)⟩, n0, n0, [], [], false, false⟩, ⟨⟨some n13, none, .mv (.t n0)⟩, n1, n0, [], [], false, false⟩, ⟨⟨some n14, none, .mv (.t n2)⟩, n2, n0, [], [], false, false⟩, ⟨⟨some n15, none, .iaddr n2 (.t n13) (.t n14)⟩, n3, n0, [], [], false, false⟩, ⟨⟨some n17, none, .mv (.t n0)⟩, n5, n0, [], [], false, false⟩, ⟨⟨some n18, none, .mv (.t n1)⟩, n6, n0, [], [], false, false⟩, ⟨⟨some n19, none, .iaddr n2 (.t n17) (.t n18)⟩, n7, n0, [], [], false, false⟩, ⟨⟨some n16, none, .load (some n2) (.t n15)⟩, n4, n0, [], [], false, false⟩, ⟨⟨some n20, none, .load (some n2) (.t n19)⟩, n8, n0, [], [], false, false⟩, ⟨⟨some n21, none, .call (.t n12) [(.t n16), (.t n20)] .raw⟩, n9, n0, [], [n0, n4, n8, n3, n1, n2, n7, n5, n6], true, false⟩, ⟨⟨some n22, none, .bin .lss (.t n21) (k n0)⟩, n10, n0, [], [], false, false⟩])
 (.cond (.t n22) (.seq (.ops [⟨some n23, none, .mv (.t n3)⟩, ⟨some n24, none, .nilchk (.t n23)⟩, ⟨some n25, none, .load none (.t n24)⟩, ⟨some n26, none, .bin .add (.t n25) (k n1)⟩, ⟨some n27, none, .nilchk (.t n23)⟩, ⟨none, none, .store n1 (.t n27) (.t n26)⟩])
 (.seq (.ops [⟨some n28, none, .mv (.t n2)⟩, ⟨some n29, none, .mv (.t n1)⟩, ⟨some n10, none, .mv (.t n28)⟩, ⟨some n11, none, .mv (.t n29)⟩])
 .ret))
 .skip))
 (.seq (.ops [⟨some n30, none, .mv (.t n1)⟩, ⟨some n31, none, .mv (.t n2)⟩, ⟨some n10, none, .mv (.t n30)⟩, ⟨some n11, none, .mv (.t n31)⟩])
 .ret)))
def x184 : XFn := ⟨a184, n32, [(.t n10), (.t n11)], c184⟩
def a185 : Ann := ⟨[(n4, n5, n2)], []⟩
def c185 : ICode :=
 (.seq (.ops [⟨some n4, none, .mv (k n0)⟩])
 (.seq (.seq (.ops [⟨some n6, none, .mv (.t n0)⟩, ⟨some n7, none, .len (.t n6)⟩, ⟨some n8, none, .mv (k n0)⟩])
 (.block n0 (.loop (.seq (.ops [⟨some n9, none, .bin .lss (.t n8) (.t n7)⟩])
 (.seq (.cond (.t n9) .skip
 (.exit n0))
 (.seq (.block n1 (.seq (.ops [⟨some n10, none, .mv (.t n8)⟩, ⟨some n5, none, .mv (.t n10)⟩])
 (.seq (.ops [⟨some n11, none, .mv (.t n1)⟩, ⟨some n12, none, .mv (.t n0)⟩, ⟨some n13, none, .mv (.t n5)⟩, ⟨some n14, none, .iaddr n2 (.t n12) (.t n13)⟩, ⟨some n15, none, .load (some n2) (.t n14)⟩, ⟨some n16, none, .call (.t n11) [(.t n15)] .raw⟩])
 (.cond (.t n16) (.seq (.ops [⟨some n17, none, .mv (.t n5)⟩, ⟨some n4, none, .mv (.t n17)⟩])
 .ret)
 .skip))))
 (.ops [⟨some n18, none, .bin .add (.t n8) (k n1)⟩, ⟨some n8, none, .mv (.t n18)⟩])))))))
 (.seq (.ops [⟨some n4, none, .mv (.c (.d (.int .i64 (.l (.negSucc n0)))))⟩])
 .ret)))
def x185 : XFn := ⟨a185, n19, [(.t n4)], c185⟩
def a186 : Ann := ⟨[(n1, n2, n2)], []⟩
def c186 : ICode :=
 (.seq (.ops [⟨some n3, none, .mv (.c (.d (.bool false)))⟩])
 (.seq (.ops [⟨some n4, none, .load none (.t n1)⟩, ⟨some n5, none, .mv (.t n0)⟩, ⟨some n6, none, .call (.t n4) [(.t n5)] .raw⟩, ⟨some n7, none, .un .not (.t n6)⟩, ⟨some n3, none, .mv (.t n7)⟩])
 .ret))
def x186 : XFn := ⟨a186, n8, [(.t n3)], c186⟩
def a187 : Ann := ⟨[], []⟩
def c187 : ICode :=
 (.seq (.ops [⟨some n4, none, .mv (.t n0)⟩, ⟨some n5, none, .len (.t n4)⟩, ⟨some n6, none, .bin .sub (.t n5) (k n1)⟩, ⟨some n2, none, .mv (k n0)⟩, ⟨some n3, none, .mv (.t n6)⟩])
 (.block n0 (.loop (.seq (.seq (.ops [⟨some n7, none, .mv (.t n2)⟩, ⟨some n8, none, .mv (.t n3)⟩, ⟨some n9, none, .bin .lss (.t n7) (.t n8)⟩])
 (.cond (.t n9) .skip
 (.exit n0)))
 (.seq (.block n1 (.draw n0 [⟨⟨some n14, none, .mv (.t n0)⟩, n0, n0, [], [], false, false⟩, ⟨⟨some n15, none, .mv (.t n2)⟩, n1, n0, [], [], false, false⟩, ⟨⟨some n16, none, .mv (.t n0)⟩, n2, n0, [], [], false, true⟩, ⟨⟨some n17, none, .mv (.t n3)⟩, n3, n0, [], [], false, true⟩, ⟨⟨some n18, none, .mv (.t n0)⟩, n4, n0, [], [], false, false⟩, ⟨⟨some n19, none, .mv (.t n3)⟩, n5, n0, [], [], false, false⟩, ⟨⟨some n20, none, .iaddr n1 (.t n18) (.t n19)⟩, n6, n0, [], [], false, false⟩, ⟨⟨some n22, none, .mv (.t n0)⟩, n8, n0, [], [], false, false⟩, ⟨⟨some n23, none, .mv (.t n2)⟩, n9, n0, [], [], false, false⟩, ⟨⟨some n24, none, .iaddr n1 (.t n22) (.t n23)⟩, n10, n0, [], [], false, false⟩, ⟨⟨some n21, none, .load none (.t n20)⟩, n7, n0, [], [], false, false⟩, ⟨⟨some n25, none, .load none (.t n24)⟩, n11, n0, [], [], false, false⟩, ⟨⟨some n26, none, .iaddr n1 (.t n14) (.t n15)⟩, n12, n0, [], [], false, false⟩, ⟨⟨none, none, .store n1 (.t n26) (.t n21)⟩, n13, n0, [], [n12, n7, n0, n1, n4, n5, n6, n11, n10, n8, n9], false, false⟩, ⟨⟨some n27, none, .iaddr n1 (.t n16) (.t n17)⟩, n14, n0, [], [], false, false⟩, ⟨⟨none, none, .store n1 (.t n27) (.t n25)⟩, n15, n0, [], [n14, n11, n13, n0, n1, n2, n3, n4, n5, n6, n7, n8, n9, n10, n12], true, false⟩]))
 (.ops [⟨some n10, none, .mv (.t n2)⟩, ⟨some n11, none, .bin .add (.t n10) (k n1)⟩, ⟨some n12, none, .mv (.t n3)⟩, ⟨some n13, none, .bin .sub (.t n12) (k n1)⟩, ⟨some n2, none, .mv (.t n11)⟩, ⟨some n3, none, .mv (.t n13)⟩]))))))
def x187 : XFn := ⟨a187, n28, [], c187⟩
def a188 : Ann := ⟨[(n4, n13, n0)], []⟩
def c188 : ICode :=
 (.seq (.ops [⟨some n8, none, .mv (.t n1)⟩, ⟨some n9, none, .bin .add (.t n8) (k n1)⟩, ⟨some n6, none, .mv (.t n9)⟩])
 (.block n0 (.loop (.seq (.seq (.ops [⟨some n10, none, .mv (.t n6)⟩, ⟨some n11, none, .mv (.t n2)⟩, ⟨some n12, none, .bin .lss (.t n10) (.t n11)⟩])
 (.cond (.t n12) .skip
 (.exit n0)))
 (.seq (.block n1 (.seq (.ops [⟨some n15, none, .mv (.t n6)⟩, ⟨some n7, none, .mv (.t n15)⟩])
 (.block n2 (.loop (.seq (.seq (.draw n0 [⟨⟨some n16, none, .mv (.t n7)⟩, n0, n0, [], [], false, false⟩, ⟨⟨some n17, none, .mv (.t n1)⟩, n1, n0, [], [], false, false⟩, ⟨⟨some n18, none, .bin .gtr (.t n16) (.t n17)⟩, n2, n0, [], [], false, false⟩, ⟨⟨some n19, none, .mv (.t n18)⟩, n3, n0, [], [], false, false⟩, ⟨⟨some n20, (some (n19, true)), .mv (.t n0)⟩, n4, n0, [], [], false, false⟩, ⟨⟨some n21, (some (n19, true)), .mv (.t n7)⟩, n5, n0, [], [], false, false⟩, ⟨⟨some n22, (some (n19, true)), .iaddr n1 (.t n20) (.t n21)⟩, n6, n0, [], [], false, false⟩, ⟨⟨some n24, (some (n19, true)), .mv (.t n0)⟩, n8, n0, [], [], false, false⟩, ⟨⟨some n25, (some (n19, true)), .mv (.t n7)⟩, n9, n0, [], [], false, false⟩, ⟨⟨some n26, (some (n19, true)), .bin .sub (.t n25) (k n1)⟩, n10, n0, [], [], false, false⟩, ⟨⟨some n27, (some (n19, true)), .iaddr n1 (.t n24) (.t n26)⟩, n11, n0, [], [], false, false⟩, ⟨⟨some n23, (some (n19, true)), .load none (.t n22)⟩, n7, n0, [], [], false, false⟩, ⟨⟨some n28, (some (n19, true)), .load none (.t n27)⟩, n12, n0, [], [], false, false⟩, ⟨⟨some n29, (some (n19, true)), .call (.c (.fn n194 [] [])) [(.t n23), (.t n28)] .borrow⟩, n13, n0, [], [n7, n12, n3, n6, n4, n5, n2, n0, n1, n11, n8, n10, n9], true, false⟩, ⟨⟨some n30, none, .pick (.t n19) (.t n29) (.c (.d (.bool false)))⟩, n14, n0, [], [], false, false⟩])
 (.cond (.t n30) .skip
 (.exit n2)))
 (.seq (.block n3 (.draw n0 [⟨⟨some n33, none, .mv (.t n0)⟩, n0, n0, [], [], false, false⟩, ⟨⟨some n34, none, .mv (.t n7)⟩, n1, n0, [], [], false, false⟩, ⟨⟨some n35, none, .mv (.t n0)⟩, n2, n0, [], [], false, true⟩, ⟨⟨some n36, none, .mv (.t n7)⟩, n3, n0, [], [], false, true⟩, ⟨⟨some n37, none, .bin .sub (.t n36) (k n1)⟩, n4, n0, [], [], false, true⟩, ⟨⟨some n38, none, .mv (.t n0)⟩, n5, n0, [], [], false, false⟩, ⟨⟨some n39, none, .mv (.t n7)⟩, n6, n0, [], [], false, false⟩, ⟨⟨some n40, none, .bin .sub (.t n39) (k n1)⟩, n7, n0, [], [], false, false⟩, ⟨⟨some n41, none, .iaddr n1 (.t n38) (.t n40)⟩, n8, n0, [], [], false, false⟩, ⟨⟨some n43, none, .mv (.t n0)⟩, n10, n0, [], [], false, false⟩, ⟨⟨some n44, none, .mv (.t n7)⟩, n11, n0, [], [], false, false⟩, ⟨⟨some n45, none, .iaddr n1 (.t n43) (.t n44)⟩, n12, n0, [], [], false, false⟩, ⟨⟨some n42, none, .load none (.t n41)⟩, n9, n0, [], [], false, false⟩, ⟨⟨some n46, none, .load none (.t n45)⟩, n13, n0, [], [], false, false⟩, ⟨⟨some n47, none, .iaddr n1 (.t n33) (.t n34)⟩, n14, n0, [], [], false, false⟩, ⟨⟨none, none, .store n1 (.t n47) (.t n42)⟩, n15, n0, [], [n14, n9, n0, n1, n5, n6, n7, n8, n13, n12, n10, n11], false, false⟩, ⟨⟨some n48, none, .iaddr n1 (.t n35) (.t n37)⟩, n16, n0, [], [], false, false⟩, ⟨⟨none, none, .store n1 (.t n48) (.t n46)⟩, n17, n0, [], [n16, n13, n15, n0, n1, n2, n3, n4, n5, n6, n7, n8, n9, n10, n11, n12, n14], true, false⟩]))
 (.ops [⟨some n31, none, .mv (.t n7)⟩, ⟨some n32, none, .bin .sub (.t n31) (k n1)⟩, ⟨some n7, none, .mv (.t n32)⟩])))))))
 (.ops [⟨some n13, none, .mv (.t n6)⟩, ⟨some n14, none, .bin .add (.t n13) (k n1)⟩, ⟨some n6, none, .mv (.t n14)⟩]))))))
def x188 : XFn := ⟨a188, n49, [], c188⟩
def a189 : Ann := ⟨[(n6, n4, n2), (n11, n4, n2)], []⟩
def c189 : ICode :=
 (.seq (.ops [⟨some n11, none, .mv (.t n1)⟩, ⟨some n6, none, .mv (.t n11)⟩])
 (.seq (.ops [⟨some n7, none, .mv (k n0)⟩])
 (.seq (.ops [⟨some n12, none, .mv (.t n2)⟩, ⟨some n13, none, .mv (.t n1)⟩, ⟨some n14, none, .bin .sub (.t n12) (.t n13)⟩, ⟨some n8, none, .mv (.t n14)⟩])
 (.seq (.seq (.ops [⟨some n15, none, .mv (.t n8)⟩, ⟨some n16, none, .bin .sub (.t n15) (k n1)⟩, ⟨some n17, none, .bin .quo (.t n16) (k n2)⟩, ⟨some n9, none, .mv (.t n17)⟩])
 (.block n0 (.loop (.seq (.seq (.ops [⟨some n18, none, .mv (.t n9)⟩, ⟨some n19, none, .bin .geq (.t n18) (k n0)⟩])
 (.cond (.t n19) .skip
 (.exit n0)))
 (.seq (.block n1 (.ops [⟨some n22, none, .mv (.t n0)⟩, ⟨some n23, none, .mv (.t n9)⟩, ⟨some n24, none, .mv (.t n8)⟩, ⟨some n25, none, .mv (.t n6)⟩, ⟨some n26, none, .call (.c (.fn n199 [] [])) [(.t n22), (.t n23), (.t n24), (.t n25)] .raw⟩]))
 (.ops [⟨some n20, none, .mv (.t n9)⟩, ⟨some n21, none, .bin .sub (.t n20) (k n1)⟩, ⟨some n9, none, .mv (.t n21)⟩]))))))
 (.seq (.ops [⟨some n27, none, .mv (.t n8)⟩, ⟨some n28, none, .bin .sub (.t n27) (k n1)⟩, ⟨some n10, none, .mv (.t n28)⟩])
 (.block n2 (.loop (.seq (.seq (.ops [⟨some n29, none, .mv (.t n10)⟩, ⟨some n30, none, .bin .geq (.t n29) (k n0)⟩])
 (.cond (.t n30) .skip
 (.exit n2)))
 (.seq (.block n3 (.seq (.draw n0 [⟨⟨some n33, none, .mv (.t n0)⟩, n0, n0, [], [], false, false⟩, ⟨⟨some n34, none, .mv (.t n6)⟩, n1, n0, [], [], false, false⟩, ⟨⟨some n35, none, .mv (.t n0)⟩, n2, n0, [], [], false, true⟩, ⟨⟨some n36, none, .mv (.t n6)⟩, n3, n0, [], [], false, true⟩, ⟨⟨some n37, none, .mv (.t n10)⟩, n4, n0, [], [], false, true⟩, ⟨⟨some n38, none, .bin .add (.t n36) (.t n37)⟩, n5, n0, [], [], false, true⟩, ⟨⟨some n39, none, .mv (.t n0)⟩, n6, n0, [], [], false, false⟩, ⟨⟨some n40, none, .mv (.t n6)⟩, n7, n0, [], [], false, false⟩, ⟨⟨some n41, none, .mv (.t n10)⟩, n8, n0, [], [], false, false⟩, ⟨⟨some n42, none, .bin .add (.t n40) (.t n41)⟩, n9, n0, [], [], false, false⟩, ⟨⟨some n43, none, .iaddr n1 (.t n39) (.t n42)⟩, n10, n0, [], [], false, false⟩, ⟨⟨some n45, none, .mv (.t n0)⟩, n12, n0, [], [], false, false⟩, ⟨⟨some n46, none, .mv (.t n6)⟩, n13, n0, [], [], false, false⟩, ⟨⟨some n47, none, .iaddr n1 (.t n45) (.t n46)⟩, n14, n0, [], [], false, false⟩, ⟨⟨some n44, none, .load none (.t n43)⟩, n11, n0, [], [], false, false⟩, ⟨⟨some n48, none, .load none (.t n47)⟩, n15, n0, [], [], false, false⟩, ⟨⟨some n49, none, .iaddr n1 (.t n33) (.t n34)⟩, n16, n0, [], [], false, false⟩, ⟨⟨none, none, .store n1 (.t n49) (.t n44)⟩, n17, n0, [], [n16, n11, n0, n1, n6, n7, n8, n9, n10, n15, n14, n12, n13], false, false⟩, ⟨⟨some n50, none, .iaddr n1 (.t n35) (.t n38)⟩, n18, n0, [], [], false, false⟩, ⟨⟨none, none, .store n1 (.t n50) (.t n48)⟩, n19, n0, [], [n18, n15, n17, n0, n1, n2, n3, n4, n5, n6, n7, n8, n9, n10, n11, n12, n13, n14, n16], true, false⟩])
 (.ops [⟨some n51, none, .mv (.t n0)⟩, ⟨some n52, none, .mv (.t n7)⟩, ⟨some n53, none, .mv (.t n10)⟩, ⟨some n54, none, .mv (.t n6)⟩, ⟨some n55, none, .call (.c (.fn n199 [] [])) [(.t n51), (.t n52), (.t n53), (.t n54)] .raw⟩])))
 (.ops [⟨some n31, none, .mv (.t n10)⟩, ⟨some n32, none, .bin .sub (.t n31) (k n1)⟩, ⟨some n10, none, .mv (.t n32)⟩]))))))))))
def x189 : XFn := ⟨a189, n56, [], c189⟩
def a190 : Ann := ⟨[(n3, n1, n0), (n7, n0, n0)], []⟩
def c190 : ICode :=
 (.seq (.ops [⟨some n11, none, .mv (.t n2)⟩, ⟨some n12, none, .mv (.t n1)⟩, ⟨some n13, none, .bin .sub (.t n11) (.t n12)⟩, ⟨some n6, none, .mv (.t n13)⟩])
 (.seq (.ops [⟨some n14, none, .mv (.t n6)⟩, ⟨some n15, none, .bin .geq (.t n14) (k n8)⟩])
 (.cond (.t n15) (.seq (.ops [⟨some n16, none, .mv (.t n6)⟩, ⟨some n17, none, .conv .u64 (.t n16)⟩, ⟨some n7, none, .alloc [(.int .u64 (.l (i n0)))]⟩, ⟨none, none, .store n1 (.t n7) (.t n17)⟩])
 (.seq (.ops [⟨some n18, none, .mv (.t n6)⟩, ⟨some n19, none, .call (.c (.fn n164 [] [])) [(.t n18)] .borrow⟩, ⟨some n8, none, .mv (.t n19)⟩])
 (.seq (.ops [⟨some n20, none, .mv (.t n1)⟩, ⟨some n21, none, .mv (.t n6)⟩, ⟨some n22, none, .bin .quo (.t n21) (k n4)⟩, ⟨some n23, none, .bin .mul (.t n22) (k n2)⟩, ⟨some n24, none, .bin .add (.t n20) (.t n23)⟩, ⟨some n25, none, .bin .sub (.t n24) (k n1)⟩, ⟨some n9, none, .mv (.t n25)⟩])
 (.block n0 (.loop (.seq (.seq (.ops [⟨some n26, none, .mv (.t n9)⟩, ⟨some n27, none, .mv (.t n1)⟩, ⟨some n28, none, .mv (.t n6)⟩, ⟨some n29, none, .bin .quo (.t n28) (k n4)⟩, ⟨some n30, none, .bin .mul (.t n29) (k n2)⟩, ⟨some n31, none, .bin .add (.t n27) (.t n30)⟩, ⟨some n32, none, .bin .add (.t n31) (k n1)⟩, ⟨some n33, none, .bin .leq (.t n26) (.t n32)⟩])
 (.cond (.t n33) .skip
 (.exit n0)))
 (.seq (.block n1 (.seq (.ops [⟨some n36, none, .call (.c (.fn n165 [] [])) [(.t n7)] .borrow⟩, ⟨some n37, none, .mv (.t n8)⟩, ⟨some n38, none, .bin .sub (.t n37) (.c (.d (.int .u64 (.l (i n1)))))⟩, ⟨some n39, none, .bin .and (.t n36) (.t n38)⟩, ⟨some n40, none, .conv .i64 (.t n39)⟩, ⟨some n10, none, .mv (.t n40)⟩])
 (.seq (.seq (.ops [⟨some n41, none, .mv (.t n10)⟩, ⟨some n42, none, .mv (.t n6)⟩, ⟨some n43, none, .bin .geq (.t n41) (.t n42)⟩])
 (.cond (.t n43) (.ops [⟨some n44, none, .mv (.t n10)⟩, ⟨some n45, none, .mv (.t n6)⟩, ⟨some n46, none, .bin .sub (.t n44) (.t n45)⟩, ⟨some n10, none, .mv (.t n46)⟩])
 .skip))
 (.draw n0 [⟨⟨some n47, none, .mv (.t n0)⟩, n0, n0, [], [], false, false⟩, ⟨⟨some n48, none, .mv (.t n9)⟩, n1, n0, [], [], false, false⟩, ⟨⟨some n49, none, .mv (.t n0)⟩, n2, n0, [], [], false, true⟩, ⟨⟨some n50, none, .mv (.t n1)⟩, n3, n0, [], [], false, true⟩, ⟨⟨some n51, none, .mv (.t n10)⟩, n4, n0, [], [], false, true⟩, ⟨⟨some n52, none, .bin .add (.t n50) (.t n51)⟩, n5, n0, [], [], false, true⟩, ⟨⟨some n53, none, .mv (.t n0)⟩, n6, n0, [], [], false, false⟩, ⟨⟨some n54, none, .mv (.t n1)⟩, n7, n0, [], [], false, false⟩, ⟨⟨some n55, none, .mv (.t n10)⟩, n8, n0, [], [], false, false⟩, ⟨⟨some n56, none, .bin .add (.t n54) (.t n55)⟩, n9, n0, [], [], false, false⟩, ⟨⟨some n57, none, .iaddr n1 (.t n53) (.t n56)⟩, n10, n0, [], [], false, false⟩, ⟨⟨some n59, none, .mv (.t n0)⟩, n12, n0, [], [], false, false⟩, ⟨⟨some n60, none, .mv (.t n9)⟩, n13, n0, [], [], false, false⟩, ⟨⟨some n61, none, .iaddr n1 (.t n59) (.t n60)⟩, n14, n0, [], [], false, false⟩, ⟨⟨some n58, none, .load none (.t n57)⟩, n11, n0, [], [], false, false⟩, ⟨⟨some n62, none, .load none (.t n61)⟩, n15, n0, [], [], false, false⟩, ⟨⟨some n63, none, .iaddr n1 (.t n47) (.t n48)⟩, n16, n0, [], [], false, false⟩, ⟨⟨none, none, .store n1 (.t n63) (.t n58)⟩, n17, n0, [], [n16, n11, n0, n1, n6, n7, n8, n9, n10, n15, n14, n12, n13], false, false⟩, ⟨⟨some n64, none, .iaddr n1 (.t n49) (.t n52)⟩, n18, n0, [], [], false, false⟩, ⟨⟨none, none, .store n1 (.t n64) (.t n62)⟩, n19, n0, [], [n18, n15, n17, n0, n1, n2, n3, n4, n5, n6, n7, n8, n9, n10, n11, n12, n13, n14, n16], true, false⟩]))))
 (.ops [⟨some n34, none, .mv (.t n9)⟩, ⟨some n35, none, .bin .add (.t n34) (k n1)⟩, ⟨some n9, none, .mv (.t n35)⟩]))))))))
 .skip)))
def x190 : XFn := ⟨a190, n65, [], c190⟩
def a191 : Ann := ⟨[(n8, n2, n2), (n9, n2, n2), (n10, n2, n2), (n11, n4, n2)], []⟩
def c191 : ICode :=
 (.seq (.ops [⟨some n6, none, .mv (k n0)⟩, ⟨some n7, none, .mv (k n0)⟩])
 (.seq (.ops [⟨some n13, none, .mv (.t n2)⟩, ⟨some n14, none, .mv (.t n1)⟩, ⟨some n15, none, .bin .sub (.t n13) (.t n14)⟩, ⟨some n8, none, .mv (.t n15)⟩])
 (.seq (.ops [⟨some n9, none, .alloc [(.int .i64 (.l (i n0)))]⟩])
 (.seq (.ops [⟨some n16, none, .mv (.t n1)⟩, ⟨some n17, none, .mv (.t n8)⟩, ⟨some n18, none, .bin .quo (.t n17) (k n4)⟩, ⟨some n19, none, .bin .mul (.t n18) (k n1)⟩, ⟨some n20, none, .bin .add (.t n16) (.t n19)⟩, ⟨some n10, none, .mv (.t n20)⟩])
 (.seq (.ops [⟨some n21, none, .mv (.t n1)⟩, ⟨some n22, none, .mv (.t n8)⟩, ⟨some n23, none, .bin .quo (.t n22) (k n4)⟩, ⟨some n24, none, .bin .mul (.t n23) (k n2)⟩, ⟨some n25, none, .bin .add (.t n21) (.t n24)⟩, ⟨some n11, none, .mv (.t n25)⟩])
 (.seq (.ops [⟨some n26, none, .mv (.t n1)⟩, ⟨some n27, none, .mv (.t n8)⟩, ⟨some n28, none, .bin .quo (.t n27) (k n4)⟩, ⟨some n29, none, .bin .mul (.t n28) (k n3)⟩, ⟨some n30, none, .bin .add (.t n26) (.t n29)⟩, ⟨some n12, none, .mv (.t n30)⟩])
 (.seq (.seq (.ops [⟨some n31, none, .mv (.t n8)⟩, ⟨some n32, none, .bin .geq (.t n31) (k n8)⟩])
 (.cond (.t n32) (.seq (.seq (.ops [⟨some n33, none, .mv (.t n8)⟩, ⟨some n34, none, .bin .geq (.t n33) (k n50)⟩])
 (.cond (.t n34) (.seq (.ops [⟨some n35, none, .mv (.t n0)⟩, ⟨some n36, none, .mv (.t n10)⟩, ⟨some n37, none, .call (.c (.fn n200 [] [])) [(.t n35), (.t n36), (.t n9)] .raw⟩, ⟨some n10, none, .mv (.t n37)⟩])
 (.seq (.ops [⟨some n38, none, .mv (.t n0)⟩, ⟨some n39, none, .mv (.t n11)⟩, ⟨some n40, none, .call (.c (.fn n200 [] [])) [(.t n38), (.t n39), (.t n9)] .raw⟩, ⟨some n11, none, .mv (.t n40)⟩])
 (.ops [⟨some n41, none, .mv (.t n0)⟩, ⟨some n42, none, .mv (.t n12)⟩, ⟨some n43, none, .call (.c (.fn n200 [] [])) [(.t n41), (.t n42), (.t n9)] .raw⟩, ⟨some n12, none, .mv (.t n43)⟩])))
 .skip))
 (.ops [⟨some n44, none, .mv (.t n0)⟩, ⟨some n45, none, .mv (.t n10)⟩, ⟨some n46, none, .mv (.t n11)⟩, ⟨some n47, none, .mv (.t n12)⟩, ⟨some n48, none, .call (.c (.fn n201 [] [])) [(.t n44), (.t n45), (.t n46), (.t n47), (.t n9)] .raw⟩, ⟨some n11, none, .mv (.t n48)⟩]))
 .skip))
 (.seq (.ops [⟨some n49, none, .load none (.t n9)⟩])
 (.block n0 (.seq (.ops [⟨some n52, none, .bin .eql (.t n49) (k n0)⟩, ⟨some n51, none, .mv (.t n52)⟩])
 (.cond (.t n51) (.seq (.ops [⟨some n53, none, .mv (.t n11)⟩, ⟨some n6, none, .mv (.t n53)⟩, ⟨some n7, none, .mv (k n1)⟩])
 .ret)
 (.seq (.ops [⟨some n55, none, .bin .eql (.t n49) (k n12)⟩, ⟨some n54, none, .mv (.t n55)⟩])
 (.cond (.t n54) (.seq (.ops [⟨some n56, none, .mv (.t n11)⟩, ⟨some n6, none, .mv (.t n56)⟩, ⟨some n7, none, .mv (k n2)⟩])
 .ret)
 (.seq (.ops [⟨some n50, none, .mv (.t n11)⟩, ⟨some n6, none, .mv (.t n50)⟩, ⟨some n7, none, .mv (k n0)⟩])
 .ret))))))))))))))
def x191 : XFn := ⟨a191, n57, [(.t n6), (.t n7)], c191⟩
def a192 : Ann := ⟨[], []⟩
def c192 : ICode :=
 (.seq (.ops [⟨some n8, none, .mv (.t n1)⟩, ⟨some n6, none, .mv (.t n8)⟩])
 (.seq (.ops [⟨some n9, none, .mv (.t n2)⟩, ⟨some n10, none, .bin .sub (.t n9) (k n1)⟩, ⟨some n7, none, .mv (.t n10)⟩])
 (.block n0 (.loop (.seq (.seq (.ops [⟨some n11, none, .mv (.t n6)⟩, ⟨some n12, none, .mv (.t n7)⟩, ⟨some n13, none, .bin .lss (.t n11) (.t n12)⟩])
 (.cond (.t n13) .skip
 (.exit n0)))
 (.block n1 (.seq (.draw n0 [⟨⟨some n14, none, .mv (.t n0)⟩, n0, n0, [], [], false, false⟩, ⟨⟨some n15, none, .mv (.t n6)⟩, n1, n0, [], [], false, false⟩, ⟨⟨some n16, none, .mv (.t n0)⟩, n2, n0, [], [], false, true⟩, ⟨⟨some n17, none, .mv (.t n7)⟩, n3, n0, [], [], false, true⟩, ⟨⟨some n18, none, .mv (.t n0)⟩, n4, n0, [], [], false, false⟩, ⟨⟨some n19, none, .mv (.t n7)⟩, n5, n0, [], [], false, false⟩, ⟨⟨some n20, none, .iaddr n1 (.t n18) (.t n19)⟩, n6, n0, [], [], false, false⟩, ⟨⟨some n22, none, .mv (.t n0)⟩, n8, n0, [], [], false, false⟩, ⟨⟨some n23, none, .mv (.t n6)⟩, n9, n0, [], [], false, false⟩, ⟨⟨some n24, none, .iaddr n1 (.t n22) (.t n23)⟩, n10, n0, [], [], false, false⟩, ⟨⟨some n21, none, .load none (.t n20)⟩, n7, n0, [], [], false, false⟩, ⟨⟨some n25, none, .load none (.t n24)⟩, n11, n0, [], [], false, false⟩, ⟨⟨some n26, none, .iaddr n1 (.t n14) (.t n15)⟩, n12, n0, [], [], false, false⟩, ⟨⟨none, none, .store n1 (.t n26) (.t n21)⟩, n13, n0, [], [n12, n7, n0, n1, n4, n5, n6, n11, n10, n8, n9], false, false⟩, ⟨⟨some n27, none, .iaddr n1 (.t n16) (.t n17)⟩, n14, n0, [], [], false, false⟩, ⟨⟨none, none, .store n1 (.t n27) (.t n25)⟩, n15, n0, [], [n14, n11, n13, n0, n1, n2, n3, n4, n5, n6, n7, n8, n9, n10, n12], true, false⟩])
 (.seq (.ops [⟨some n28, none, .mv (.t n6)⟩, ⟨some n29, none, .bin .add (.t n28) (k n1)⟩, ⟨some n6, none, .mv (.t n29)⟩])
 (.ops [⟨some n30, none, .mv (.t n7)⟩, ⟨some n31, none, .bin .sub (.t n30) (k n1)⟩, ⟨some n7, none, .mv (.t n31)⟩])))))))))
def x192 : XFn := ⟨a192, n32, [], c192⟩
def a193 : Ann := ⟨[(n5, n13, n0), (n16, n9, n0), (n22, n9, n0)], []⟩
def c193 : ICode :=
 (.seq (.ops [⟨some n6, none, .mv (.c (.d (.bool false)))⟩])
 (.seq (.ops [⟨some n11, none, .mv (.t n1)⟩, ⟨some n12, none, .bin .add (.t n11) (k n1)⟩, ⟨some n7, none, .mv (.t n12)⟩])
 (.seq (.seq (.ops [⟨some n8, none, .mv (k n0)⟩])
 (.block n0 (.loop (.seq (.seq (.ops [⟨some n13, none, .mv (.t n8)⟩, ⟨some n14, none, .bin .lss (.t n13) (k n5)⟩])
 (.cond (.t n14) .skip
 (.exit n0)))
 (.seq (.block n1 (.seq (.block n2 (.loop (.seq (.seq (.draw n0 [⟨⟨some n17, none, .mv (.t n7)⟩, n0, n0, [], [], false, false⟩, ⟨⟨some n18, none, .mv (.t n2)⟩, n1, n0, [], [], false, false⟩, ⟨⟨some n19, none, .bin .lss (.t n17) (.t n18)⟩, n2, n0, [], [], false, false⟩, ⟨⟨some n20, none, .mv (.t n19)⟩, n3, n0, [], [], false, false⟩, ⟨⟨some n21, (some (n20, true)), .mv (.t n0)⟩, n4, n0, [], [], false, false⟩, ⟨⟨some n22, (some (n20, true)), .mv (.t n7)⟩, n5, n0, [], [], false, false⟩, ⟨⟨some n23, (some (n20, true)), .iaddr n1 (.t n21) (.t n22)⟩, n6, n0, [], [], false, false⟩, ⟨⟨some n25, (some (n20, true)), .mv (.t n0)⟩, n8, n0, [], [], false, false⟩, ⟨⟨some n26, (some (n20, true)), .mv (.t n7)⟩, n9, n0, [], [], false, false⟩, ⟨⟨some n27, (some (n20, true)), .bin .sub (.t n26) (k n1)⟩, n10, n0, [], [], false, false⟩, ⟨⟨some n28, (some (n20, true)), .iaddr n1 (.t n25) (.t n27)⟩, n11, n0, [], [], false, false⟩, ⟨⟨some n24, (some (n20, true)), .load none (.t n23)⟩, n7, n0, [], [], false, false⟩, ⟨⟨some n29, (some (n20, true)), .load none (.t n28)⟩, n12, n0, [], [], false, false⟩, ⟨⟨some n30, (some (n20, true)), .call (.c (.fn n194 [] [])) [(.t n24), (.t n29)] .borrow⟩, n13, n0, [], [n7, n12, n3, n6, n4, n5, n2, n0, n1, n11, n8, n10, n9], true, false⟩, ⟨⟨some n31, (some (n20, true)), .un .not (.t n30)⟩, n14, n0, [], [], false, false⟩, ⟨⟨some n32, none, .pick (.t n20) (.t n31) (.c (.d (.bool false)))⟩, n15, n0, [], [], false, false⟩])
 (.cond (.t n32) .skip
 (.exit n2)))
 (.block n3 (.ops [⟨some n33, none, .mv (.t n7)⟩, ⟨some n34, none, .bin .add (.t n33) (k n1)⟩, ⟨some n7, none, .mv (.t n34)⟩])))))
 (.seq (.seq (.ops [⟨some n35, none, .mv (.t n7)⟩, ⟨some n36, none, .mv (.t n2)⟩, ⟨some n37, none, .bin .eql (.t n35) (.t n36)⟩])
 (.cond (.t n37) (.seq (.ops [⟨some n6, none, .mv (.c (.d (.bool true)))⟩])
 .ret)
 .skip))
 (.seq (.seq (.ops [⟨some n38, none, .mv (.t n2)⟩, ⟨some n39, none, .mv (.t n1)⟩, ⟨some n40, none, .bin .sub (.t n38) (.t n39)⟩, ⟨some n41, none, .bin .lss (.t n40) (k n50)⟩])
 (.cond (.t n41) (.seq (.ops [⟨some n6, none, .mv (.c (.d (.bool false)))⟩])
 .ret)
 .skip))
 (.seq (.draw n0 [⟨⟨some n42, none, .mv (.t n0)⟩, n0, n0, [], [], false, false⟩, ⟨⟨some n43, none, .mv (.t n7)⟩, n1, n0, [], [], false, false⟩, ⟨⟨some n44, none, .mv (.t n0)⟩, n2, n0, [], [], false, true⟩, ⟨⟨some n45, none, .mv (.t n7)⟩, n3, n0, [], [], false, true⟩, ⟨⟨some n46, none, .bin .sub (.t n45) (k n1)⟩, n4, n0, [], [], false, true⟩, ⟨⟨some n47, none, .mv (.t n0)⟩, n5, n0, [], [], false, false⟩, ⟨⟨some n48, none, .mv (.t n7)⟩, n6, n0, [], [], false, false⟩, ⟨⟨some n49, none, .bin .sub (.t n48) (k n1)⟩, n7, n0, [], [], false, false⟩, ⟨⟨some n50, none, .iaddr n1 (.t n47) (.t n49)⟩, n8, n0, [], [], false, false⟩, ⟨⟨some n52, none, .mv (.t n0)⟩, n10, n0, [], [], false, false⟩, ⟨⟨some n53, none, .mv (.t n7)⟩, n11, n0, [], [], false, false⟩, ⟨⟨some n54, none, .iaddr n1 (.t n52) (.t n53)⟩, n12, n0, [], [], false, false⟩, ⟨⟨some n51, none, .load none (.t n50)⟩, n9, n0, [], [], false, false⟩, ⟨⟨some n55, none, .load none (.t n54)⟩, n13, n0, [], [], false, false⟩, ⟨⟨some n56, none, .iaddr n1 (.t n42) (.t n43)⟩, n14, n0, [], [], false, false⟩, ⟨⟨none, none, .store n1 (.t n56) (.t n51)⟩, n15, n0, [], [n14, n9, n0, n1, n5, n6, n7, n8, n13, n12, n10, n11], false, false⟩, ⟨⟨some n57, none, .iaddr n1 (.t n44) (.t n46)⟩, n16, n0, [], [], false, false⟩, ⟨⟨none, none, .store n1 (.t n57) (.t n55)⟩, n17, n0, [], [n16, n13, n15, n0, n1, n2, n3, n4, n5, n6, n7, n8, n9, n10, n11, n12, n14], true, false⟩])
 (.seq (.seq (.ops [⟨some n58, none, .mv (.t n7)⟩, ⟨some n59, none, .mv (.t n1)⟩, ⟨some n60, none, .bin .sub (.t n58) (.t n59)⟩, ⟨some n61, none, .bin .geq (.t n60) (k n2)⟩])
 (.cond (.t n61) (.seq (.ops [⟨some n62, none, .mv (.t n7)⟩, ⟨some n63, none, .bin .sub (.t n62) (k n1)⟩, ⟨some n9, none, .mv (.t n63)⟩])
 (.block n4 (.loop (.seq (.seq (.ops [⟨some n64, none, .mv (.t n9)⟩, ⟨some n65, none, .bin .geq (.t n64) (k n1)⟩])
 (.cond (.t n65) .skip
 (.exit n4)))
 (.seq (.block n5 (.seq (.seq (.draw n0 [⟨⟨some n68, none, .mv (.t n0)⟩, n0, n0, [], [], false, false⟩, ⟨⟨some n69, none, .mv (.t n9)⟩, n1, n0, [], [], false, false⟩, ⟨⟨some n70, none, .iaddr n1 (.t n68) (.t n69)⟩, n2, n0, [], [], false, false⟩, ⟨⟨some n72, none, .mv (.t n0)⟩, n4, n0, [], [], false, false⟩, ⟨⟨some n73, none, .mv (.t n9)⟩, n5, n0, [], [], false, false⟩, ⟨⟨some n74, none, .bin .sub (.t n73) (k n1)⟩, n6, n0, [], [], false, false⟩, ⟨⟨some n75, none, .iaddr n1 (.t n72) (.t n74)⟩, n7, n0, [], [], false, false⟩, ⟨⟨some n71, none, .load none (.t n70)⟩, n3, n0, [], [], false, false⟩, ⟨⟨some n76, none, .load none (.t n75)⟩, n8, n0, [], [], false, false⟩, ⟨⟨some n77, none, .call (.c (.fn n194 [] [])) [(.t n71), (.t n76)] .borrow⟩, n9, n0, [], [n3, n8, n2, n0, n1, n7, n4, n6, n5], true, false⟩, ⟨⟨some n78, none, .un .not (.t n77)⟩, n10, n0, [], [], false, false⟩])
 (.cond (.t n78) (.exit n4)
 .skip))
 (.draw n0 [⟨⟨some n79, none, .mv (.t n0)⟩, n0, n0, [], [], false, false⟩, ⟨⟨some n80, none, .mv (.t n9)⟩, n1, n0, [], [], false, false⟩, ⟨⟨some n81, none, .mv (.t n0)⟩, n2, n0, [], [], false, true⟩, ⟨⟨some n82, none, .mv (.t n9)⟩, n3, n0, [], [], false, true⟩, ⟨⟨some n83, none, .bin .sub (.t n82) (k n1)⟩, n4, n0, [], [], false, true⟩, ⟨⟨some n84, none, .mv (.t n0)⟩, n5, n0, [], [], false, false⟩, ⟨⟨some n85, none, .mv (.t n9)⟩, n6, n0, [], [], false, false⟩, ⟨⟨some n86, none, .bin .sub (.t n85) (k n1)⟩, n7, n0, [], [], false, false⟩, ⟨⟨some n87, none, .iaddr n1 (.t n84) (.t n86)⟩, n8, n0, [], [], false, false⟩, ⟨⟨some n89, none, .mv (.t n0)⟩, n10, n0, [], [], false, false⟩, ⟨⟨some n90, none, .mv (.t n9)⟩, n11, n0, [], [], false, false⟩, ⟨⟨some n91, none, .iaddr n1 (.t n89) (.t n90)⟩, n12, n0, [], [], false, false⟩, ⟨⟨some n88, none, .load none (.t n87)⟩, n9, n0, [], [], false, false⟩, ⟨⟨some n92, none, .load none (.t n91)⟩, n13, n0, [], [], false, false⟩, ⟨⟨some n93, none, .iaddr n1 (.t n79) (.t n80)⟩, n14, n0, [], [], false, false⟩, ⟨⟨none, none, .store n1 (.t n93) (.t n88)⟩, n15, n0, [], [n14, n9, n0, n1, n5, n6, n7, n8, n13, n12, n10, n11], false, false⟩, ⟨⟨some n94, none, .iaddr n1 (.t n81) (.t n83)⟩, n16, n0, [], [], false, false⟩, ⟨⟨none, none, .store n1 (.t n94) (.t n92)⟩, n17, n0, [], [n16, n13, n15, n0, n1, n2, n3, n4, n5, n6, n7, n8, n9, n10, n11, n12, n14], true, false⟩])))
 (.ops [⟨some n66, none, .mv (.t n9)⟩, ⟨some n67, none, .bin .sub (.t n66) (k n1)⟩, ⟨some n9, none, .mv (.t n67)⟩]))))))
 .skip))
 (.seq (.ops [⟨some n95, none, .mv (.t n2)⟩, ⟨some n96, none, .mv (.t n7)⟩, ⟨some n97, none, .bin .sub (.t n95) (.t n96)⟩, ⟨some n98, none, .bin .geq (.t n97) (k n2)⟩])
 (.cond (.t n98) (.seq (.ops [⟨some n99, none, .mv (.t n7)⟩, ⟨some n100, none, .bin .add (.t n99) (k n1)⟩, ⟨some n10, none, .mv (.t n100)⟩])
 (.block n6 (.loop (.seq (.seq (.ops [⟨some n101, none, .mv (.t n10)⟩, ⟨some n102, none, .mv (.t n2)⟩, ⟨some n103, none, .bin .lss (.t n101) (.t n102)⟩])
 (.cond (.t n103) .skip
 (.exit n6)))
 (.seq (.block n7 (.seq (.seq (.draw n0 [⟨⟨some n106, none, .mv (.t n0)⟩, n0, n0, [], [], false, false⟩, ⟨⟨some n107, none, .mv (.t n10)⟩, n1, n0, [], [], false, false⟩, ⟨⟨some n108, none, .iaddr n1 (.t n106) (.t n107)⟩, n2, n0, [], [], false, false⟩, ⟨⟨some n110, none, .mv (.t n0)⟩, n4, n0, [], [], false, false⟩, ⟨⟨some n111, none, .mv (.t n10)⟩, n5, n0, [], [], false, false⟩, ⟨⟨some n112, none, .bin .sub (.t n111) (k n1)⟩, n6, n0, [], [], false, false⟩, ⟨⟨some n113, none, .iaddr n1 (.t n110) (.t n112)⟩, n7, n0, [], [], false, false⟩, ⟨⟨some n109, none, .load none (.t n108)⟩, n3, n0, [], [], false, false⟩, ⟨⟨some n114, none, .load none (.t n113)⟩, n8, n0, [], [], false, false⟩, ⟨⟨some n115, none, .call (.c (.fn n194 [] [])) [(.t n109), (.t n114)] .borrow⟩, n9, n0, [], [n3, n8, n2, n0, n1, n7, n4, n6, n5], true, false⟩, ⟨⟨some n116, none, .un .not (.t n115)⟩, n10, n0, [], [], false, false⟩])
 (.cond (.t n116) (.exit n6)
 .skip))
 (.draw n0 [⟨⟨some n117, none, .mv (.t n0)⟩, n0, n0, [], [], false, false⟩, ⟨⟨some n118, none, .mv (.t n10)⟩, n1, n0, [], [], false, false⟩, ⟨⟨some n119, none, .mv (.t n0)⟩, n2, n0, [], [], false, true⟩, ⟨⟨some n120, none, .mv (.t n10)⟩, n3, n0, [], [], false, true⟩, ⟨⟨some n121, none, .bin .sub (.t n120) (k n1)⟩, n4, n0, [], [], false, true⟩, ⟨⟨some n122, none, .mv (.t n0)⟩, n5, n0, [], [], false, false⟩, ⟨⟨some n123, none, .mv (.t n10)⟩, n6, n0, [], [], false, false⟩, ⟨⟨some n124, none, .bin .sub (.t n123) (k n1)⟩, n7, n0, [], [], false, false⟩, ⟨⟨some n125, none, .iaddr n1 (.t n122) (.t n124)⟩, n8, n0, [], [], false, false⟩, ⟨⟨some n127, none, .mv (.t n0)⟩, n10, n0, [], [], false, false⟩, ⟨⟨some n128, none, .mv (.t n10)⟩, n11, n0, [], [], false, false⟩, ⟨⟨some n129, none, .iaddr n1 (.t n127) (.t n128)⟩, n12, n0, [], [], false, false⟩, ⟨⟨some n126, none, .load none (.t n125)⟩, n9, n0, [], [], false, false⟩, ⟨⟨some n130, none, .load none (.t n129)⟩, n13, n0, [], [], false, false⟩, ⟨⟨some n131, none, .iaddr n1 (.t n117) (.t n118)⟩, n14, n0, [], [], false, false⟩, ⟨⟨none, none, .store n1 (.t n131) (.t n126)⟩, n15, n0, [], [n14, n9, n0, n1, n5, n6, n7, n8, n13, n12, n10, n11], false, false⟩, ⟨⟨some n132, none, .iaddr n1 (.t n119) (.t n121)⟩, n16, n0, [], [], false, false⟩, ⟨⟨none, none, .store n1 (.t n132) (.t n130)⟩, n17, n0, [], [n16, n13, n15, n0, n1, n2, n3, n4, n5, n6, n7, n8, n9, n10, n11, n12, n14], true, false⟩])))
 (.ops [⟨some n104, none, .mv (.t n10)⟩, ⟨some n105, none, .bin .add (.t n104) (k n1)⟩, ⟨some n10, none, .mv (.t n105)⟩]))))))
 .skip))))))))
 (.ops [⟨some n15, none, .mv (.t n8)⟩, ⟨some n16, none, .bin .add (.t n15) (k n1)⟩, ⟨some n8, none, .mv (.t n16)⟩]))))))
 (.seq (.ops [⟨some n6, none, .mv (.c (.d (.bool false)))⟩])
 .ret))))
def x193 : XFn := ⟨a193, n133, [(.t n6)], c193⟩
def a194 : Ann := ⟨[(n1, n1, n0), (n1, n4, n0)], []⟩
def c194 : ICode :=
 (.seq (.ops [⟨some n4, none, .mv (.c (.d (.bool false)))⟩])
 (.seq (.ops [⟨some n5, none, .mv (.t n0)⟩, ⟨some n6, none, .call (.c (.fn n94 [] [])) [(.t n5)] .borrow⟩, ⟨some n7, none, .mv (.t n6)⟩, ⟨some n8, (some (n7, true)), .mv (.t n1)⟩, ⟨some n9, (some (n7, true)), .call (.c (.fn n94 [] [])) [(.t n8)] .borrow⟩, ⟨some n10, (some (n7, true)), .un .not (.t n9)⟩, ⟨some n11, none, .pick (.t n7) (.t n10) (.c (.d (.bool false)))⟩, ⟨some n12, none, .mv (.t n11)⟩, ⟨some n13, (some (n12, false)), .mv (.t n0)⟩, ⟨some n14, (some (n12, false)), .mv (.t n1)⟩, ⟨some n15, (some (n12, false)), .bin .lss (.t n13) (.t n14)⟩, ⟨some n16, none, .pick (.t n12) (.c (.d (.bool true))) (.t n15)⟩, ⟨some n4, none, .mv (.t n16)⟩])
 .ret))
def x194 : XFn := ⟨a194, n17, [(.t n4)], c194⟩
def a195 : Ann := ⟨[(n3, n12, n0), (n5, n12, n0)], []⟩
def c195 : ICode :=
 (.seq (.ops [⟨some n8, none, .mv (k n0)⟩])
 (.seq (.draw n0 [⟨⟨some n11, none, .mv (.t n0)⟩, n0, n0, [], [], false, false⟩, ⟨⟨some n12, none, .mv (.t n1)⟩, n1, n0, [], [], false, false⟩, ⟨⟨some n13, none, .mv (.t n0)⟩, n2, n0, [], [], false, true⟩, ⟨⟨some n14, none, .mv (.t n3)⟩, n3, n0, [], [], false, true⟩, ⟨⟨some n15, none, .mv (.t n0)⟩, n4, n0, [], [], false, false⟩, ⟨⟨some n16, none, .mv (.t n3)⟩, n5, n0, [], [], false, false⟩, ⟨⟨some n17, none, .iaddr n1 (.t n15) (.t n16)⟩, n6, n0, [], [], false, false⟩, ⟨⟨some n19, none, .mv (.t n0)⟩, n8, n0, [], [], false, false⟩, ⟨⟨some n20, none, .mv (.t n1)⟩, n9, n0, [], [], false, false⟩, ⟨⟨some n21, none, .iaddr n1 (.t n19) (.t n20)⟩, n10, n0, [], [], false, false⟩, ⟨⟨some n18, none, .load none (.t n17)⟩, n7, n0, [], [], false, false⟩, ⟨⟨some n22, none, .load none (.t n21)⟩, n11, n0, [], [], false, false⟩, ⟨⟨some n23, none, .iaddr n1 (.t n11) (.t n12)⟩, n12, n0, [], [], false, false⟩, ⟨⟨none, none, .store n1 (.t n23) (.t n18)⟩, n13, n0, [], [n12, n7, n0, n1, n4, n5, n6, n11, n10, n8, n9], false, false⟩, ⟨⟨some n24, none, .iaddr n1 (.t n13) (.t n14)⟩, n14, n0, [], [], false, false⟩, ⟨⟨none, none, .store n1 (.t n24) (.t n22)⟩, n15, n0, [], [n14, n11, n13, n0, n1, n2, n3, n4, n5, n6, n7, n8, n9, n10, n12], true, false⟩])
 (.seq (.ops [⟨some n25, none, .mv (.t n1)⟩, ⟨some n26, none, .bin .add (.t n25) (k n1)⟩, ⟨some n27, none, .mv (.t n2)⟩, ⟨some n28, none, .bin .sub (.t n27) (k n1)⟩, ⟨some n9, none, .mv (.t n26)⟩, ⟨some n10, none, .mv (.t n28)⟩])
 (.seq (.block n0 (.loop (.block n1 (.seq (.block n2 (.loop (.seq (.seq (.draw n0 [⟨⟨some n29, none, .mv (.t n9)⟩, n0, n0, [], [], false, false⟩, ⟨⟨some n30, none, .mv (.t n10)⟩, n1, n0, [], [], false, false⟩, ⟨⟨some n31, none, .bin .leq (.t n29) (.t n30)⟩, n2, n0, [], [], false, false⟩, ⟨⟨some n32, none, .mv (.t n31)⟩, n3, n0, [], [], false, false⟩, ⟨⟨some n33, (some (n32, true)), .mv (.t n0)⟩, n4, n0, [], [], false, false⟩, ⟨⟨some n34, (some (n32, true)), .mv (.t n1)⟩, n5, n0, [], [], false, false⟩, ⟨⟨some n35, (some (n32, true)), .iaddr n1 (.t n33) (.t n34)⟩, n6, n0, [], [], false, false⟩, ⟨⟨some n37, (some (n32, true)), .mv (.t n0)⟩, n8, n0, [], [], false, false⟩, ⟨⟨some n38, (some (n32, true)), .mv (.t n9)⟩, n9, n0, [], [], false, false⟩, ⟨⟨some n39, (some (n32, true)), .iaddr n1 (.t n37) (.t n38)⟩, n10, n0, [], [], false, false⟩, ⟨⟨some n36, (some (n32, true)), .load none (.t n35)⟩, n7, n0, [], [], false, false⟩, ⟨⟨some n40, (some (n32, true)), .load none (.t n39)⟩, n11, n0, [], [], false, false⟩, ⟨⟨some n41, (some (n32, true)), .call (.c (.fn n194 [] [])) [(.t n36), (.t n40)] .borrow⟩, n12, n0, [], [n7, n11, n3, n6, n4, n5, n2, n0, n1, n10, n8, n9], true, false⟩, ⟨⟨some n42, (some (n32, true)), .un .not (.t n41)⟩, n13, n0, [], [], false, false⟩, ⟨⟨some n43, none, .pick (.t n32) (.t n42) (.c (.d (.bool false)))⟩, n14, n0, [], [], false, false⟩])
 (.cond (.t n43) .skip
 (.exit n2)))
 (.block n3 (.ops [⟨some n44, none, .mv (.t n9)⟩, ⟨some n45, none, .bin .add (.t n44) (k n1)⟩, ⟨some n9, none, .mv (.t n45)⟩])))))
 (.seq (.block n4 (.loop (.seq (.seq (.draw n0 [⟨⟨some n46, none, .mv (.t n9)⟩, n0, n0, [], [], false, false⟩, ⟨⟨some n47, none, .mv (.t n10)⟩, n1, n0, [], [], false, false⟩, ⟨⟨some n48, none, .bin .leq (.t n46) (.t n47)⟩, n2, n0, [], [], false, false⟩, ⟨⟨some n49, none, .mv (.t n48)⟩, n3, n0, [], [], false, false⟩, ⟨⟨some n50, (some (n49, true)), .mv (.t n0)⟩, n4, n0, [], [], false, false⟩, ⟨⟨some n51, (some (n49, true)), .mv (.t n1)⟩, n5, n0, [], [], false, false⟩, ⟨⟨some n52, (some (n49, true)), .iaddr n1 (.t n50) (.t n51)⟩, n6, n0, [], [], false, false⟩, ⟨⟨some n54, (some (n49, true)), .mv (.t n0)⟩, n8, n0, [], [], false, false⟩, ⟨⟨some n55, (some (n49, true)), .mv (.t n10)⟩, n9, n0, [], [], false, false⟩, ⟨⟨some n56, (some (n49, true)), .iaddr n1 (.t n54) (.t n55)⟩, n10, n0, [], [], false, false⟩, ⟨⟨some n53, (some (n49, true)), .load none (.t n52)⟩, n7, n0, [], [], false, false⟩, ⟨⟨some n57, (some (n49, true)), .load none (.t n56)⟩, n11, n0, [], [], false, false⟩, ⟨⟨some n58, (some (n49, true)), .call (.c (.fn n194 [] [])) [(.t n53), (.t n57)] .borrow⟩, n12, n0, [], [n7, n11, n3, n6, n4, n5, n2, n0, n1, n10, n8, n9], true, false⟩, ⟨⟨some n59, none, .pick (.t n49) (.t n58) (.c (.d (.bool false)))⟩, n13, n0, [], [], false, false⟩])
 (.cond (.t n59) .skip
 (.exit n4)))
 (.block n5 (.ops [⟨some n60, none, .mv (.t n10)⟩, ⟨some n61, none, .bin .sub (.t n60) (k n1)⟩, ⟨some n10, none, .mv (.t n61)⟩])))))
 (.seq (.seq (.ops [⟨some n62, none, .mv (.t n9)⟩, ⟨some n63, none, .mv (.t n10)⟩, ⟨some n64, none, .bin .gtr (.t n62) (.t n63)⟩])
 (.cond (.t n64) (.exit n0)
 .skip))
 (.seq (.draw n0 [⟨⟨some n65, none, .mv (.t n0)⟩, n0, n0, [], [], false, false⟩, ⟨⟨some n66, none, .mv (.t n9)⟩, n1, n0, [], [], false, false⟩, ⟨⟨some n67, none, .mv (.t n0)⟩, n2, n0, [], [], false, true⟩, ⟨⟨some n68, none, .mv (.t n10)⟩, n3, n0, [], [], false, true⟩, ⟨⟨some n69, none, .mv (.t n0)⟩, n4, n0, [], [], false, false⟩, ⟨⟨some n70, none, .mv (.t n10)⟩, n5, n0, [], [], false, false⟩, ⟨⟨some n71, none, .iaddr n1 (.t n69) (.t n70)⟩, n6, n0, [], [], false, false⟩, ⟨⟨some n73, none, .mv (.t n0)⟩, n8, n0, [], [], false, false⟩, ⟨⟨some n74, none, .mv (.t n9)⟩, n9, n0, [], [], false, false⟩, ⟨⟨some n75, none, .iaddr n1 (.t n73) (.t n74)⟩, n10, n0, [], [], false, false⟩, ⟨⟨some n72, none, .load none (.t n71)⟩, n7, n0, [], [], false, false⟩, ⟨⟨some n76, none, .load none (.t n75)⟩, n11, n0, [], [], false, false⟩, ⟨⟨some n77, none, .iaddr n1 (.t n65) (.t n66)⟩, n12, n0, [], [], false, false⟩, ⟨⟨none, none, .store n1 (.t n77) (.t n72)⟩, n13, n0, [], [n12, n7, n0, n1, n4, n5, n6, n11, n10, n8, n9], false, false⟩, ⟨⟨some n78, none, .iaddr n1 (.t n67) (.t n68)⟩, n14, n0, [], [], false, false⟩, ⟨⟨none, none, .store n1 (.t n78) (.t n76)⟩, n15, n0, [], [n14, n11, n13, n0, n1, n2, n3, n4, n5, n6, n7, n8, n9, n10, n12], true, false⟩])
 (.seq (.ops [⟨some n79, none, .mv (.t n9)⟩, ⟨some n80, none, .bin .add (.t n79) (k n1)⟩, ⟨some n9, none, .mv (.t n80)⟩])
 (.ops [⟨some n81, none, .mv (.t n10)⟩, ⟨some n82, none, .bin .sub (.t n81) (k n1)⟩, ⟨some n10, none, .mv (.t n82)⟩])))))))))
 (.seq (.ops [⟨some n83, none, .mv (.t n9)⟩, ⟨some n8, none, .mv (.t n83)⟩])
 .ret)))))
def x195 : XFn := ⟨a195, n84, [(.t n8)], c195⟩
def a196 : Ann := ⟨[(n3, n12, n0), (n5, n12, n0), (n13, n12, n0), (n15, n12, n0)], []⟩
def c196 : ICode :=
 (.seq (.ops [⟨some n8, none, .mv (k n0)⟩, ⟨some n9, none, .mv (.c (.d (.bool false)))⟩])
 (.seq (.draw n0 [⟨⟨some n12, none, .mv (.t n0)⟩, n0, n0, [], [], false, false⟩, ⟨⟨some n13, none, .mv (.t n1)⟩, n1, n0, [], [], false, false⟩, ⟨⟨some n14, none, .mv (.t n0)⟩, n2, n0, [], [], false, true⟩, ⟨⟨some n15, none, .mv (.t n3)⟩, n3, n0, [], [], false, true⟩, ⟨⟨some n16, none, .mv (.t n0)⟩, n4, n0, [], [], false, false⟩, ⟨⟨some n17, none, .mv (.t n3)⟩, n5, n0, [], [], false, false⟩, ⟨⟨some n18, none, .iaddr n1 (.t n16) (.t n17)⟩, n6, n0, [], [], false, false⟩, ⟨⟨some n20, none, .mv (.t n0)⟩, n8, n0, [], [], false, false⟩, ⟨⟨some n21, none, .mv (.t n1)⟩, n9, n0, [], [], false, false⟩, ⟨⟨some n22, none, .iaddr n1 (.t n20) (.t n21)⟩, n10, n0, [], [], false, false⟩, ⟨⟨some n19, none, .load none (.t n18)⟩, n7, n0, [], [], false, false⟩, ⟨⟨some n23, none, .load none (.t n22)⟩, n11, n0, [], [], false, false⟩, ⟨⟨some n24, none, .iaddr n1 (.t n12) (.t n13)⟩, n12, n0, [], [], false, false⟩, ⟨⟨none, none, .store n1 (.t n24) (.t n19)⟩, n13, n0, [], [n12, n7, n0, n1, n4, n5, n6, n11, n10, n8, n9], false, false⟩, ⟨⟨some n25, none, .iaddr n1 (.t n14) (.t n15)⟩, n14, n0, [], [], false, false⟩, ⟨⟨none, none, .store n1 (.t n25) (.t n23)⟩, n15, n0, [], [n14, n11, n13, n0, n1, n2, n3, n4, n5, n6, n7, n8, n9, n10, n12], true, false⟩])
 (.seq (.ops [⟨some n26, none, .mv (.t n1)⟩, ⟨some n27, none, .bin .add (.t n26) (k n1)⟩, ⟨some n28, none, .mv (.t n2)⟩, ⟨some n29, none, .bin .sub (.t n28) (k n1)⟩, ⟨some n10, none, .mv (.t n27)⟩, ⟨some n11, none, .mv (.t n29)⟩])
 (.seq (.block n0 (.loop (.seq (.seq (.draw n0 [⟨⟨some n30, none, .mv (.t n10)⟩, n0, n0, [], [], false, false⟩, ⟨⟨some n31, none, .mv (.t n11)⟩, n1, n0, [], [], false, false⟩, ⟨⟨some n32, none, .bin .leq (.t n30) (.t n31)⟩, n2, n0, [], [], false, false⟩, ⟨⟨some n33, none, .mv (.t n32)⟩, n3, n0, [], [], false, false⟩, ⟨⟨some n34, (some (n33, true)), .mv (.t n0)⟩, n4, n0, [], [], false, false⟩, ⟨⟨some n35, (some (n33, true)), .mv (.t n10)⟩, n5, n0, [], [], false, false⟩, ⟨⟨some n36, (some (n33, true)), .iaddr n1 (.t n34) (.t n35)⟩, n6, n0, [], [], false, false⟩, ⟨⟨some n38, (some (n33, true)), .mv (.t n0)⟩, n8, n0, [], [], false, false⟩, ⟨⟨some n39, (some (n33, true)), .mv (.t n1)⟩, n9, n0, [], [], false, false⟩, ⟨⟨some n40, (some (n33, true)), .iaddr n1 (.t n38) (.t n39)⟩, n10, n0, [], [], false, false⟩, ⟨⟨some n37, (some (n33, true)), .load none (.t n36)⟩, n7, n0, [], [], false, false⟩, ⟨⟨some n41, (some (n33, true)), .load none (.t n40)⟩, n11, n0, [], [], false, false⟩, ⟨⟨some n42, (some (n33, true)), .call (.c (.fn n194 [] [])) [(.t n37), (.t n41)] .borrow⟩, n12, n0, [], [n7, n11, n3, n6, n4, n5, n2, n0, n1, n10, n8, n9], true, false⟩, ⟨⟨some n43, none, .pick (.t n33) (.t n42) (.c (.d (.bool false)))⟩, n13, n0, [], [], false, false⟩])
 (.cond (.t n43) .skip
 (.exit n0)))
 (.block n1 (.ops [⟨some n44, none, .mv (.t n10)⟩, ⟨some n45, none, .bin .add (.t n44) (k n1)⟩, ⟨some n10, none, .mv (.t n45)⟩])))))
 (.seq (.block n2 (.loop (.seq (.seq (.draw n0 [⟨⟨some n46, none, .mv (.t n10)⟩, n0, n0, [], [], false, false⟩, ⟨⟨some n47, none, .mv (.t n11)⟩, n1, n0, [], [], false, false⟩, ⟨⟨some n48, none, .bin .leq (.t n46) (.t n47)⟩, n2, n0, [], [], false, false⟩, ⟨⟨some n49, none, .mv (.t n48)⟩, n3, n0, [], [], false, false⟩, ⟨⟨some n50, (some (n49, true)), .mv (.t n0)⟩, n4, n0, [], [], false, false⟩, ⟨⟨some n51, (some (n49, true)), .mv (.t n11)⟩, n5, n0, [], [], false, false⟩, ⟨⟨some n52, (some (n49, true)), .iaddr n1 (.t n50) (.t n51)⟩, n6, n0, [], [], false, false⟩, ⟨⟨some n54, (some (n49, true)), .mv (.t n0)⟩, n8, n0, [], [], false, false⟩, ⟨⟨some n55, (some (n49, true)), .mv (.t n1)⟩, n9, n0, [], [], false, false⟩, ⟨⟨some n56, (some (n49, true)), .iaddr n1 (.t n54) (.t n55)⟩, n10, n0, [], [], false, false⟩, ⟨⟨some n53, (some (n49, true)), .load none (.t n52)⟩, n7, n0, [], [], false, false⟩, ⟨⟨some n57, (some (n49, true)), .load none (.t n56)⟩, n11, n0, [], [], false, false⟩, ⟨⟨some n58, (some (n49, true)), .call (.c (.fn n194 [] [])) [(.t n53), (.t n57)] .borrow⟩, n12, n0, [], [n7, n11, n3, n6, n4, n5, n2, n0, n1, n10, n8, n9], true, false⟩, ⟨⟨some n59, (some (n49, true)), .un .not (.t n58)⟩, n13, n0, [], [], false, false⟩, ⟨⟨some n60, none, .pick (.t n49) (.t n59) (.c (.d (.bool false)))⟩, n14, n0, [], [], false, false⟩])
 (.cond (.t n60) .skip
 (.exit n2)))
 (.block n3 (.ops [⟨some n61, none, .mv (.t n11)⟩, ⟨some n62, none, .bin .sub (.t n61) (k n1)⟩, ⟨some n11, none, .mv (.t n62)⟩])))))
 (.seq (.seq (.ops [⟨some n63, none, .mv (.t n10)⟩, ⟨some n64, none, .mv (.t n11)⟩, ⟨some n65, none, .bin .gtr (.t n63) (.t n64)⟩])
 (.cond (.t n65) (.seq (.draw n0 [⟨⟨some n66, none, .mv (.t n0)⟩, n0, n0, [], [], false, false⟩, ⟨⟨some n67, none, .mv (.t n11)⟩, n1, n0, [], [], false, false⟩, ⟨⟨some n68, none, .mv (.t n0)⟩, n2, n0, [], [], false, true⟩, ⟨⟨some n69, none, .mv (.t n1)⟩, n3, n0, [], [], false, true⟩, ⟨⟨some n70, none, .mv (.t n0)⟩, n4, n0, [], [], false, false⟩, ⟨⟨some n71, none, .mv (.t n1)⟩, n5, n0, [], [], false, false⟩, ⟨⟨some n72, none, .iaddr n1 (.t n70) (.t n71)⟩, n6, n0, [], [], false, false⟩, ⟨⟨some n74, none, .mv (.t n0)⟩, n8, n0, [], [], false, false⟩, ⟨⟨some n75, none, .mv (.t n11)⟩, n9, n0, [], [], false, false⟩, ⟨⟨some n76, none, .iaddr n1 (.t n74) (.t n75)⟩, n10, n0, [], [], false, false⟩, ⟨⟨some n73, none, .load none (.t n72)⟩, n7, n0, [], [], false, false⟩, ⟨⟨some n77, none, .load none (.t n76)⟩, n11, n0, [], [], false, false⟩, ⟨⟨some n78, none, .iaddr n1 (.t n66) (.t n67)⟩, n12, n0, [], [], false, false⟩, ⟨⟨none, none, .store n1 (.t n78) (.t n73)⟩, n13, n0, [], [n12, n7, n0, n1, n4, n5, n6, n11, n10, n8, n9], false, false⟩, ⟨⟨some n79, none, .iaddr n1 (.t n68) (.t n69)⟩, n14, n0, [], [], false, false⟩, ⟨⟨none, none, .store n1 (.t n79) (.t n77)⟩, n15, n0, [], [n14, n11, n13, n0, n1, n2, n3, n4, n5, n6, n7, n8, n9, n10, n12], true, false⟩])
 (.seq (.ops [⟨some n80, none, .mv (.t n11)⟩, ⟨some n8, none, .mv (.t n80)⟩, ⟨some n9, none, .mv (.c (.d (.bool true)))⟩])
 .ret))
 .skip))
 (.seq (.draw n0 [⟨⟨some n81, none, .mv (.t n0)⟩, n0, n0, [], [], false, false⟩, ⟨⟨some n82, none, .mv (.t n10)⟩, n1, n0, [], [], false, false⟩, ⟨⟨some n83, none, .mv (.t n0)⟩, n2, n0, [], [], false, true⟩, ⟨⟨some n84, none, .mv (.t n11)⟩, n3, n0, [], [], false, true⟩, ⟨⟨some n85, none, .mv (.t n0)⟩, n4, n0, [], [], false, false⟩, ⟨⟨some n86, none, .mv (.t n11)⟩, n5, n0, [], [], false, false⟩, ⟨⟨some n87, none, .iaddr n1 (.t n85) (.t n86)⟩, n6, n0, [], [], false, false⟩, ⟨⟨some n89, none, .mv (.t n0)⟩, n8, n0, [], [], false, false⟩, ⟨⟨some n90, none, .mv (.t n10)⟩, n9, n0, [], [], false, false⟩, ⟨⟨some n91, none, .iaddr n1 (.t n89) (.t n90)⟩, n10, n0, [], [], false, false⟩, ⟨⟨some n88, none, .load none (.t n87)⟩, n7, n0, [], [], false, false⟩, ⟨⟨some n92, none, .load none (.t n91)⟩, n11, n0, [], [], false, false⟩, ⟨⟨some n93, none, .iaddr n1 (.t n81) (.t n82)⟩, n12, n0, [], [], false, false⟩, ⟨⟨none, none, .store n1 (.t n93) (.t n88)⟩, n13, n0, [], [n12, n7, n0, n1, n4, n5, n6, n11, n10, n8, n9], false, false⟩, ⟨⟨some n94, none, .iaddr n1 (.t n83) (.t n84)⟩, n14, n0, [], [], false, false⟩, ⟨⟨none, none, .store n1 (.t n94) (.t n92)⟩, n15, n0, [], [n14, n11, n13, n0, n1, n2, n3, n4, n5, n6, n7, n8, n9, n10, n12], true, false⟩])
 (.seq (.ops [⟨some n95, none, .mv (.t n10)⟩, ⟨some n96, none, .bin .add (.t n95) (k n1)⟩, ⟨some n10, none, .mv (.t n96)⟩])
 (.seq (.ops [⟨some n97, none, .mv (.t n11)⟩, ⟨some n98, none, .bin .sub (.t n97) (k n1)⟩, ⟨some n11, none, .mv (.t n98)⟩])
 (.seq (.block n4 (.loop (.block n5 (.seq (.block n6 (.loop (.seq (.seq (.draw n0 [⟨⟨some n99, none, .mv (.t n10)⟩, n0, n0, [], [], false, false⟩, ⟨⟨some n100, none, .mv (.t n11)⟩, n1, n0, [], [], false, false⟩, ⟨⟨some n101, none, .bin .leq (.t n99) (.t n100)⟩, n2, n0, [], [], false, false⟩, ⟨⟨some n102, none, .mv (.t n101)⟩, n3, n0, [], [], false, false⟩, ⟨⟨some n103, (some (n102, true)), .mv (.t n0)⟩, n4, n0, [], [], false, false⟩, ⟨⟨some n104, (some (n102, true)), .mv (.t n10)⟩, n5, n0, [], [], false, false⟩, ⟨⟨some n105, (some (n102, true)), .iaddr n1 (.t n103) (.t n104)⟩, n6, n0, [], [], false, false⟩, ⟨⟨some n107, (some (n102, true)), .mv (.t n0)⟩, n8, n0, [], [], false, false⟩, ⟨⟨some n108, (some (n102, true)), .mv (.t n1)⟩, n9, n0, [], [], false, false⟩, ⟨⟨some n109, (some (n102, true)), .iaddr n1 (.t n107) (.t n108)⟩, n10, n0, [], [], false, false⟩, ⟨⟨some n106, (some (n102, true)), .load none (.t n105)⟩, n7, n0, [], [], false, false⟩, ⟨⟨some n110, (some (n102, true)), .load none (.t n109)⟩, n11, n0, [], [], false, false⟩, ⟨⟨some n111, (some (n102, true)), .call (.c (.fn n194 [] [])) [(.t n106), (.t n110)] .borrow⟩, n12, n0, [], [n7, n11, n3, n6, n4, n5, n2, n0, n1, n10, n8, n9], true, false⟩, ⟨⟨some n112, none, .pick (.t n102) (.t n111) (.c (.d (.bool false)))⟩, n13, n0, [], [], false, false⟩])
 (.cond (.t n112) .skip
 (.exit n6)))
 (.block n7 (.ops [⟨some n113, none, .mv (.t n10)⟩, ⟨some n114, none, .bin .add (.t n113) (k n1)⟩, ⟨some n10, none, .mv (.t n114)⟩])))))
 (.seq (.block n8 (.loop (.seq (.seq (.draw n0 [⟨⟨some n115, none, .mv (.t n10)⟩, n0, n0, [], [], false, false⟩, ⟨⟨some n116, none, .mv (.t n11)⟩, n1, n0, [], [], false, false⟩, ⟨⟨some n117, none, .bin .leq (.t n115) (.t n116)⟩, n2, n0, [], [], false, false⟩, ⟨⟨some n118, none, .mv (.t n117)⟩, n3, n0, [], [], false, false⟩, ⟨⟨some n119, (some (n118, true)), .mv (.t n0)⟩, n4, n0, [], [], false, false⟩, ⟨⟨some n120, (some (n118, true)), .mv (.t n11)⟩, n5, n0, [], [], false, false⟩, ⟨⟨some n121, (some (n118, true)), .iaddr n1 (.t n119) (.t n120)⟩, n6, n0, [], [], false, false⟩, ⟨⟨some n123, (some (n118, true)), .mv (.t n0)⟩, n8, n0, [], [], false, false⟩, ⟨⟨some n124, (some (n118, true)), .mv (.t n1)⟩, n9, n0, [], [], false, false⟩, ⟨⟨some n125, (some (n118, true)), .iaddr n1 (.t n123) (.t n124)⟩, n10, n0, [], [], false, false⟩, ⟨⟨some n122, (some (n118, true)), .load none (.t n121)⟩, n7, n0, [], [], false, false⟩, ⟨⟨some n126, (some (n118, true)), .load none (.t n125)⟩, n11, n0, [], [], false, false⟩, ⟨⟨some n127, (some (n118, true)), .call (.c (.fn n194 [] [])) [(.t n122), (.t n126)] .borrow⟩, n12, n0, [], [n7, n11, n3, n6, n4, n5, n2, n0, n1, n10, n8, n9], true, false⟩, ⟨⟨some n128, (some (n118, true)), .un .not (.t n127)⟩, n13, n0, [], [], false, false⟩, ⟨⟨some n129, none, .pick (.t n118) (.t n128) (.c (.d (.bool false)))⟩, n14, n0, [], [], false, false⟩])
 (.cond (.t n129) .skip
 (.exit n8)))
 (.block n9 (.ops [⟨some n130, none, .mv (.t n11)⟩, ⟨some n131, none, .bin .sub (.t n130) (k n1)⟩, ⟨some n11, none, .mv (.t n131)⟩])))))
 (.seq (.seq (.ops [⟨some n132, none, .mv (.t n10)⟩, ⟨some n133, none, .mv (.t n11)⟩, ⟨some n134, none, .bin .gtr (.t n132) (.t n133)⟩])
 (.cond (.t n134) (.exit n4)
 .skip))
 (.seq (.draw n0 [⟨⟨some n135, none, .mv (.t n0)⟩, n0, n0, [], [], false, false⟩, ⟨⟨some n136, none, .mv (.t n10)⟩, n1, n0, [], [], false, false⟩, ⟨⟨some n137, none, .mv (.t n0)⟩, n2, n0, [], [], false, true⟩, ⟨⟨some n138, none, .mv (.t n11)⟩, n3, n0, [], [], false, true⟩, ⟨⟨some n139, none, .mv (.t n0)⟩, n4, n0, [], [], false, false⟩, ⟨⟨some n140, none, .mv (.t n11)⟩, n5, n0, [], [], false, false⟩, ⟨⟨some n141, none, .iaddr n1 (.t n139) (.t n140)⟩, n6, n0, [], [], false, false⟩, ⟨⟨some n143, none, .mv (.t n0)⟩, n8, n0, [], [], false, false⟩, ⟨⟨some n144, none, .mv (.t n10)⟩, n9, n0, [], [], false, false⟩, ⟨⟨some n145, none, .iaddr n1 (.t n143) (.t n144)⟩, n10, n0, [], [], false, false⟩, ⟨⟨some n142, none, .load none (.t n141)⟩, n7, n0, [], [], false, false⟩, ⟨⟨some n146, none, .load none (.t n145)⟩, n11, n0, [], [], false, false⟩, ⟨⟨some n147, none, .iaddr n1 (.t n135) (.t n136)⟩, n12, n0, [], [], false, false⟩, ⟨⟨none, none, .store n1 (.t n147) (.t n142)⟩, n13, n0, [], [n12, n7, n0, n1, n4, n5, n6, n11, n10, n8, n9], false, false⟩, ⟨⟨some n148, none, .iaddr n1 (.t n137) (.t n138)⟩, n14, n0, [], [], false, false⟩, ⟨⟨none, none, .store n1 (.t n148) (.t n146)⟩, n15, n0, [], [n14, n11, n13, n0, n1, n2, n3, n4, n5, n6, n7, n8, n9, n10, n12], true, false⟩])
 (.seq (.ops [⟨some n149, none, .mv (.t n10)⟩, ⟨some n150, none, .bin .add (.t n149) (k n1)⟩, ⟨some n10, none, .mv (.t n150)⟩])
 (.ops [⟨some n151, none, .mv (.t n11)⟩, ⟨some n152, none, .bin .sub (.t n151) (k n1)⟩, ⟨some n11, none, .mv (.t n152)⟩])))))))))
 (.seq (.draw n0 [⟨⟨some n153, none, .mv (.t n0)⟩, n0, n0, [], [], false, false⟩, ⟨⟨some n154, none, .mv (.t n11)⟩, n1, n0, [], [], false, false⟩, ⟨⟨some n155, none, .mv (.t n0)⟩, n2, n0, [], [], false, true⟩, ⟨⟨some n156, none, .mv (.t n1)⟩, n3, n0, [], [], false, true⟩, ⟨⟨some n157, none, .mv (.t n0)⟩, n4, n0, [], [], false, false⟩, ⟨⟨some n158, none, .mv (.t n1)⟩, n5, n0, [], [], false, false⟩, ⟨⟨some n159, none, .iaddr n1 (.t n157) (.t n158)⟩, n6, n0, [], [], false, false⟩, ⟨⟨some n161, none, .mv (.t n0)⟩, n8, n0, [], [], false, false⟩, ⟨⟨some n162, none, .mv (.t n11)⟩, n9, n0, [], [], false, false⟩, ⟨⟨some n163, none, .iaddr n1 (.t n161) (.t n162)⟩, n10, n0, [], [], false, false⟩, ⟨⟨some n160, none, .load none (.t n159)⟩, n7, n0, [], [], false, false⟩, ⟨⟨some n164, none, .load none (.t n163)⟩, n11, n0, [], [], false, false⟩, ⟨⟨some n165, none, .iaddr n1 (.t n153) (.t n154)⟩, n12, n0, [], [], false, false⟩, ⟨⟨none, none, .store n1 (.t n165) (.t n160)⟩, n13, n0, [], [n12, n7, n0, n1, n4, n5, n6, n11, n10, n8, n9], false, false⟩, ⟨⟨some n166, none, .iaddr n1 (.t n155) (.t n156)⟩, n14, n0, [], [], false, false⟩, ⟨⟨none, none, .store n1 (.t n166) (.t n164)⟩, n15, n0, [], [n14, n11, n13, n0, n1, n2, n3, n4, n5, n6, n7, n8, n9, n10, n12], true, false⟩])
 (.seq (.ops [⟨some n167, none, .mv (.t n11)⟩, ⟨some n8, none, .mv (.t n167)⟩, ⟨some n9, none, .mv (.c (.d (.bool false)))⟩])
 .ret))))))))))))
def x196 : XFn := ⟨a196, n168, [(.t n8), (.t n9)], c196⟩
def a197 : Ann := ⟨[(n1, n7, n0), (n1, n8, n0)], []⟩
def c197 : ICode :=
 (.seq (.ops [⟨some n5, none, .mv (.c (.d (.bool false)))⟩])
 (.seq (.draw n0 [⟨⟨some n7, none, .mv (.t n0)⟩, n1, n0, [], [], false, true⟩, ⟨⟨some n9, none, .faddr n0 (.t n1)⟩, n3, n0, [], [], false, false⟩, ⟨⟨some n11, none, .faddr n0 (.t n3)⟩, n5, n0, [], [], false, false⟩, ⟨⟨some n6, none, .load (some n7) (.t n1)⟩, n0, n0, [], [], false, true⟩, ⟨⟨some n8, none, .load none (.t n2)⟩, n2, n0, [], [], false, true⟩, ⟨⟨some n10, none, .load (some n2) (.t n9)⟩, n4, n0, [], [], false, false⟩, ⟨⟨some n12, none, .load none (.t n11)⟩, n6, n0, [], [], false, false⟩, ⟨⟨some n13, none, .call (.c (.fn n198 [] [])) [(.t n10), (.t n12)] .borrow⟩, n7, n0, [], [n4, n6, n3, n5], false, false⟩, ⟨⟨some n14, none, .call (.c (.fn n179 [] [])) [(.t n6), (.t n7), (.t n8), (.t n13)] .borrow⟩, n8, n0, [], [n0, n1, n2, n7, n4, n6, n3, n5], true, false⟩, ⟨⟨some n5, none, .mv (.t n14)⟩, n9, n0, [], [], false, false⟩])
 .ret))
def x197 : XFn := ⟨a197, n15, [(.t n5)], c197⟩
def a198 : Ann := ⟨[(n1, n3, n0)], []⟩
def c198 : ICode :=
 (.seq (.ops [⟨some n2, none, .box (.t n0)⟩, ⟨some n4, none, .mv (k n0)⟩])
 (.seq (.ops [⟨some n5, none, .faddr n1 (.t n2)⟩, ⟨some n6, none, .load none (.t n5)⟩, ⟨some n7, none, .mv (.t n1)⟩, ⟨some n8, none, .call (.c (.fn n96 [] [])) [(.t n6), (.t n7)] .borrow⟩, ⟨some n4, none, .mv (.t n8)⟩])
 .ret))
def x198 : XFn := ⟨a198, n9, [(.t n4)], c198⟩
def a199 : Ann := ⟨[(n3, n18, n0), (n5, n12, n0)], []⟩
def c199 : ICode :=
 (.seq (.ops [⟨some n10, none, .mv (.t n1)⟩, ⟨some n8, none, .mv (.t n10)⟩])
 (.block n0 (.loop (.block n1 (.seq (.ops [⟨some n11, none, .mv (.t n8)⟩, ⟨some n12, none, .bin .mul (k n2) (.t n11)⟩, ⟨some n13, none, .bin .add (.t n12) (k n1)⟩, ⟨some n9, none, .mv (.t n13)⟩])
 (.seq (.seq (.ops [⟨some n14, none, .mv (.t n9)⟩, ⟨some n15, none, .mv (.t n2)⟩, ⟨some n16, none, .bin .geq (.t n14) (.t n15)⟩])
 (.cond (.t n16) (.exit n0)
 .skip))
 (.seq (.seq (.draw n0 [⟨⟨some n17, none, .mv (.t n9)⟩, n0, n0, [], [], false, false⟩, ⟨⟨some n18, none, .bin .add (.t n17) (k n1)⟩, n1, n0, [], [], false, false⟩, ⟨⟨some n19, none, .mv (.t n2)⟩, n2, n0, [], [], false, false⟩, ⟨⟨some n20, none, .bin .lss (.t n18) (.t n19)⟩, n3, n0, [], [], false, false⟩, ⟨⟨some n21, none, .mv (.t n20)⟩, n4, n0, [], [], false, false⟩, ⟨⟨some n22, (some (n21, true)), .mv (.t n0)⟩, n5, n0, [], [], false, false⟩, ⟨⟨some n23, (some (n21, true)), .mv (.t n3)⟩, n6, n0, [], [], false, false⟩, ⟨⟨some n24, (some (n21, true)), .mv (.t n9)⟩, n7, n0, [], [], false, false⟩, ⟨⟨some n25, (some (n21, true)), .bin .add (.t n23) (.t n24)⟩, n8, n0, [], [], false, false⟩, ⟨⟨some n26, (some (n21, true)), .iaddr n1 (.t n22) (.t n25)⟩, n9, n0, [], [], false, false⟩, ⟨⟨some n28, (some (n21, true)), .mv (.t n0)⟩, n11, n0, [], [], false, false⟩, ⟨⟨some n29, (some (n21, true)), .mv (.t n3)⟩, n12, n0, [], [], false, false⟩, ⟨⟨some n30, (some (n21, true)), .mv (.t n9)⟩, n13, n0, [], [], false, false⟩, ⟨⟨some n31, (some (n21, true)), .bin .add (.t n29) (.t n30)⟩, n14, n0, [], [], false, false⟩, ⟨⟨some n32, (some (n21, true)), .bin .add (.t n31) (k n1)⟩, n15, n0, [], [], false, false⟩, ⟨⟨some n33, (some (n21, true)), .iaddr n1 (.t n28) (.t n32)⟩, n16, n0, [], [], false, false⟩, ⟨⟨some n27, (some (n21, true)), .load none (.t n26)⟩, n10, n0, [], [], false, false⟩, ⟨⟨some n34, (some (n21, true)), .load none (.t n33)⟩, n17, n0, [], [], false, false⟩, ⟨⟨some n35, (some (n21, true)), .call (.c (.fn n194 [] [])) [(.t n27), (.t n34)] .borrow⟩, n18, n0, [], [n10, n17, n4, n9, n5, n8, n3, n1, n2, n0, n6, n7, n16, n11, n15, n14, n12, n13], true, false⟩, ⟨⟨some n36, none, .pick (.t n21) (.t n35) (.c (.d (.bool false)))⟩, n19, n0, [], [], false, false⟩])
 (.cond (.t n36) (.ops [⟨some n37, none, .mv (.t n9)⟩, ⟨some n38, none, .bin .add (.t n37) (k n1)⟩, ⟨some n9, none, .mv (.t n38)⟩])
 .skip))
 (.seq (.seq (.draw n0 [⟨⟨some n39, none, .mv (.t n0)⟩, n0, n0, [], [], false, false⟩, ⟨⟨some n40, none, .mv (.t n3)⟩, n1, n0, [], [], false, false⟩, ⟨⟨some n41, none, .mv (.t n8)⟩, n2, n0, [], [], false, false⟩, ⟨⟨some n42, none, .bin .add (.t n40) (.t n41)⟩, n3, n0, [], [], false, false⟩, ⟨⟨some n43, none, .iaddr n1 (.t n39) (.t n42)⟩, n4, n0, [], [], false, false⟩, ⟨⟨some n45, none, .mv (.t n0)⟩, n6, n0, [], [], false, false⟩, ⟨⟨some n46, none, .mv (.t n3)⟩, n7, n0, [], [], false, false⟩, ⟨⟨some n47, none, .mv (.t n9)⟩, n8, n0, [], [], false, false⟩, ⟨⟨some n48, none, .bin .add (.t n46) (.t n47)⟩, n9, n0, [], [], false, false⟩, ⟨⟨some n49, none, .iaddr n1 (.t n45) (.t n48)⟩, n10, n0, [], [], false, false⟩, ⟨⟨some n44, none, .load none (.t n43)⟩, n5, n0, [], [], false, false⟩, ⟨⟨some n50, none, .load none (.t n49)⟩, n11, n0, [], [], false, false⟩, ⟨⟨some n51, none, .call (.c (.fn n194 [] [])) [(.t n44), (.t n50)] .borrow⟩, n12, n0, [], [n5, n11, n4, n0, n3, n1, n2, n10, n6, n9, n7, n8], true, false⟩, ⟨⟨some n52, none, .un .not (.t n51)⟩, n13, n0, [], [], false, false⟩])
 (.cond (.t n52) .ret
 .skip))
 (.seq (.draw n0 [⟨⟨some n53, none, .mv (.t n0)⟩, n0, n0, [], [], false, false⟩, ⟨⟨some n54, none, .mv (.t n3)⟩, n1, n0, [], [], false, false⟩, ⟨⟨some n55, none, .mv (.t n8)⟩, n2, n0, [], [], false, false⟩, ⟨⟨some n56, none, .bin .add (.t n54) (.t n55)⟩, n3, n0, [], [], false, false⟩, ⟨⟨some n57, none, .mv (.t n0)⟩, n4, n0, [], [], false, true⟩, ⟨⟨some n58, none, .mv (.t n3)⟩, n5, n0, [], [], false, true⟩, ⟨⟨some n59, none, .mv (.t n9)⟩, n6, n0, [], [], false, true⟩, ⟨⟨some n60, none, .bin .add (.t n58) (.t n59)⟩, n7, n0, [], [], false, true⟩, ⟨⟨some n61, none, .mv (.t n0)⟩, n8, n0, [], [], false, false⟩, ⟨⟨some n62, none, .mv (.t n3)⟩, n9, n0, [], [], false, false⟩, ⟨⟨some n63, none, .mv (.t n9)⟩, n10, n0, [], [], false, false⟩, ⟨⟨some n64, none, .bin .add (.t n62) (.t n63)⟩, n11, n0, [], [], false, false⟩, ⟨⟨some n65, none, .iaddr n1 (.t n61) (.t n64)⟩, n12, n0, [], [], false, false⟩, ⟨⟨some n67, none, .mv (.t n0)⟩, n14, n0, [], [], false, false⟩, ⟨⟨some n68, none, .mv (.t n3)⟩, n15, n0, [], [], false, false⟩, ⟨⟨some n69, none, .mv (.t n8)⟩, n16, n0, [], [], false, false⟩, ⟨⟨some n70, none, .bin .add (.t n68) (.t n69)⟩, n17, n0, [], [], false, false⟩, ⟨⟨some n71, none, .iaddr n1 (.t n67) (.t n70)⟩, n18, n0, [], [], false, false⟩, ⟨⟨some n66, none, .load none (.t n65)⟩, n13, n0, [], [], false, false⟩, ⟨⟨some n72, none, .load none (.t n71)⟩, n19, n0, [], [], false, false⟩, ⟨⟨some n73, none, .iaddr n1 (.t n53) (.t n56)⟩, n20, n0, [], [], false, false⟩, ⟨⟨none, none, .store n1 (.t n73) (.t n66)⟩, n21, n0, [], [n20, n13, n0, n1, n2, n3, n8, n9, n10, n11, n12, n19, n18, n14, n17, n15, n16], false, false⟩, ⟨⟨some n74, none, .iaddr n1 (.t n57) (.t n60)⟩, n22, n0, [], [], false, false⟩, ⟨⟨none, none, .store n1 (.t n74) (.t n72)⟩, n23, n0, [], [n22, n19, n21, n0, n1, n2, n3, n4, n5, n6, n7, n8, n9, n10, n11, n12, n13, n14, n15, n16, n17, n18, n20], true, false⟩])
 (.ops [⟨some n75, none, .mv (.t n9)⟩, ⟨some n8, none, .mv (.t n75)⟩]))))))))))
def x199 : XFn := ⟨a199, n76, [], c199⟩
def a200 : Ann := ⟨[(n1, n7, n2)], []⟩
def c200 : ICode :=
 (.seq (.ops [⟨some n6, none, .mv (k n0)⟩])
 (.seq (.ops [⟨some n7, none, .mv (.t n0)⟩, ⟨some n8, none, .mv (.t n1)⟩, ⟨some n9, none, .bin .sub (.t n8) (k n1)⟩, ⟨some n10, none, .mv (.t n1)⟩, ⟨some n11, none, .mv (.t n1)⟩, ⟨some n12, none, .bin .add (.t n11) (k n1)⟩, ⟨some n13, none, .mv (.t n2)⟩, ⟨some n14, none, .call (.c (.fn n201 [] [])) [(.t n7), (.t n9), (.t n10), (.t n12), (.t n13)] .raw⟩, ⟨some n6, none, .mv (.t n14)⟩])
 .ret))
def x200 : XFn := ⟨a200, n15, [(.t n6)], c200⟩
def a201 : Ann := ⟨[(n1, n4, n2), (n2, n4, n2), (n3, n4, n2)], []⟩
def c201 : ICode :=
 (.seq (.ops [⟨some n10, none, .mv (k n0)⟩])
 (.seq (.ops [⟨some n12, none, .mv (.t n0)⟩, ⟨some n13, none, .mv (.t n1)⟩, ⟨some n14, none, .mv (.t n2)⟩, ⟨some n15, none, .mv (.t n4)⟩, ⟨some n16, none, .call (.c (.fn n202 [] [])) [(.t n12), (.t n13), (.t n14), (.t n15)] .raw⟩, ⟨some n11, none, .mv (.t n16)⟩, ⟨some n17, none, .extract (.t n11) n0⟩, ⟨some n18, none, .extract (.t n11) n1⟩, ⟨some n1, none, .mv (.t n17)⟩, ⟨some n2, none, .mv (.t n18)⟩])
 (.seq (.ops [⟨some n20, none, .mv (.t n0)⟩, ⟨some n21, none, .mv (.t n2)⟩, ⟨some n22, none, .mv (.t n3)⟩, ⟨some n23, none, .mv (.t n4)⟩, ⟨some n24, none, .call (.c (.fn n202 [] [])) [(.t n20), (.t n21), (.t n22), (.t n23)] .raw⟩, ⟨some n19, none, .mv (.t n24)⟩, ⟨some n25, none, .extract (.t n19) n0⟩, ⟨some n26, none, .extract (.t n19) n1⟩, ⟨some n2, none, .mv (.t n25)⟩, ⟨some n3, none, .mv (.t n26)⟩])
 (.seq (.ops [⟨some n28, none, .mv (.t n0)⟩, ⟨some n29, none, .mv (.t n1)⟩, ⟨some n30, none, .mv (.t n2)⟩, ⟨some n31, none, .mv (.t n4)⟩, ⟨some n32, none, .call (.c (.fn n202 [] [])) [(.t n28), (.t n29), (.t n30), (.t n31)] .raw⟩, ⟨some n27, none, .mv (.t n32)⟩, ⟨some n33, none, .extract (.t n27) n0⟩, ⟨some n34, none, .extract (.t n27) n1⟩, ⟨some n1, none, .mv (.t n33)⟩, ⟨some n2, none, .mv (.t n34)⟩])
 (.seq (.ops [⟨some n35, none, .mv (.t n2)⟩, ⟨some n10, none, .mv (.t n35)⟩])
 .ret)))))
def x201 : XFn := ⟨a201, n36, [(.t n10)], c201⟩
def a202 : Ann := ⟨[(n1, n8, n0)], []⟩
def c202 : ICode :=
 (.seq (.ops [⟨some n8, none, .mv (k n0)⟩, ⟨some n9, none, .mv (k n0)⟩])
 (.seq (.seq (.draw n0 [⟨⟨some n10, none, .mv (.t n0)⟩, n0, n0, [], [], false, false⟩, ⟨⟨some n11, none, .mv (.t n2)⟩, n1, n0, [], [], false, false⟩, ⟨⟨some n12, none, .iaddr n1 (.t n10) (.t n11)⟩, n2, n0, [], [], false, false⟩, ⟨⟨some n14, none, .mv (.t n0)⟩, n4, n0, [], [], false, false⟩, ⟨⟨some n15, none, .mv (.t n1)⟩, n5, n0, [], [], false, false⟩, ⟨⟨some n16, none, .iaddr n1 (.t n14) (.t n15)⟩, n6, n0, [], [], false, false⟩, ⟨⟨some n13, none, .load none (.t n12)⟩, n3, n0, [], [], false, false⟩, ⟨⟨some n17, none, .load none (.t n16)⟩, n7, n0, [], [], false, false⟩, ⟨⟨some n18, none, .call (.c (.fn n194 [] [])) [(.t n13), (.t n17)] .borrow⟩, n8, n0, [], [n3, n7, n2, n0, n1, n6, n4, n5], true, false⟩])
 (.cond (.t n18) (.seq (.ops [⟨some n19, none, .mv (.t n3)⟩, ⟨some n20, none, .nilchk (.t n19)⟩, ⟨some n21, none, .load none (.t n20)⟩, ⟨some n22, none, .bin .add (.t n21) (k n1)⟩, ⟨some n23, none, .nilchk (.t n19)⟩, ⟨none, none, .store n1 (.t n23) (.t n22)⟩])
 (.seq (.ops [⟨some n24, none, .mv (.t n2)⟩, ⟨some n25, none, .mv (.t n1)⟩, ⟨some n8, none, .mv (.t n24)⟩, ⟨some n9, none, .mv (.t n25)⟩])
 .ret))
 .skip))
 (.seq (.ops [⟨some n26, none, .mv (.t n1)⟩, ⟨some n27, none, .mv (.t n2)⟩, ⟨some n8, none, .mv (.t n26)⟩, ⟨some n9, none, .mv (.t n27)⟩])
 .ret)))
def x202 : XFn := ⟨a202, n28, [(.t n8), (.t n9)], c202⟩
def tab : XT := (.node n130 x130 (.node n87 x87 (.node n55 x55 (.node n30 x30 (.node n23 x23 (.node n18 x18 (.node n17 x17 (.node n13 x13 .leaf .leaf) .leaf) (.node n20 x20 .leaf .leaf)) (.node n27 x27 (.node n25 x25 .leaf .leaf) (.node n28 x28 .leaf .leaf))) (.node n46 x46 (.node n40 x40 (.node n37 x37 (.node n36 x36 .leaf .leaf) .leaf) (.node n45 x45 .leaf .leaf)) (.node n53 x53 (.node n47 x47 .leaf .leaf) (.node n54 x54 .leaf .leaf)))) (.node n67 x67 (.node n62 x62 (.node n60 x60 (.node n57 x57 (.node n56 x56 .leaf .leaf) .leaf) (.node n61 x61 .leaf .leaf)) (.node n64 x64 (.node n63 x63 .leaf .leaf) (.node n65 x65 .leaf .leaf))) (.node n78 x78 (.node n70 x70 (.node n69 x69 .leaf .leaf) (.node n71 x71 .leaf .leaf)) (.node n81 x81 (.node n79 x79 .leaf .leaf) (.node n82 x82 .leaf .leaf))))) (.node n107 x107 (.node n98 x98 (.node n94 x94 (.node n92 x92 (.node n89 x89 (.node n88 x88 .leaf .leaf) .leaf) (.node n93 x93 .leaf .leaf)) (.node n96 x96 (.node n95 x95 .leaf .leaf) (.node n97 x97 .leaf .leaf))) (.node n102 x102 (.node n100 x100 (.node n99 x99 .leaf .leaf) (.node n101 x101 .leaf .leaf)) (.node n104 x104 (.node n103 x103 .leaf .leaf) (.node n105 x105 .leaf .leaf)))) (.node n122 x122 (.node n118 x118 (.node n112 x112 (.node n109 x109 (.node n108 x108 .leaf .leaf) .leaf) (.node n113 x113 .leaf .leaf)) (.node n120 x120 (.node n119 x119 .leaf .leaf) (.node n121 x121 .leaf .leaf))) (.node n126 x126 (.node n124 x124 (.node n123 x123 .leaf .leaf) (.node n125 x125 .leaf .leaf)) (.node n128 x128 (.node n127 x127 .leaf .leaf) (.node n129 x129 .leaf .leaf)))))) (.node n169 x169 (.node n148 x148 (.node n139 x139 (.node n135 x135 (.node n133 x133 (.node n132 x132 (.node n131 x131 .leaf .leaf) .leaf) (.node n134 x134 .leaf .leaf)) (.node n137 x137 (.node n136 x136 .leaf .leaf) (.node n138 x138 .leaf .leaf))) (.node n144 x144 (.node n142 x142 (.node n141 x141 .leaf .leaf) (.node n143 x143 .leaf .leaf)) (.node n146 x146 (.node n145 x145 .leaf .leaf) (.node n147 x147 .leaf .leaf)))) (.node n161 x161 (.node n157 x157 (.node n151 x151 (.node n150 x150 (.node n149 x149 .leaf .leaf) .leaf) (.node n156 x156 .leaf .leaf)) (.node n159 x159 (.node n158 x158 .leaf .leaf) (.node n160 x160 .leaf .leaf))) (.node n165 x165 (.node n163 x163 (.node n162 x162 .leaf .leaf) (.node n164 x164 .leaf .leaf)) (.node n167 x167 (.node n166 x166 .leaf .leaf) (.node n168 x168 .leaf .leaf))))) (.node n186 x186 (.node n178 x178 (.node n174 x174 (.node n172 x172 (.node n171 x171 (.node n170 x170 .leaf .leaf) .leaf) (.node n173 x173 .leaf .leaf)) (.node n176 x176 (.node n175 x175 .leaf .leaf) (.node n177 x177 .leaf .leaf))) (.node n182 x182 (.node n180 x180 (.node n179 x179 .leaf .leaf) (.node n181 x181 .leaf .leaf)) (.node n184 x184 (.node n183 x183 .leaf .leaf) (.node n185 x185 .leaf .leaf)))) (.node n195 x195 (.node n191 x191 (.node n189 x189 (.node n188 x188 (.node n187 x187 .leaf .leaf) .leaf) (.node n190 x190 .leaf .leaf)) (.node n193 x193 (.node n192 x192 .leaf .leaf) (.node n194 x194 .leaf .leaf))) (.node n199 x199 (.node n197 x197 (.node n196 x196 .leaf .leaf) (.node n198 x198 .leaf .leaf)) (.node n201 x201 (.node n200 x200 .leaf .leaf) (.node n202 x202 .leaf .leaf)))))))
end
end Go.Proofs.Tryz.Run
