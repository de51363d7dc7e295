/- Further functions, and that they are what the program has. Conditions: none. -/
import Derived.Test.YtpcokdalcafgdaaGreatNb
namespace Go.Proofs.Tryz.Run
open Go Go.Vf Go.Proofs
noncomputable section
def n400 : Nat := nat_lit 400
def a6 : Ann := ⟨[(n2, n0, n0), (n3, n1, n1), (n3, n2, n1), (n4, n1, n0), (n6, n9, n0), (n7, n5, n1), (n7, n6, n0), (n7, n9, n0)], []⟩
def c6 : ICode :=
 (.seq (.ops [⟨some n1, none, .box (.t n0)⟩, ⟨some n2, none, .mv (.c (.d (.bool false)))⟩])
 (.seq (.seq (.ops [⟨some n6, none, .faddr n1 (.t n1)⟩, ⟨some n7, none, .load none (.t n6)⟩, ⟨some n8, none, .len (.t n7)⟩, ⟨some n9, none, .bin .gtr (.t n8) (k n400)⟩, ⟨some n10, none, .mv (.t n9)⟩, ⟨some n11, (some (n10, false)), .faddr n0 (.t n1)⟩, ⟨some n12, (some (n10, false)), .load none (.t n11)⟩, ⟨some n13, (some (n10, false)), .len (.t n12)⟩, ⟨some n14, (some (n10, false)), .bin .gtr (.t n13) (k n8)⟩, ⟨some n15, none, .pick (.t n10) (.c (.d (.bool true))) (.t n14)⟩, ⟨some n16, none, .mv (.t n15)⟩, ⟨some n17, (some (n16, false)), .faddr n2 (.t n1)⟩, ⟨some n18, (some (n16, false)), .load none (.t n17)⟩, ⟨some n19, (some (n16, false)), .len (.t n18)⟩, ⟨some n20, (some (n16, false)), .bin .gtr (.t n19) (k n400)⟩, ⟨some n21, none, .pick (.t n16) (.c (.d (.bool true))) (.t n20)⟩])
 (.cond (.t n21) (.seq (.ops [⟨some n22, none, .call (.c (.fn n17 [] [])) [] .borrow⟩, ⟨some n2, none, .mv (.t n22)⟩])
 .ret)
 .skip))
 (.seq (.ops [⟨some n24, none, .load (some n3) (.t n1)⟩, ⟨some n25, none, .call (.c (.fn n31 [] [])) [(.t n24)] .share⟩, ⟨some n26, none, .call (.c (.fn n30 [] [])) [(.t n25)] .share⟩, ⟨some n23, none, .mv (.t n26)⟩, ⟨some n27, none, .extract (.t n23) n0⟩, ⟨some n28, none, .extract (.t n23) n1⟩, ⟨some n3, none, .mv (.t n27)⟩, ⟨some n4, none, .mv (.t n28)⟩])
 (.seq (.seq (.ops [⟨some n29, none, .load (some n3) (.t n1)⟩, ⟨some n30, none, .call (.c (.fn n32 [] [])) [(.t n29)] .borrow⟩, ⟨some n5, none, .mv (.t n30)⟩])
 (.seq (.ops [⟨some n31, none, .mv (.t n5)⟩, ⟨some n32, none, .bin .neq (.t n31) (k n0)⟩])
 (.cond (.t n32) (.seq (.ops [⟨some n33, none, .mv (.t n4)⟩, ⟨some n34, none, .mv (.t n5)⟩, ⟨some n35, none, .bin .eql (.t n33) (.t n34)⟩, ⟨some n36, none, .mv (.t n35)⟩, ⟨some n37, (some (n36, true)), .mv (.t n3)⟩, ⟨some n38, (some (n36, true)), .len (.t n37)⟩, ⟨some n39, (some (n36, true)), .bin .eql (.t n38) (k n0)⟩, ⟨some n40, none, .pick (.t n36) (.t n39) (.c (.d (.bool false)))⟩, ⟨some n41, none, .mv (.t n40)⟩, ⟨some n42, (some (n41, true)), .call (.c (.fn n17 [] [])) [] .borrow⟩, ⟨some n43, none, .pick (.t n41) (.t n42) (.c (.d (.bool false)))⟩, ⟨some n2, none, .mv (.t n43)⟩])
 .ret)
 .skip)))
 (.seq (.ops [⟨some n44, none, .mv (.t n4)⟩, ⟨some n45, none, .bin .eql (.t n44) (k n0)⟩, ⟨some n46, none, .mv (.t n45)⟩, ⟨some n47, (some (n46, true)), .mv (.t n3)⟩, ⟨some n48, (some (n46, true)), .load (some n3) (.t n1)⟩, ⟨some n49, (some (n46, true)), .call (.c (.fn n33 [] [])) [(.t n48)] .share⟩, ⟨some n50, (some (n46, true)), .call (.c (.fn n23 [] [])) [(.t n47), (.t n49)] .borrow⟩, ⟨some n51, none, .pick (.t n46) (.t n50) (.c (.d (.bool false)))⟩, ⟨some n52, none, .mv (.t n51)⟩, ⟨some n53, (some (n52, true)), .call (.c (.fn n17 [] [])) [] .borrow⟩, ⟨some n54, none, .pick (.t n52) (.t n53) (.c (.d (.bool false)))⟩, ⟨some n2, none, .mv (.t n54)⟩])
 .ret)))))
def x6 : XFn := ⟨a6, n55, [(.t n2)], c6⟩
def a11 : Ann := ⟨[(n1, n18, n0), (n2, n0, n0), (n3, n1, n1), (n3, n2, n1), (n5, n5, n0), (n7, n1, n1), (n8, n4, n3), (n9, n1, n0), (n10, n0, n0), (n11, n1, n1), (n11, n2, n1), (n12, n5, n0), (n19, n7, n2), (n20, n7, n2), (n21, n7, n2), (n27, n0, n0)], []⟩
def c11 : ICode :=
 (.seq (.ops [⟨some n2, none, .box (.t n0)⟩, ⟨some n3, none, .box (.t n1)⟩, ⟨some n4, none, .mv (.c (.d (.bool false)))⟩])
 (.seq (.seq (.ops [⟨some n15, none, .faddr n1 (.t n2)⟩, ⟨some n16, none, .load none (.t n15)⟩, ⟨some n17, none, .len (.t n16)⟩, ⟨some n18, none, .bin .gtr (.t n17) (k n400)⟩, ⟨some n19, none, .mv (.t n18)⟩, ⟨some n20, (some (n19, false)), .faddr n0 (.t n2)⟩, ⟨some n21, (some (n19, false)), .load none (.t n20)⟩, ⟨some n22, (some (n19, false)), .len (.t n21)⟩, ⟨some n23, (some (n19, false)), .bin .gtr (.t n22) (k n8)⟩, ⟨some n24, none, .pick (.t n19) (.c (.d (.bool true))) (.t n23)⟩, ⟨some n25, none, .mv (.t n24)⟩, ⟨some n26, (some (n25, false)), .faddr n2 (.t n2)⟩, ⟨some n27, (some (n25, false)), .load none (.t n26)⟩, ⟨some n28, (some (n25, false)), .len (.t n27)⟩, ⟨some n29, (some (n25, false)), .bin .gtr (.t n28) (k n400)⟩, ⟨some n30, none, .pick (.t n25) (.c (.d (.bool true))) (.t n29)⟩, ⟨some n31, none, .mv (.t n30)⟩, ⟨some n32, (some (n31, false)), .load (some n3) (.t n2)⟩, ⟨some n33, (some (n31, false)), .call (.c (.fn n32 [] [])) [(.t n32)] .borrow⟩, ⟨some n34, (some (n31, false)), .bin .neq (.t n33) (k n0)⟩, ⟨some n35, none, .pick (.t n31) (.c (.d (.bool true))) (.t n34)⟩])
 (.cond (.t n35) (.seq (.ops [⟨some n36, none, .call (.c (.fn n17 [] [])) [] .borrow⟩, ⟨some n4, none, .mv (.t n36)⟩])
 .ret)
 .skip))
 (.seq (.ops [⟨some n38, none, .load (some n3) (.t n2)⟩, ⟨some n39, none, .call (.c (.fn n31 [] [])) [(.t n38)] .share⟩, ⟨some n40, none, .call (.c (.fn n30 [] [])) [(.t n39)] .share⟩, ⟨some n37, none, .mv (.t n40)⟩, ⟨some n41, none, .extract (.t n37) n0⟩, ⟨some n42, none, .extract (.t n37) n1⟩, ⟨some n5, none, .mv (.t n41)⟩, ⟨some n6, none, .mv (.t n42)⟩])
 (.seq (.ops [⟨some n43, none, .faddr n0 (.t n2)⟩, ⟨some n44, none, .load none (.t n43)⟩, ⟨some n45, none, .len (.t n44)⟩, ⟨some n46, none, .mkslice n1 [(.int .i64 (.l (i n0)))] n8 (.t n45)⟩, ⟨some n7, none, .mv (.t n46)⟩])
 (.seq (.seq (.ops [⟨some n47, none, .mv (.t n6)⟩, ⟨some n48, none, .bin .neq (.t n47) (k n0)⟩, ⟨some n49, none, .mv (.t n48)⟩, ⟨some n50, (some (n49, false)), .mv (.t n7)⟩, ⟨some n51, (some (n49, false)), .mv (.t n5)⟩, ⟨some n52, (some (n49, false)), .call (.c (.fn n38 [] [])) [(.t n50), (.t n51)] .borrow⟩, ⟨some n53, (some (n49, false)), .un .not (.t n52)⟩, ⟨some n54, none, .pick (.t n49) (.c (.d (.bool true))) (.t n53)⟩])
 (.cond (.t n54) (.seq (.ops [⟨some n4, none, .mv (.c (.d (.bool false)))⟩])
 .ret)
 .skip))
 (.seq (.ops [⟨some n55, none, .load (some n3) (.t n2)⟩, ⟨some n56, none, .call (.c (.fn n31 [] [])) [(.t n55)] .share⟩, ⟨some n8, none, .alloc [.nil, .nil, .nil]⟩, ⟨none, none, .store n3 (.t n8) (.t n56)⟩])
 (.seq (.ops [⟨some n57, none, .faddr n1 (.t n8)⟩, ⟨some n58, none, .load none (.t n57)⟩, ⟨some n59, none, .load (some n5) (.t n3)⟩, ⟨some n60, none, .bslice n5 n1 [(.int .u8 (.l (i n0))), (.int .i64 (.l (i n0))), (.int .i64 (.l (i n0))), (.int .i64 (.l (i n0))), (.int .i64 (.l (i n0)))] [(n0, (.t n59))] false⟩, ⟨some n61, none, .appendN n5 n40 (.t n58) (.t n60) true⟩, ⟨some n62, none, .faddr n1 (.t n8)⟩, ⟨none, none, .store n1 (.t n62) (.t n61)⟩])
 (.seq (.seq (.ops [⟨some n63, none, .load (some n3) (.t n8)⟩, ⟨some n64, none, .call (.c (.fn n32 [] [])) [(.t n63)] .borrow⟩, ⟨some n65, none, .bin .neq (.t n64) (k n0)⟩])
 (.cond (.t n65) (.seq (.ops [⟨some n66, none, .call (.c (.fn n17 [] [])) [] .borrow⟩, ⟨some n4, none, .mv (.t n66)⟩])
 .ret)
 .skip))
 (.seq (.ops [⟨some n68, none, .load (some n3) (.t n8)⟩, ⟨some n69, none, .call (.c (.fn n31 [] [])) [(.t n68)] .share⟩, ⟨some n70, none, .call (.c (.fn n30 [] [])) [(.t n69)] .share⟩, ⟨some n67, none, .mv (.t n70)⟩, ⟨some n71, none, .extract (.t n67) n0⟩, ⟨some n72, none, .extract (.t n67) n1⟩, ⟨some n9, none, .mv (.t n71)⟩, ⟨some n10, none, .mv (.t n72)⟩])
 (.seq (.seq (.ops [⟨some n73, none, .mv (.t n10)⟩, ⟨some n74, none, .bin .neq (.t n73) (k n0)⟩, ⟨some n75, none, .mv (.t n74)⟩, ⟨some n76, (some (n75, false)), .mv (.t n7)⟩, ⟨some n77, (some (n75, false)), .mv (.t n9)⟩, ⟨some n78, (some (n75, false)), .call (.c (.fn n38 [] [])) [(.t n76), (.t n77)] .borrow⟩, ⟨some n79, (some (n75, false)), .un .not (.t n78)⟩, ⟨some n80, none, .pick (.t n75) (.c (.d (.bool true))) (.t n79)⟩])
 (.cond (.t n80) (.seq (.ops [⟨some n4, none, .mv (.c (.d (.bool false)))⟩])
 .ret)
 .skip))
 (.seq (.ops [⟨some n81, none, .faddr n0 (.t n2)⟩, ⟨some n82, none, .load none (.t n81)⟩, ⟨some n83, none, .len (.t n82)⟩, ⟨some n84, none, .mkslice n1 [(.bool false)] n1 (.t n83)⟩, ⟨some n11, none, .mv (.t n84)⟩])
 (.seq (.seq (.ops [⟨some n12, none, .mv (k n0)⟩])
 (.block n0 (.loop (.seq (.seq (.ops [⟨some n85, none, .mv (.t n12)⟩, ⟨some n86, none, .faddr n1 (.t n2)⟩, ⟨some n87, none, .load none (.t n86)⟩, ⟨some n88, none, .len (.t n87)⟩, ⟨some n89, none, .bin .lss (.t n85) (.t n88)⟩])
 (.cond (.t n89) .skip
 (.exit n0)))
 (.seq (.block n1 (.seq (.ops [⟨some n92, none, .faddr n1 (.t n2)⟩, ⟨some n93, none, .load none (.t n92)⟩, ⟨some n94, none, .mv (.t n12)⟩, ⟨some n95, none, .iaddr n5 (.t n93) (.t n94)⟩, ⟨some n96, none, .load (some n5) (.t n95)⟩, ⟨some n13, none, .alloc [(.int .u8 (.l (i n0))), (.int .i64 (.l (i n0))), (.int .i64 (.l (i n0))), (.int .i64 (.l (i n0))), (.int .i64 (.l (i n0)))]⟩, ⟨none, none, .store n5 (.t n13) (.t n96)⟩])
 (.seq (.ops [⟨some n97, none, .load (some n3) (.t n2)⟩, ⟨some n98, none, .mv (.t n11)⟩, ⟨some n99, none, .faddr n0 (.t n13)⟩, ⟨some n100, none, .load none (.t n99)⟩, ⟨some n101, none, .bin .gtr (.t n100) (.c (.d (.int .u8 (.l (i n4)))))⟩, ⟨some n102, none, .faddr n1 (.t n13)⟩, ⟨some n103, none, .load none (.t n102)⟩, ⟨some n104, none, .call (.c (.fn n39 [] [])) [(.t n97), (.t n98), (.t n101), (.t n103)] .raw⟩])
 (.seq (.ops [⟨some n105, none, .load (some n3) (.t n2)⟩, ⟨some n106, none, .mv (.t n11)⟩, ⟨some n107, none, .faddr n0 (.t n13)⟩, ⟨some n108, none, .load none (.t n107)⟩, ⟨some n109, none, .bin .gtr (.t n108) (.c (.d (.int .u8 (.l (i n6)))))⟩, ⟨some n110, none, .faddr n2 (.t n13)⟩, ⟨some n111, none, .load none (.t n110)⟩, ⟨some n112, none, .call (.c (.fn n39 [] [])) [(.t n105), (.t n106), (.t n109), (.t n111)] .raw⟩])
 (.ops [⟨some n113, none, .load (some n3) (.t n2)⟩, ⟨some n114, none, .mv (.t n11)⟩, ⟨some n115, none, .faddr n0 (.t n13)⟩, ⟨some n116, none, .load none (.t n115)⟩, ⟨some n117, none, .bin .eql (.t n116) (.c (.d (.int .u8 (.l (i n17)))))⟩, ⟨some n118, none, .faddr n3 (.t n13)⟩, ⟨some n119, none, .load none (.t n118)⟩, ⟨some n120, none, .call (.c (.fn n39 [] [])) [(.t n113), (.t n114), (.t n117), (.t n119)] .raw⟩])))))
 (.ops [⟨some n90, none, .mv (.t n12)⟩, ⟨some n91, none, .bin .add (.t n90) (k n1)⟩, ⟨some n12, none, .mv (.t n91)⟩]))))))
 (.seq (.seq (.ops [⟨some n14, none, .mv (k n0)⟩])
 (.block n2 (.loop (.seq (.seq (.ops [⟨some n121, none, .mv (.t n14)⟩, ⟨some n122, none, .mv (.t n5)⟩, ⟨some n123, none, .len (.t n122)⟩, ⟨some n124, none, .bin .lss (.t n121) (.t n123)⟩, ⟨some n125, none, .mv (.t n124)⟩, ⟨some n126, (some (n125, true)), .mv (.t n11)⟩, ⟨some n127, (some (n125, true)), .mv (.t n5)⟩, ⟨some n128, (some (n125, true)), .mv (.t n14)⟩, ⟨some n129, (some (n125, true)), .iaddr n1 (.t n127) (.t n128)⟩, ⟨some n130, (some (n125, true)), .load none (.t n129)⟩, ⟨some n131, (some (n125, true)), .iaddr n1 (.t n126) (.t n130)⟩, ⟨some n132, (some (n125, true)), .load none (.t n131)⟩, ⟨some n133, none, .pick (.t n125) (.t n132) (.c (.d (.bool false)))⟩])
 (.cond (.t n133) .skip
 (.exit n2)))
 (.seq (.block n3 (.seq (.draw n0 [⟨⟨some n136, none, .mv (.t n9)⟩, n0, n0, [], [], false, false⟩, ⟨⟨some n137, none, .mv (.t n14)⟩, n1, n0, [], [], false, false⟩, ⟨⟨some n138, none, .iaddr n1 (.t n136) (.t n137)⟩, n2, n0, [], [], false, false⟩, ⟨⟨some n140, none, .mv (.t n5)⟩, n4, n0, [], [], false, false⟩, ⟨⟨some n141, none, .mv (.t n14)⟩, n5, n0, [], [], false, false⟩, ⟨⟨some n142, none, .iaddr n1 (.t n140) (.t n141)⟩, n6, n0, [], [], false, false⟩, ⟨⟨some n139, none, .load none (.t n138)⟩, n3, n0, [], [], false, false⟩, ⟨⟨some n143, none, .load none (.t n142)⟩, n7, n0, [], [], false, false⟩, ⟨⟨some n144, none, .bin .neq (.t n139) (.t n143)⟩, n8, n0, [], [], false, false⟩])
 (.cond (.t n144) (.seq (.ops [⟨some n4, none, .mv (.c (.d (.bool false)))⟩])
 .ret)
 .skip)))
 (.ops [⟨some n134, none, .mv (.t n14)⟩, ⟨some n135, none, .bin .add (.t n134) (k n1)⟩, ⟨some n14, none, .mv (.t n135)⟩]))))))
 (.seq (.ops [⟨some n145, none, .call (.c (.fn n17 [] [])) [] .borrow⟩, ⟨some n4, none, .mv (.t n145)⟩])
 .ret))))))))))))))
def x11 : XFn := ⟨a11, n146, [(.t n4)], c11⟩
def a31 : Ann := ⟨[(n1, n2, n3), (n1, n5, n3), (n1, n8, n1)], []⟩
def c31 : ICode :=
 (.seq (.ops [⟨some n1, none, .box (.t n0)⟩, ⟨some n2, none, .alloc [.nil, .nil, .nil]⟩])
 (.seq (.draw n0 [⟨⟨some n3, none, .faddr n0 (.t n1)⟩, n0, n0, [], [], false, false⟩, ⟨⟨some n6, none, .faddr n1 (.t n1)⟩, n3, n0, [], [], false, true⟩, ⟨⟨some n9, none, .faddr n2 (.t n1)⟩, n6, n0, [], [], false, true⟩, ⟨⟨some n4, none, .load none (.t n3)⟩, n1, n0, [], [], false, false⟩, ⟨⟨some n7, none, .load none (.t n6)⟩, n4, n0, [], [], false, true⟩, ⟨⟨some n10, none, .load none (.t n9)⟩, n7, n0, [], [], false, true⟩, ⟨⟨some n5, none, .appendN n3 n32 (.c (.d .nil)) (.t n4) true⟩, n2, n0, [], [n1, n0], false, false⟩, ⟨⟨some n8, none, .appendN n5 n40 (.c (.d .nil)) (.t n7) true⟩, n5, n0, [], [n4, n2, n3, n1, n0], false, false⟩, ⟨⟨some n11, none, .call (.c (.fn n41 [] [])) [(.t n10)] .share⟩, n8, n0, [], [n7, n5, n6, n4, n2, n3, n1, n0], true, false⟩, ⟨⟨some n12, none, .build [.nil, .nil, .nil] [(n0, n1, (.t n5)), (n1, n1, (.t n8)), (n2, n1, (.t n11))]⟩, n9, n0, [], [], false, false⟩, ⟨⟨none, none, .store n3 (.t n2) (.t n12)⟩, n10, n0, [], [n9, n8, n0, n1, n2, n3, n4, n5, n6, n7], true, false⟩])
 .ret))
def x31 : XFn := ⟨a31, n13, [(.c n2 (some n3))], c31⟩
def a32 : Ann := ⟨[(n7, n4, n0), (n12, n9, n0), (n17, n9, n0)], []⟩
def c32 : ICode :=
 (.seq (.ops [⟨some n1, none, .box (.t n0)⟩, ⟨some n2, none, .mv (k n0)⟩])
 (.seq (.seq (.ops [⟨some n7, none, .faddr n0 (.t n1)⟩, ⟨some n8, none, .load none (.t n7)⟩, ⟨some n9, none, .len (.t n8)⟩, ⟨some n10, none, .bin .gtr (.t n9) (k n6)⟩, ⟨some n11, none, .mv (.t n10)⟩, ⟨some n12, (some (n11, false)), .faddr n1 (.t n1)⟩, ⟨some n13, (some (n11, false)), .load none (.t n12)⟩, ⟨some n14, (some (n11, false)), .len (.t n13)⟩, ⟨some n15, (some (n11, false)), .bin .gtr (.t n14) (k n3000)⟩, ⟨some n16, none, .pick (.t n11) (.c (.d (.bool true))) (.t n15)⟩, ⟨some n17, none, .mv (.t n16)⟩, ⟨some n18, (some (n17, false)), .faddr n2 (.t n1)⟩, ⟨some n19, (some (n17, false)), .load none (.t n18)⟩, ⟨some n20, (some (n17, false)), .len (.t n19)⟩, ⟨some n21, (some (n17, false)), .bin .gtr (.t n20) (k n3000)⟩, ⟨some n22, none, .pick (.t n17) (.c (.d (.bool true))) (.t n21)⟩])
 (.cond (.t n22) (.seq (.ops [⟨some n2, none, .mv (k n5)⟩])
 .ret)
 .skip))
 (.seq (.seq (.ops [⟨some n3, none, .mv (k n0)⟩])
 (.block n0 (.loop (.seq (.seq (.ops [⟨some n23, none, .mv (.t n3)⟩, ⟨some n24, none, .faddr n0 (.t n1)⟩, ⟨some n25, none, .load none (.t n24)⟩, ⟨some n26, none, .len (.t n25)⟩, ⟨some n27, none, .bin .lss (.t n23) (.t n26)⟩])
 (.cond (.t n27) .skip
 (.exit n0)))
 (.seq (.block n1 (.seq (.ops [⟨some n30, none, .faddr n0 (.t n1)⟩, ⟨some n31, none, .load none (.t n30)⟩, ⟨some n32, none, .mv (.t n3)⟩, ⟨some n33, none, .iaddr n3 (.t n31) (.t n32)⟩, ⟨some n34, none, .load (some n3) (.t n33)⟩, ⟨some n4, none, .alloc [(.str []), (.int .i64 (.l (i n0))), (.int .i64 (.l (i n0)))]⟩, ⟨none, none, .store n3 (.t n4) (.t n34)⟩])
 (.seq (.ops [⟨some n35, none, .faddr n1 (.t n4)⟩, ⟨some n36, none, .load none (.t n35)⟩, ⟨some n37, none, .faddr n2 (.t n4)⟩, ⟨some n38, none, .load none (.t n37)⟩, ⟨some n39, none, .call (.c (.fn n72 [] [])) [(.t n36), (.c (.d (.int .i64 (.l (.negSucc n9998))))), (.t n38)] .borrow⟩, ⟨some n40, none, .un .not (.t n39)⟩, ⟨some n41, none, .mv (.t n40)⟩, ⟨some n42, (some (n41, false)), .faddr n2 (.t n4)⟩, ⟨some n43, (some (n41, false)), .load none (.t n42)⟩, ⟨some n44, (some (n41, false)), .bin .gtr (.t n43) (k n9999)⟩, ⟨some n45, none, .pick (.t n41) (.c (.d (.bool true))) (.t n44)⟩, ⟨some n46, none, .mv (.t n45)⟩, ⟨some n47, (some (n46, false)), .faddr n2 (.t n4)⟩, ⟨some n48, (some (n46, false)), .load none (.t n47)⟩, ⟨some n49, (some (n46, false)), .faddr n1 (.t n4)⟩, ⟨some n50, (some (n46, false)), .load none (.t n49)⟩, ⟨some n51, (some (n46, false)), .bin .sub (.t n48) (.t n50)⟩, ⟨some n52, (some (n46, false)), .bin .geq (.t n51) (k n12)⟩, ⟨some n53, none, .pick (.t n46) (.c (.d (.bool true))) (.t n52)⟩])
 (.cond (.t n53) (.seq (.ops [⟨some n2, none, .mv (k n3)⟩])
 .ret)
 .skip))))
 (.ops [⟨some n28, none, .mv (.t n3)⟩, ⟨some n29, none, .bin .add (.t n28) (k n1)⟩, ⟨some n3, none, .mv (.t n29)⟩]))))))
 (.seq (.seq (.ops [⟨some n5, none, .mv (k n0)⟩])
 (.block n2 (.loop (.seq (.seq (.ops [⟨some n54, none, .mv (.t n5)⟩, ⟨some n55, none, .faddr n1 (.t n1)⟩, ⟨some n56, none, .load none (.t n55)⟩, ⟨some n57, none, .len (.t n56)⟩, ⟨some n58, none, .bin .lss (.t n54) (.t n57)⟩])
 (.cond (.t n58) .skip
 (.exit n2)))
 (.seq (.block n3 (.seq (.draw n0 [⟨⟨some n61, none, .faddr n1 (.t n1)⟩, n0, n0, [], [], false, false⟩, ⟨⟨some n63, none, .mv (.t n5)⟩, n2, n0, [], [], false, false⟩, ⟨⟨some n66, none, .mv (.t n5)⟩, n5, n0, [], [], false, false⟩, ⟨⟨some n67, none, .faddr n0 (.t n1)⟩, n6, n0, [], [], false, false⟩, ⟨⟨some n62, none, .load none (.t n61)⟩, n1, n0, [], [], false, false⟩, ⟨⟨some n64, none, .iaddr n5 (.t n62) (.t n63)⟩, n3, n0, [], [], false, false⟩, ⟨⟨some n65, none, .load (some n5) (.t n64)⟩, n4, n0, [], [], false, false⟩, ⟨⟨some n68, none, .load none (.t n67)⟩, n7, n0, [], [], false, false⟩, ⟨⟨some n69, none, .len (.t n68)⟩, n8, n0, [], [], false, false⟩, ⟨⟨some n70, none, .call (.c (.fn n73 [] [])) [(.t n65), (.t n66), (.t n69)] .borrow⟩, n9, n0, [], [n4, n5, n8, n3, n1, n2, n0, n7, n6], true, false⟩, ⟨⟨some n71, none, .un .not (.t n70)⟩, n10, n0, [], [], false, false⟩])
 (.cond (.t n71) (.seq (.ops [⟨some n2, none, .mv (k n4)⟩])
 .ret)
 .skip)))
 (.ops [⟨some n59, none, .mv (.t n5)⟩, ⟨some n60, none, .bin .add (.t n59) (k n1)⟩, ⟨some n5, none, .mv (.t n60)⟩]))))))
 (.seq (.seq (.ops [⟨some n6, none, .mv (k n0)⟩])
 (.block n4 (.loop (.seq (.seq (.ops [⟨some n72, none, .mv (.t n6)⟩, ⟨some n73, none, .faddr n2 (.t n1)⟩, ⟨some n74, none, .load none (.t n73)⟩, ⟨some n75, none, .len (.t n74)⟩, ⟨some n76, none, .bin .lss (.t n72) (.t n75)⟩])
 (.cond (.t n76) .skip
 (.exit n4)))
 (.seq (.block n5 (.seq (.draw n0 [⟨⟨some n79, none, .faddr n2 (.t n1)⟩, n0, n0, [], [], false, false⟩, ⟨⟨some n81, none, .mv (.t n6)⟩, n2, n0, [], [], false, false⟩, ⟨⟨some n84, none, .faddr n1 (.t n1)⟩, n5, n0, [], [], false, false⟩, ⟨⟨some n80, none, .load none (.t n79)⟩, n1, n0, [], [], false, false⟩, ⟨⟨some n82, none, .iaddr n1 (.t n80) (.t n81)⟩, n3, n0, [], [], false, false⟩, ⟨⟨some n83, none, .load none (.t n82)⟩, n4, n0, [], [], false, false⟩, ⟨⟨some n85, none, .load none (.t n84)⟩, n6, n0, [], [], false, false⟩, ⟨⟨some n86, none, .len (.t n85)⟩, n7, n0, [], [], false, false⟩, ⟨⟨some n87, none, .bin .sub (.t n86) (k n1)⟩, n8, n0, [], [], false, false⟩, ⟨⟨some n88, none, .call (.c (.fn n72 [] [])) [(.t n83), (k n0), (.t n87)] .borrow⟩, n9, n0, [], [n4, n8, n3, n1, n2, n0, n7, n6, n5], true, false⟩, ⟨⟨some n89, none, .un .not (.t n88)⟩, n10, n0, [], [], false, false⟩])
 (.cond (.t n89) (.seq (.ops [⟨some n2, none, .mv (k n4)⟩])
 .ret)
 .skip)))
 (.ops [⟨some n77, none, .mv (.t n6)⟩, ⟨some n78, none, .bin .add (.t n77) (k n1)⟩, ⟨some n6, none, .mv (.t n78)⟩]))))))
 (.seq (.ops [⟨some n2, none, .mv (k n0)⟩])
 .ret))))))
def x32 : XFn := ⟨a32, n90, [(.t n2)], c32⟩
def a33 : Ann := ⟨[(n1, n0, n1), (n6, n1, n1), (n12, n3, n2), (n16, n2, n2)], []⟩
def c33 : ICode :=
 (.seq (.ops [⟨some n1, none, .box (.t n0)⟩, ⟨some n2, none, .mv (.c (.d .nil))⟩])
 (.seq (.ops [⟨some n3, none, .newnil n1⟩])
 (.seq (.seq (.ops [⟨some n4, none, .mv (k n0)⟩])
 (.block n0 (.loop (.seq (.seq (.ops [⟨some n10, none, .mv (.t n4)⟩, ⟨some n11, none, .faddr n1 (.t n1)⟩, ⟨some n12, none, .load none (.t n11)⟩, ⟨some n13, none, .len (.t n12)⟩, ⟨some n14, none, .bin .lss (.t n10) (.t n13)⟩])
 (.cond (.t n14) .skip
 (.exit n0)))
 (.seq (.block n1 (.seq (.ops [⟨some n17, none, .faddr n1 (.t n1)⟩, ⟨some n18, none, .load none (.t n17)⟩, ⟨some n19, none, .mv (.t n4)⟩, ⟨some n20, none, .iaddr n5 (.t n18) (.t n19)⟩, ⟨some n21, none, .load (some n5) (.t n20)⟩, ⟨some n5, none, .alloc [(.int .u8 (.l (i n0))), (.int .i64 (.l (i n0))), (.int .i64 (.l (i n0))), (.int .i64 (.l (i n0))), (.int .i64 (.l (i n0)))]⟩, ⟨none, none, .store n5 (.t n5) (.t n21)⟩])
 (.seq (.ops [⟨some n22, none, .load (some n5) (.t n5)⟩, ⟨some n23, none, .call (.c (.fn n74 [] [])) [(.t n22)] .share⟩, ⟨some n6, none, .mv (.t n23)⟩])
 (.seq (.ops [⟨some n7, none, .mv (k n0)⟩])
 (.block n2 (.loop (.seq (.seq (.ops [⟨some n24, none, .mv (.t n7)⟩, ⟨some n25, none, .mv (.t n6)⟩, ⟨some n26, none, .len (.t n25)⟩, ⟨some n27, none, .bin .lss (.t n24) (.t n26)⟩])
 (.cond (.t n27) .skip
 (.exit n2)))
 (.seq (.block n3 (.seq (.draw n1 [⟨⟨some n30, none, .faddr n1 (.t n1)⟩, n0, n0, [], [], false, false⟩, ⟨⟨some n32, none, .mv (.t n6)⟩, n2, n0, [], [], false, false⟩, ⟨⟨some n33, none, .mv (.t n7)⟩, n3, n0, [], [], false, false⟩, ⟨⟨some n34, none, .iaddr n1 (.t n32) (.t n33)⟩, n4, n0, [], [], false, false⟩, ⟨⟨some n31, none, .load none (.t n30)⟩, n1, n0, [n0], [], false, false⟩, ⟨⟨some n35, none, .load none (.t n34)⟩, n5, n0, [n0], [], false, false⟩, ⟨⟨some n36, none, .iaddr n5 (.t n31) (.t n35)⟩, n6, n0, [], [], false, false⟩, ⟨⟨some n37, none, .load (some n5) (.t n36)⟩, n7, n0, [n0], [], false, false⟩, ⟨⟨some n8, none, .alloc [(.int .u8 (.l (i n0))), (.int .i64 (.l (i n0))), (.int .i64 (.l (i n0))), (.int .i64 (.l (i n0))), (.int .i64 (.l (i n0)))]⟩, n8, n0, [], [], false, false⟩, ⟨⟨none, none, .store n5 (.t n8) (.t n37)⟩, n9, n1, [], [n8, n7, n0, n1, n2, n3, n4, n5, n6], true, false⟩])
 (.seq (.ops [⟨some n38, none, .faddr n0 (.t n8)⟩, ⟨some n39, none, .load none (.t n38)⟩, ⟨some n40, none, .bin .eql (.t n39) (.c (.d (.int .u8 (.l (i n3)))))⟩])
 (.cond (.t n40) (.ops [⟨some n41, none, .mv (.t n3)⟩, ⟨some n42, none, .faddr n4 (.t n8)⟩, ⟨some n43, none, .load none (.t n42)⟩, ⟨some n44, none, .call (.c (.fn n75 [] [])) [(.t n41), (.t n43)] .raw⟩, ⟨some n3, none, .mv (.t n44)⟩])
 .skip))))
 (.ops [⟨some n28, none, .mv (.t n7)⟩, ⟨some n29, none, .bin .add (.t n28) (k n1)⟩, ⟨some n7, none, .mv (.t n29)⟩])))))))))
 (.ops [⟨some n15, none, .mv (.t n4)⟩, ⟨some n16, none, .bin .add (.t n15) (k n1)⟩, ⟨some n4, none, .mv (.t n16)⟩]))))))
 (.seq (.seq (.ops [⟨some n9, none, .mv (k n0)⟩])
 (.block n4 (.loop (.seq (.seq (.ops [⟨some n45, none, .mv (.t n9)⟩, ⟨some n46, none, .faddr n0 (.t n1)⟩, ⟨some n47, none, .load none (.t n46)⟩, ⟨some n48, none, .len (.t n47)⟩, ⟨some n49, none, .bin .lss (.t n45) (.t n48)⟩])
 (.cond (.t n49) .skip
 (.exit n4)))
 (.seq (.block n5 (.ops [⟨some n52, none, .mv (.t n3)⟩, ⟨some n53, none, .mv (.t n9)⟩, ⟨some n54, none, .call (.c (.fn n75 [] [])) [(.t n52), (.t n53)] .raw⟩, ⟨some n3, none, .mv (.t n54)⟩]))
 (.ops [⟨some n50, none, .mv (.t n9)⟩, ⟨some n51, none, .bin .add (.t n50) (k n1)⟩, ⟨some n9, none, .mv (.t n51)⟩]))))))
 (.seq (.ops [⟨some n55, none, .mv (.t n3)⟩, ⟨some n2, none, .mv (.t n55)⟩])
 .ret)))))
def x33 : XFn := ⟨a33, n56, [(.t n2)], c33⟩
def a38 : Ann := ⟨[(n6, n7, n0)], []⟩
def c38 : ICode :=
 (.seq (.ops [⟨some n4, none, .mv (.c (.d (.bool false)))⟩])
 (.seq (.seq (.ops [⟨some n7, none, .mv (.t n1)⟩, ⟨some n8, none, .len (.t n7)⟩, ⟨some n9, none, .mv (.t n0)⟩, ⟨some n10, none, .len (.t n9)⟩, ⟨some n11, none, .bin .neq (.t n8) (.t n10)⟩])
 (.cond (.t n11) (.seq (.ops [⟨some n4, none, .mv (.c (.d (.bool false)))⟩])
 .ret)
 .skip))
 (.seq (.seq (.ops [⟨some n5, none, .mv (k n0)⟩])
 (.block n0 (.loop (.seq (.seq (.ops [⟨some n12, none, .mv (.t n5)⟩, ⟨some n13, none, .mv (.t n1)⟩, ⟨some n14, none, .len (.t n13)⟩, ⟨some n15, none, .bin .lss (.t n12) (.t n14)⟩])
 (.cond (.t n15) .skip
 (.exit n0)))
 (.seq (.block n1 (.seq (.seq (.ops [⟨some n18, none, .mv (.t n1)⟩, ⟨some n19, none, .mv (.t n5)⟩, ⟨some n20, none, .iaddr n1 (.t n18) (.t n19)⟩, ⟨some n21, none, .load none (.t n20)⟩, ⟨some n22, none, .mv (.t n0)⟩, ⟨some n23, none, .len (.t n22)⟩, ⟨some n24, none, .bin .sub (.t n23) (k n1)⟩, ⟨some n25, none, .call (.c (.fn n43 [] [])) [(.t n21), (k n0), (.t n24)] .borrow⟩, ⟨some n26, none, .un .not (.t n25)⟩])
 (.cond (.t n26) (.seq (.ops [⟨some n4, none, .mv (.c (.d (.bool false)))⟩])
 .ret)
 .skip))
 (.seq (.ops [⟨some n6, none, .mv (k n0)⟩])
 (.block n2 (.loop (.seq (.seq (.ops [⟨some n27, none, .mv (.t n6)⟩, ⟨some n28, none, .mv (.t n5)⟩, ⟨some n29, none, .bin .lss (.t n27) (.t n28)⟩])
 (.cond (.t n29) .skip
 (.exit n2)))
 (.seq (.block n3 (.seq (.draw n0 [⟨⟨some n32, none, .mv (.t n1)⟩, n0, n0, [], [], false, false⟩, ⟨⟨some n33, none, .mv (.t n6)⟩, n1, n0, [], [], false, false⟩, ⟨⟨some n34, none, .iaddr n1 (.t n32) (.t n33)⟩, n2, n0, [], [], false, false⟩, ⟨⟨some n36, none, .mv (.t n1)⟩, n4, n0, [], [], false, false⟩, ⟨⟨some n37, none, .mv (.t n5)⟩, n5, n0, [], [], false, false⟩, ⟨⟨some n38, none, .iaddr n1 (.t n36) (.t n37)⟩, n6, n0, [], [], false, false⟩, ⟨⟨some n35, none, .load none (.t n34)⟩, n3, n0, [], [], false, false⟩, ⟨⟨some n39, none, .load none (.t n38)⟩, n7, n0, [], [], false, false⟩, ⟨⟨some n40, none, .bin .eql (.t n35) (.t n39)⟩, n8, n0, [], [], false, false⟩])
 (.cond (.t n40) (.seq (.ops [⟨some n4, none, .mv (.c (.d (.bool false)))⟩])
 .ret)
 .skip)))
 (.ops [⟨some n30, none, .mv (.t n6)⟩, ⟨some n31, none, .bin .add (.t n30) (k n1)⟩, ⟨some n6, none, .mv (.t n31)⟩]))))))))
 (.ops [⟨some n16, none, .mv (.t n5)⟩, ⟨some n17, none, .bin .add (.t n16) (k n1)⟩, ⟨some n5, none, .mv (.t n17)⟩]))))))
 (.seq (.ops [⟨some n4, none, .mv (.c (.d (.bool true)))⟩])
 .ret))))
def x38 : XFn := ⟨a38, n41, [(.t n4)], c38⟩
def a39 : Ann := ⟨[], []⟩
def c39 : ICode :=
 (.seq (.ops [⟨some n4, none, .box (.t n0)⟩])
 (.seq (.ops [⟨some n8, none, .mv (.t n2)⟩, ⟨some n9, none, .mv (.t n8)⟩, ⟨some n10, (some (n9, true)), .faddr n1 (.t n4)⟩, ⟨some n11, (some (n9, true)), .load none (.t n10)⟩, ⟨some n12, (some (n9, true)), .mv (.t n3)⟩, ⟨some n13, (some (n9, true)), .iaddr n5 (.t n11) (.t n12)⟩, ⟨some n14, (some (n9, true)), .faddr n0 (.t n13)⟩, ⟨some n15, (some (n9, true)), .load none (.t n14)⟩, ⟨some n16, (some (n9, true)), .bin .eql (.t n15) (.c (.d (.int .u8 (.l (i n3)))))⟩, ⟨some n17, none, .pick (.t n9) (.t n16) (.c (.d (.bool false)))⟩])
 (.cond (.t n17) (.ops [⟨some n18, none, .mv (.t n1)⟩, ⟨some n19, none, .faddr n1 (.t n4)⟩, ⟨some n20, none, .load none (.t n19)⟩, ⟨some n21, none, .mv (.t n3)⟩, ⟨some n22, none, .iaddr n5 (.t n20) (.t n21)⟩, ⟨some n23, none, .faddr n4 (.t n22)⟩, ⟨some n24, none, .load none (.t n23)⟩, ⟨some n25, none, .iaddr n1 (.t n18) (.t n24)⟩, ⟨none, none, .store n1 (.t n25) (.c (.d (.bool true)))⟩])
 .skip)))
def x39 : XFn := ⟨a39, n26, [], c39⟩
def a41 : Ann := ⟨[(n1, n1, n3)], []⟩
def c41 : ICode :=
 (.seq (.ops [⟨some n2, none, .mv (.c (.d .nil))⟩])
 (.seq (.ops [⟨some n3, none, .mv (.t n0)⟩, ⟨some n4, none, .appendN n1 n8 (.c (.d .nil)) (.t n3) true⟩, ⟨some n2, none, .mv (.t n4)⟩])
 .ret))
def x41 : XFn := ⟨a41, n5, [(.t n2)], c41⟩
def a43 : Ann := ⟨[], []⟩
def c43 : ICode :=
 (.seq (.ops [⟨some n6, none, .mv (.c (.d (.bool false)))⟩])
 (.seq (.ops [⟨some n7, none, .mv (.t n0)⟩, ⟨some n8, none, .mv (.t n1)⟩, ⟨some n9, none, .bin .geq (.t n7) (.t n8)⟩, ⟨some n10, none, .mv (.t n9)⟩, ⟨some n11, (some (n10, true)), .mv (.t n0)⟩, ⟨some n12, (some (n10, true)), .mv (.t n2)⟩, ⟨some n13, (some (n10, true)), .bin .leq (.t n11) (.t n12)⟩, ⟨some n14, none, .pick (.t n10) (.t n13) (.c (.d (.bool false)))⟩, ⟨some n6, none, .mv (.t n14)⟩])
 .ret))
def x43 : XFn := ⟨a43, n15, [(.t n6)], c43⟩
def a72 : Ann := ⟨[], []⟩
def c72 : ICode :=
 (.seq (.ops [⟨some n6, none, .mv (.c (.d (.bool false)))⟩])
 (.seq (.ops [⟨some n7, none, .mv (.t n0)⟩, ⟨some n8, none, .mv (.t n1)⟩, ⟨some n9, none, .bin .geq (.t n7) (.t n8)⟩, ⟨some n10, none, .mv (.t n9)⟩, ⟨some n11, (some (n10, true)), .mv (.t n0)⟩, ⟨some n12, (some (n10, true)), .mv (.t n2)⟩, ⟨some n13, (some (n10, true)), .bin .leq (.t n11) (.t n12)⟩, ⟨some n14, none, .pick (.t n10) (.t n13) (.c (.d (.bool false)))⟩, ⟨some n6, none, .mv (.t n14)⟩])
 .ret))
def x72 : XFn := ⟨a72, n15, [(.t n6)], c72⟩
def a73 : Ann := ⟨[(n1, n3, n0), (n2, n4, n0), (n8, n10, n0)], []⟩
def c73 : ICode :=
 (.seq (.ops [⟨some n3, none, .box (.t n0)⟩, ⟨some n6, none, .mv (.c (.d (.bool false)))⟩])
 (.seq (.ops [⟨some n13, none, .faddr n0 (.t n3)⟩, ⟨some n14, none, .load none (.t n13)⟩, ⟨some n15, none, .mv (.t n2)⟩, ⟨some n16, none, .call (.c (.fn n106 [] [])) [(.t n14), (.t n15)] .borrow⟩, ⟨some n12, none, .mv (.t n16)⟩, ⟨some n17, none, .extract (.t n12) n0⟩, ⟨some n18, none, .extract (.t n12) n1⟩, ⟨some n19, none, .extract (.t n12) n2⟩, ⟨some n7, none, .mv (.t n17)⟩, ⟨some n8, none, .mv (.t n18)⟩, ⟨some n9, none, .mv (.t n19)⟩])
 (.seq (.seq (.ops [⟨some n20, none, .faddr n4 (.t n3)⟩, ⟨some n21, none, .load none (.t n20)⟩, ⟨some n22, none, .mv (.t n8)⟩, ⟨some n23, none, .mv (.t n9)⟩, ⟨some n24, none, .call (.c (.fn n72 [] [])) [(.t n21), (.t n22), (.t n23)] .borrow⟩, ⟨some n25, none, .un .not (.t n24)⟩])
 (.cond (.t n25) (.seq (.ops [⟨some n6, none, .mv (.c (.d (.bool false)))⟩])
 .ret)
 .skip))
 (.seq (.ops [⟨some n26, none, .faddr n1 (.t n3)⟩, ⟨some n27, none, .load none (.t n26)⟩, ⟨some n28, none, .faddr n2 (.t n3)⟩, ⟨some n29, none, .load none (.t n28)⟩, ⟨some n30, none, .faddr n3 (.t n3)⟩, ⟨some n31, none, .load none (.t n30)⟩, ⟨some n32, none, .bslice n1 n3 [(.int .i64 (.l (i n0)))] [(n0, (.t n27)), (n1, (.t n29)), (n2, (.t n31))] false⟩, ⟨some n10, none, .mv (.t n32)⟩])
 (.seq (.seq (.ops [⟨some n11, none, .mv (k n0)⟩])
 (.block n0 (.loop (.seq (.seq (.ops [⟨some n33, none, .mv (.t n11)⟩, ⟨some n34, none, .bin .lss (.t n33) (k n3)⟩])
 (.cond (.t n34) .skip
 (.exit n0)))
 (.seq (.block n1 (.seq (.ops [⟨some n37, none, .mv (.t n11)⟩, ⟨some n38, none, .mv (.t n7)⟩, ⟨some n39, none, .bin .lss (.t n37) (.t n38)⟩, ⟨some n40, none, .mv (.t n39)⟩, ⟨some n41, (some (n40, true)), .mv (.t n10)⟩, ⟨some n42, (some (n40, true)), .mv (.t n11)⟩, ⟨some n43, (some (n40, true)), .iaddr n1 (.t n41) (.t n42)⟩, ⟨some n44, (some (n40, true)), .load none (.t n43)⟩, ⟨some n45, (some (n40, true)), .mv (.t n1)⟩, ⟨some n46, (some (n40, true)), .bin .sub (.t n45) (k n1)⟩, ⟨some n47, (some (n40, true)), .call (.c (.fn n72 [] [])) [(.t n44), (k n0), (.t n46)] .borrow⟩, ⟨some n48, (some (n40, true)), .un .not (.t n47)⟩, ⟨some n49, none, .pick (.t n40) (.t n48) (.c (.d (.bool false)))⟩, ⟨some n50, none, .mv (.t n49)⟩, ⟨some n51, (some (n50, false)), .mv (.t n11)⟩, ⟨some n52, (some (n50, false)), .mv (.t n7)⟩, ⟨some n53, (some (n50, false)), .bin .geq (.t n51) (.t n52)⟩, ⟨some n54, (some (n50, false)), .mv (.t n53)⟩, ⟨some n55, (some (n54, true)), .mv (.t n10)⟩, ⟨some n56, (some (n54, true)), .mv (.t n11)⟩, ⟨some n57, (some (n54, true)), .iaddr n1 (.t n55) (.t n56)⟩, ⟨some n58, (some (n54, true)), .load none (.t n57)⟩, ⟨some n59, (some (n54, true)), .bin .neq (.t n58) (k n0)⟩, ⟨some n60, (some (n50, false)), .pick (.t n54) (.t n59) (.c (.d (.bool false)))⟩, ⟨some n61, none, .pick (.t n50) (.c (.d (.bool true))) (.t n60)⟩])
 (.cond (.t n61) (.seq (.ops [⟨some n6, none, .mv (.c (.d (.bool false)))⟩])
 .ret)
 .skip)))
 (.ops [⟨some n35, none, .mv (.t n11)⟩, ⟨some n36, none, .bin .add (.t n35) (k n1)⟩, ⟨some n11, none, .mv (.t n36)⟩]))))))
 (.seq (.ops [⟨some n6, none, .mv (.c (.d (.bool true)))⟩])
 .ret))))))
def x73 : XFn := ⟨a73, n62, [(.t n6)], c73⟩
def a74 : Ann := ⟨[], []⟩
def c74 : ICode :=
 (.seq (.ops [⟨some n1, none, .box (.t n0)⟩, ⟨some n2, none, .mv (.c (.d .nil))⟩])
 (.seq (.block n0 (.seq (.ops [⟨some n4, none, .faddr n0 (.t n1)⟩, ⟨some n5, none, .load none (.t n4)⟩, ⟨some n6, none, .bin .leq (.t n5) (.c (.d (.int .u8 (.l (i n4)))))⟩, ⟨some n3, none, .mv (.t n6)⟩])
 (.cond (.t n3) (.seq (.ops [⟨some n2, none, .mv (.c (.d .nil))⟩])
 .ret)
 (.seq (.ops [⟨some n8, none, .faddr n0 (.t n1)⟩, ⟨some n9, none, .load none (.t n8)⟩, ⟨some n10, none, .bin .leq (.t n9) (.c (.d (.int .u8 (.l (i n6)))))⟩, ⟨some n7, none, .mv (.t n10)⟩])
 (.cond (.t n7) (.seq (.ops [⟨some n11, none, .faddr n1 (.t n1)⟩, ⟨some n12, none, .load none (.t n11)⟩, ⟨some n13, none, .bslice n1 n1 [(.int .i64 (.l (i n0)))] [(n0, (.t n12))] false⟩, ⟨some n2, none, .mv (.t n13)⟩])
 .ret)
 (.seq (.ops [⟨some n15, none, .faddr n0 (.t n1)⟩, ⟨some n16, none, .load none (.t n15)⟩, ⟨some n17, none, .bin .eql (.t n16) (.c (.d (.int .u8 (.l (i n17)))))⟩, ⟨some n14, none, .mv (.t n17)⟩])
 (.cond (.t n14) (.seq (.ops [⟨some n18, none, .faddr n1 (.t n1)⟩, ⟨some n19, none, .load none (.t n18)⟩, ⟨some n20, none, .faddr n2 (.t n1)⟩, ⟨some n21, none, .load none (.t n20)⟩, ⟨some n22, none, .faddr n3 (.t n1)⟩, ⟨some n23, none, .load none (.t n22)⟩, ⟨some n24, none, .bslice n1 n3 [(.int .i64 (.l (i n0)))] [(n0, (.t n19)), (n1, (.t n21)), (n2, (.t n23))] false⟩, ⟨some n2, none, .mv (.t n24)⟩])
 .ret)
 .skip)))))))
 (.seq (.ops [⟨some n25, none, .faddr n1 (.t n1)⟩, ⟨some n26, none, .load none (.t n25)⟩, ⟨some n27, none, .faddr n2 (.t n1)⟩, ⟨some n28, none, .load none (.t n27)⟩, ⟨some n29, none, .bslice n1 n2 [(.int .i64 (.l (i n0)))] [(n0, (.t n26)), (n1, (.t n28))] false⟩, ⟨some n2, none, .mv (.t n29)⟩])
 .ret)))
def x74 : XFn := ⟨a74, n30, [(.t n2)], c74⟩
def a75 : Ann := ⟨[(n6, n3, n3)], []⟩
def c75 : ICode :=
 (.seq (.ops [⟨some n4, none, .mv (.c (.d .nil))⟩])
 (.seq (.seq (.ops [⟨some n5, none, .mv (k n0)⟩])
 (.block n0 (.loop (.seq (.seq (.ops [⟨some n6, none, .mv (.t n5)⟩, ⟨some n7, none, .mv (.t n0)⟩, ⟨some n8, none, .len (.t n7)⟩, ⟨some n9, none, .bin .lss (.t n6) (.t n8)⟩])
 (.cond (.t n9) .skip
 (.exit n0)))
 (.seq (.block n1 (.seq (.ops [⟨some n12, none, .mv (.t n0)⟩, ⟨some n13, none, .mv (.t n5)⟩, ⟨some n14, none, .iaddr n1 (.t n12) (.t n13)⟩, ⟨some n15, none, .load none (.t n14)⟩, ⟨some n16, none, .mv (.t n1)⟩, ⟨some n17, none, .bin .eql (.t n15) (.t n16)⟩])
 (.cond (.t n17) (.seq (.ops [⟨some n18, none, .mv (.t n0)⟩, ⟨some n4, none, .mv (.t n18)⟩])
 .ret)
 .skip)))
 (.ops [⟨some n10, none, .mv (.t n5)⟩, ⟨some n11, none, .bin .add (.t n10) (k n1)⟩, ⟨some n5, none, .mv (.t n11)⟩]))))))
 (.seq (.ops [⟨some n19, none, .mv (.t n0)⟩, ⟨some n20, none, .mv (.t n1)⟩, ⟨some n21, none, .bslice n1 n1 [(.int .i64 (.l (i n0)))] [(n0, (.t n20))] false⟩, ⟨some n22, none, .appendN n1 n8 (.t n19) (.t n21) true⟩, ⟨some n4, none, .mv (.t n22)⟩])
 .ret)))
def x75 : XFn := ⟨a75, n23, [(.t n4)], c75⟩
def a106 : Ann := ⟨[], []⟩
def c106 : ICode :=
 (.seq (.ops [⟨some n4, none, .mv (k n0)⟩, ⟨some n5, none, .mv (k n0)⟩, ⟨some n6, none, .mv (k n0)⟩])
 (.seq (.block n0 (.seq (.ops [⟨some n8, none, .mv (.t n0)⟩, ⟨some n9, none, .bin .eql (.t n8) (.c (.d (.int .u8 (.l (i n1)))))⟩, ⟨some n7, none, .mv (.t n9)⟩])
 (.cond (.t n7) (.seq (.ops [⟨some n4, none, .mv (k n0)⟩, ⟨some n5, none, .mv (.c (.d (.int .i64 (.l (.negSucc n9998)))))⟩, ⟨some n6, none, .mv (k n9999)⟩])
 .ret)
 (.seq (.ops [⟨some n11, none, .mv (.t n0)⟩, ⟨some n12, none, .bin .eql (.t n11) (.c (.d (.int .u8 (.l (i n2)))))⟩, ⟨some n10, none, .mv (.t n12)⟩])
 (.cond (.t n10) (.seq (.ops [⟨some n4, none, .mv (k n0)⟩, ⟨some n5, none, .mv (k n1)⟩, ⟨some n6, none, .mv (k n4)⟩])
 .ret)
 (.seq (.ops [⟨some n14, none, .mv (.t n0)⟩, ⟨some n15, none, .bin .eql (.t n14) (.c (.d (.int .u8 (.l (i n3)))))⟩, ⟨some n13, none, .mv (.t n15)⟩])
 (.cond (.t n13) (.seq (.ops [⟨some n16, none, .mv (.t n1)⟩, ⟨some n17, none, .bin .sub (.t n16) (k n1)⟩, ⟨some n4, none, .mv (k n0)⟩, ⟨some n5, none, .mv (k n0)⟩, ⟨some n6, none, .mv (.t n17)⟩])
 .ret)
 (.seq (.ops [⟨some n19, none, .mv (.t n0)⟩, ⟨some n20, none, .bin .eql (.t n19) (.c (.d (.int .u8 (.l (i n4)))))⟩, ⟨some n18, none, .mv (.t n20)⟩])
 (.cond (.t n18) (.seq (.ops [⟨some n4, none, .mv (k n0)⟩, ⟨some n5, none, .mv (k n0)⟩, ⟨some n6, none, .mv (k n31)⟩])
 .ret)
 (.seq (.ops [⟨some n22, none, .mv (.t n0)⟩, ⟨some n23, none, .bin .eql (.t n22) (.c (.d (.int .u8 (.l (i n5)))))⟩, ⟨some n24, none, .mv (.t n23)⟩, ⟨some n25, (some (n24, false)), .mv (.t n0)⟩, ⟨some n26, (some (n24, false)), .bin .eql (.t n25) (.c (.d (.int .u8 (.l (i n6)))))⟩, ⟨some n27, none, .pick (.t n24) (.c (.d (.bool true))) (.t n26)⟩, ⟨some n21, none, .mv (.t n27)⟩])
 (.cond (.t n21) (.seq (.ops [⟨some n4, none, .mv (k n1)⟩, ⟨some n5, none, .mv (k n0)⟩, ⟨some n6, none, .mv (k n0)⟩])
 .ret)
 (.seq (.ops [⟨some n29, none, .mv (.t n0)⟩, ⟨some n30, none, .bin .geq (.t n29) (.c (.d (.int .u8 (.l (i n7)))))⟩, ⟨some n31, none, .mv (.t n30)⟩, ⟨some n32, (some (n31, true)), .mv (.t n0)⟩, ⟨some n33, (some (n31, true)), .bin .leq (.t n32) (.c (.d (.int .u8 (.l (i n16)))))⟩, ⟨some n34, none, .pick (.t n31) (.t n33) (.c (.d (.bool false)))⟩, ⟨some n28, none, .mv (.t n34)⟩])
 (.cond (.t n28) (.seq (.ops [⟨some n4, none, .mv (k n2)⟩, ⟨some n5, none, .mv (k n0)⟩, ⟨some n6, none, .mv (k n0)⟩])
 .ret)
 (.seq (.ops [⟨some n36, none, .mv (.t n0)⟩, ⟨some n37, none, .bin .eql (.t n36) (.c (.d (.int .u8 (.l (i n17)))))⟩, ⟨some n35, none, .mv (.t n37)⟩])
 (.cond (.t n35) (.seq (.ops [⟨some n4, none, .mv (k n3)⟩, ⟨some n5, none, .mv (k n0)⟩, ⟨some n6, none, .mv (k n0)⟩])
 .ret)
 .skip)))))))))))))))
 (.seq (.ops [⟨some n4, none, .mv (.c (.d (.int .i64 (.l (.negSucc n0)))))⟩, ⟨some n5, none, .mv (k n0)⟩, ⟨some n6, none, .mv (.c (.d (.int .i64 (.l (.negSucc n0)))))⟩])
 .ret)))
def x106 : XFn := ⟨a106, n38, [(.t n4), (.t n5), (.t n6)], c106⟩

end
theorem ok6 : FnOk Tryz.prog 6 x6 := fnOk_of Tryz.func6 (by kernel_rfl) (by kernel_rfl) (by kernel_rfl) (by kernel_rfl)
theorem ok11 : FnOk Tryz.prog 11 x11 := fnOk_of Tryz.func11 (by kernel_rfl) (by kernel_rfl) (by kernel_rfl) (by kernel_rfl)
theorem ok31 : FnOk Tryz.prog 31 x31 := fnOk_of Tryz.func31 (by kernel_rfl) (by kernel_rfl) (by kernel_rfl) (by kernel_rfl)
theorem ok32 : FnOk Tryz.prog 32 x32 := fnOk_of Tryz.func32 (by kernel_rfl) (by kernel_rfl) (by kernel_rfl) (by kernel_rfl)
theorem ok33 : FnOk Tryz.prog 33 x33 := fnOk_of Tryz.func33 (by kernel_rfl) (by kernel_rfl) (by kernel_rfl) (by kernel_rfl)
theorem ok38 : FnOk Tryz.prog 38 x38 := fnOk_of Tryz.func38 (by kernel_rfl) (by kernel_rfl) (by kernel_rfl) (by kernel_rfl)
theorem ok39 : FnOk Tryz.prog 39 x39 := fnOk_of Tryz.func39 (by kernel_rfl) (by kernel_rfl) (by kernel_rfl) (by kernel_rfl)
theorem ok41 : FnOk Tryz.prog 41 x41 := fnOk_of Tryz.func41 (by kernel_rfl) (by kernel_rfl) (by kernel_rfl) (by kernel_rfl)
theorem ok43 : FnOk Tryz.prog 43 x43 := fnOk_of Tryz.func43 (by kernel_rfl) (by kernel_rfl) (by kernel_rfl) (by kernel_rfl)
theorem ok72 : FnOk Tryz.prog 72 x72 := fnOk_of Tryz.func72 (by kernel_rfl) (by kernel_rfl) (by kernel_rfl) (by kernel_rfl)
theorem ok73 : FnOk Tryz.prog 73 x73 := fnOk_of Tryz.func73 (by kernel_rfl) (by kernel_rfl) (by kernel_rfl) (by kernel_rfl)
theorem ok74 : FnOk Tryz.prog 74 x74 := fnOk_of Tryz.func74 (by kernel_rfl) (by kernel_rfl) (by kernel_rfl) (by kernel_rfl)
theorem ok75 : FnOk Tryz.prog 75 x75 := fnOk_of Tryz.func75 (by kernel_rfl) (by kernel_rfl) (by kernel_rfl) (by kernel_rfl)
theorem ok106 : FnOk Tryz.prog 106 x106 := fnOk_of Tryz.func106 (by kernel_rfl) (by kernel_rfl) (by kernel_rfl) (by kernel_rfl)
end Go.Proofs.Tryz.Run
