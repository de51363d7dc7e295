/- The functions of the table, and the table. Conditions: none. -/
import Derived.Test.YtbglklaocjifhaaGreatTb1
namespace Go.Proofs.Tryz.Run
open Go Go.Vf
noncomputable section
def a235 : Ann := ⟨[(n7,n3,n2)],[]⟩
def c235 : ICode :=
 (.seq (.ops [(oq n6 (.mv (.c (.d (.bool false)))))])
 (.seq (.seq (.ops [(om n10 n0),(oq n11 (.len (.t n10))),(om n12 n1),(oq n13 (.len (.t n12))),(oq n14 (.bin .neq (.t n11) (.t n13)))])
 (.cond (.t n14) (.seq (.ops [(oq n6 (.mv (.c (.d (.bool false)))))])
 .ret)
 .skip))
 (.seq (.seq (.ops [(om n15 n0),(oq n16 (.len (.t n15))),(oq n17 (.mv (k n0)))])
 (.block n0 (.loop (.seq (.ops [(oq n18 (.bin .lss (.t n17) (.t n16)))])
 (.seq (.cond (.t n18) .skip
 (.exit n0))
 (.seq (.block n1 (.seq (.ops [(om n19 n17),(oq n20 (.iaddr n2 (.t n15) (.t n17))),(oq n21 (.load (some n2) (.t n20))),(oq n8 (.alloc [(.int .i64 (.l (i n0))),.nil])),(om n7 n19),⟨none,none,.store n2 (.t n8) (.t n21)⟩])
 (.seq (.ops [(om n22 n1),(om n23 n7),(oq n24 (.iaddr n2 (.t n22) (.t n23))),(oq n25 (.load (some n2) (.t n24))),(oq n9 (.alloc [(.int .i64 (.l (i n0))),.nil])),⟨none,none,.store n2 (.t n9) (.t n25)⟩])
 (.seq (.ops [(om n26 n2),(oq n27 (.load (some n2) (.t n8))),(oq n28 (.load (some n2) (.t n9))),(oq n29 (.call (.t n26) [(.t n27),(.t n28)] .raw)),(oq n30 (.un .not (.t n29)))])
 (.cond (.t n30) (.seq (.ops [(oq n6 (.mv (.c (.d (.bool false)))))])
 .ret)
 .skip)))))
 (.ops [(oq n31 (.bin .add (.t n17) (k n1))),(om n17 n31)])))))))
 (.seq (.ops [(oq n6 (.mv (.c (.d (.bool true)))))])
 .ret))))
def x235 : XFn := ⟨a235,n32,[(.t n6)],c235⟩
def a236 : Ann := ⟨[(n1,n3,n3),(n1,n6,n3)],[]⟩
def c236 : ICode :=
 (.seq (.ops [(oq n1 (.box (.t n0))),(oq n2 (.mv (.c (.d (.raw (.pointer none))))))])
 (.seq (.draw n3 [(dz (of n4 n0 n1) n1 n0),(dz (of n7 n1 n1) n4 n0),(dq (oq n3 (.load (some n2) (.t n1))) n0 n0 [n0,n1,n2] [] false false),(dq (ol n5 n4) n2 n0 [n0,n1,n2] [] false false),(dq (ol n8 n7) n5 n0 [n0,n1,n2] [] false false),(dz (oq n11 (.mkmap true [.u8,.i64])) n8 n0),(dz (oq n12 (.mkmap true [.i64,.i64,.i64,.i64,.i64,.i64,.i64,.i64,.i64,.i64,.i64,.i64,.i64])) n9 n1),(dz (oq n6 (.call (.c (.fn n153 [] [])) [(.t n5)] .data)) n3 n0),(dz (oq n9 (.call (.c (.fn n153 [] [])) [(.t n8)] .data)) n6 n0),(dz (oq n10 (.build [.nil,.nil,.nil,.nil,(.int .i64 (.l (i n0)))] [(n0,n1,(.t n6)),(n1,n1,(.t n9))])) n7 n0),(dz (oq n13 (.build [.nil,.nil,.nil,.nil,.nil,.nil,(.int .i64 (.l (i n0))),(.raw (.map none)),(.raw (.map none))] [(n0,n2,(.t n3)),(n2,n5,(.t n10)),(n7,n1,(.t n11)),(n8,n1,(.t n12))])) n10 n2),(dz (oq n14 (.box (.t n13))) n11 n2),(dz (om n2 n14) n12 n3)])
 .ret))
def x236 : XFn := ⟨a236,n15,[(.t n2)],c236⟩
def a237 : Ann := ⟨[(n2,n5,n0),(n2,n8,n2),(n11,n4,n2),(n13,n6,n2)],[]⟩
def c237 : ICode :=
 (.seq (.ops [(oq n6 (.mv (k n0)))])
 (.seq (.seq (.ops [(om n13 n0),(oq n14 (.bin .lss (.t n13) (k n0)))])
 (.cond (.t n14) (.seq (.draw n0 [(dq (of n16 n2 n2) n1 n0 [] [] false true),(dq (of n17 n2 n16) n2 n0 [] [] false true),(dz (om n19 n0) n4 n0),(dq (ol n15 n1) n0 n0 [] [] false true),(dq (ol n18 n17) n3 n0 [] [] false true),(dq (oq n20 (.call (.c (.fn n200 [] [])) [(.t n19)] .borrow)) n5 n0 [] [n4] false false),(dz (oq n21 (.iaddr n2 (.t n18) (.t n20))) n6 n0),(dz (oq n22 (.load (some n2) (.t n21))) n7 n0),(dq (oq n23 (.call (.c (.fn n238 [] [])) [(.t n15),(.t n22)] .raw)) n8 n0 [] [n0,n7,n5,n6,n3,n2,n1,n4] true false),(dz (om n6 n23) n9 n0)])
 .ret)
 .skip))
 (.seq (.seq (.ops [(ol n25 n3),(om n26 n0),(oq n27 (.lookup false [.i64] true (.t n25) (.t n26))),(om n24 n27),(oq n28 (.extract (.t n24) n0)),(oq n29 (.extract (.t n24) n1)),(om n7 n28),(om n8 n29)])
 (.seq (.ops [(om n30 n8)])
 (.cond (.t n30) (.seq (.ops [(om n31 n7),(om n6 n31)])
 .ret)
 .skip)))
 (.seq (.ops [(of n32 n2 n2),(of n33 n3 n32),(ol n34 n33),(om n35 n0),(oq n36 (.iaddr n2 (.t n34) (.t n35))),(oq n37 (.load (some n2) (.t n36))),(oq n9 (.alloc [(.int .i64 (.l (i n0))),.nil])),⟨none,none,.store n2 (.t n9) (.t n37)⟩])
 (.seq (.ops [(of n38 n1 n9),(ol n39 n38),(oq n40 (.len (.t n39))),(oq n41 (.mkslice n1 [(.int .i64 (.l (i n0)))] n8 (.t n40))),(om n10 n41)])
 (.seq (.seq (.ops [(of n42 n1 n9),(ol n43 n42),(oq n44 (.len (.t n43))),(oq n45 (.mv (k n0)))])
 (.block n0 (.loop (.seq (.ops [(oq n46 (.bin .lss (.t n45) (.t n44)))])
 (.seq (.cond (.t n46) .skip
 (.exit n0))
 (.seq (.block n1 (.seq (.ops [(om n47 n45),(oq n48 (.iaddr n1 (.t n43) (.t n45))),(ol n49 n48),(om n11 n47),(om n12 n49)])
 (.ops [(om n50 n10),(om n51 n11),(ol n52 n4),(om n53 n12),(oq n54 (.call (.t n52) [(.t n53)] .raw)),(oq n55 (.iaddr n1 (.t n50) (.t n51))),⟨none,none,.store n1 (.t n55) (.t n54)⟩])))
 (.ops [(oq n56 (.bin .add (.t n45) (k n1))),(om n45 n56)])))))))
 (.seq (.draw n0 [(dq (om n58 n0) n1 n0 [] [] false true),(dz (of n60 n0 n9) n3 n0),(dz (om n62 n10) n5 n0),(dq (ol n57 n3) n0 n0 [] [] false true),(dz (ol n59 n1) n2 n0),(dz (ol n61 n60) n4 n0),(dq (oq n63 (.call (.c (.fn n239 [] [])) [(.t n59),(.t n61),(.t n62)] .raw)) n6 n0 [] [n2,n4,n5,n3] false false),⟨⟨none,none,.mapupd false [.i64] (.t n57) (.t n58) (.t n63)⟩,n7,n0,[],[n0,n1,n6,n2,n3,n4,n5],true,false⟩])
 (.seq (.ops [(ol n64 n3),(om n65 n0),(oq n66 (.lookup false [.i64] false (.t n64) (.t n65))),(om n6 n66)])
 .ret))))))))
def x237 : XFn := ⟨a237,n67,[(.t n6)],c237⟩
def a238 : Ann := ⟨[(n5,n8,n3),(n6,n1,n0)],[]⟩
def c238 : ICode :=
 (.seq (.ops [(oq n3 (.box (.t n1))),(oq n4 (.mv (k n0)))])
 (.seq (.draw n0 [(dz (om n8 n0) n0 n0),(dz (oq n9 (.nilchk (.t n8))) n1 n0),(dz (of n10 n7 n9) n2 n0),(dz (ol n11 n10) n3 n0),(dz (oq n12 (.load (some n2) (.t n3))) n4 n0),(dz (oq n13 (.lookup true [.u8,.i64] true (.t n11) (.t n12))) n5 n0),(dz (om n7 n13) n6 n0),(dz (oq n14 (.extract (.t n7) n0)) n7 n0),(dz (oq n15 (.extract (.t n7) n1)) n8 n0),(dz (om n5 n14) n9 n0),(dz (om n6 n15) n10 n0)])
 (.seq (.seq (.ops [(om n16 n6),(oq n17 (.un .not (.t n16)))])
 (.cond (.t n17) (.seq (.ops [(om n18 n0),(oq n19 (.nilchk (.t n18))),(of n20 n2 n19),(of n21 n2 n20),(ol n22 n21),(oq n23 (.len (.t n22))),(om n5 n23)])
 (.seq (.draw n0 [(dz (om n24 n0) n0 n0),(dz (oq n25 (.nilchk (.t n24))) n1 n0),(dz (of n26 n7 n25) n2 n0),(dz (om n29 n5) n5 n0),(dz (ol n27 n26) n3 n0),(dz (oq n28 (.load (some n2) (.t n3))) n4 n0),⟨⟨none,none,.mapupd true [.u8,.i64] (.t n27) (.t n28) (.t n29)⟩,n6,n0,[],[n3,n4,n5,n0,n1,n2],true,false⟩])
 (.draw n0 [(dq (om n30 n0) n0 n0 [] [] false true),(dq (om n31 n0) n1 n0 [] [] false true),(dq (oq n32 (.nilchk (.t n31))) n2 n0 [] [] false true),(dq (of n33 n2 n32) n3 n0 [] [] false true),(dq (of n34 n2 n33) n4 n0 [] [] false true),(dq (ol n35 n34) n5 n0 [] [] false true),(dz (oq n36 (.load (some n2) (.t n3))) n6 n0),(dq (oq n37 (.bslice n2 n1 [(.int .u8 (.l (i n0))),(.int .i64 (.l (i n0)))] [(n0,(.t n36))] false)) n7 n0 [] [n6] false false),(dq (oq n38 (.appendN n2 n16 (.t n35) (.t n37) true)) n8 n0 [] [n5,n7,n4,n3,n2,n1,n6] false false),(dz (oq n39 (.nilchk (.t n30))) n9 n0),(dz (of n40 n2 n39) n10 n0),(dz (of n41 n2 n40) n11 n0),⟨⟨none,none,.store n1 (.t n41) (.t n38)⟩,n12,n0,[],[n11,n8,n0,n1,n2,n3,n4,n5,n6,n7,n10,n9],true,false⟩])))
 .skip))
 (.seq (.ops [(om n42 n5),(oq n43 (.call (.c (.fn n200 [] [])) [(.t n42)] .borrow)),(om n4 n43)])
 .ret))))
def x238 : XFn := ⟨a238,n44,[(.t n4)],c238⟩
def a239 : Ann := ⟨[(n1,n2,n2),(n9,n10,n3)],[]⟩
def c239 : ICode :=
 (.seq (.ops [(oq n5 (.box (.t n2))),(oq n6 (.mv (k n0)))])
 (.seq (.seq (.ops [(ol n10 n5),(oq n11 (.mkfn n266 [] [(.t n5)])),(oq n12 (.call (.c (.fn n230 [] [])) [(.t n10),(.t n11)] .raw))])
 (.cond (.t n12) (.seq (.ops [(ol n13 n5),(oq n14 (.iaddr n1 (.t n13) (k n0))),(ol n15 n14),(om n6 n15)])
 .ret)
 .skip))
 (.seq (.ops [(om n16 n1),(oq n17 (.build [(.int .i64 (.l (i n0))),(.int .i64 (.l (i n0))),(.int .i64 (.l (i n0))),(.int .i64 (.l (i n0))),(.int .i64 (.l (i n0))),(.int .i64 (.l (i n0))),(.int .i64 (.l (i n0))),(.int .i64 (.l (i n0))),(.int .i64 (.l (i n0))),(.int .i64 (.l (i n0))),(.int .i64 (.l (i n0))),(.int .i64 (.l (i n0))),(.int .i64 (.l (i n0)))] [(n0,n1,(.t n16))])),(oq n7 (.alloc [(.int .i64 (.l (i n0))),(.int .i64 (.l (i n0))),(.int .i64 (.l (i n0))),(.int .i64 (.l (i n0))),(.int .i64 (.l (i n0))),(.int .i64 (.l (i n0))),(.int .i64 (.l (i n0))),(.int .i64 (.l (i n0))),(.int .i64 (.l (i n0))),(.int .i64 (.l (i n0))),(.int .i64 (.l (i n0))),(.int .i64 (.l (i n0))),(.int .i64 (.l (i n0)))])),⟨none,none,.store n13 (.t n7) (.t n17)⟩])
 (.seq (.draw n0 [(dz (of n18 n1 n7) n0 n0),(dz (oq n19 (.slarr n12 (.t n18) none none)) n1 n0),(dz (ol n20 n5) n2 n0),(dq (oq n21 (.copy n1 (.t n19) (.t n20))) n3 n0 [] [n1,n2,n0] true false)])
 (.seq (.draw n0 [(dz (om n23 n0) n0 n0),(dz (oq n24 (.nilchk (.t n23))) n1 n0),(dz (of n25 n8 n24) n2 n0),(dz (ol n26 n25) n3 n0),(dz (oq n27 (.load (some n13) (.t n7))) n4 n0),(dz (oq n28 (.lookup true [.i64,.i64,.i64,.i64,.i64,.i64,.i64,.i64,.i64,.i64,.i64,.i64,.i64] true (.t n26) (.t n27))) n5 n0),(dz (om n22 n28) n6 n0),(dz (oq n29 (.extract (.t n22) n0)) n7 n0),(dz (oq n30 (.extract (.t n22) n1)) n8 n0),(dz (om n8 n29) n9 n0),(dz (om n9 n30) n10 n0)])
 (.seq (.seq (.ops [(om n31 n9),(oq n32 (.un .not (.t n31)))])
 (.cond (.t n32) (.seq (.ops [(om n33 n0),(oq n34 (.nilchk (.t n33))),(of n35 n2 n34),(of n36 n3 n35),(ol n37 n36),(oq n38 (.len (.t n37))),(om n8 n38)])
 (.seq (.draw n0 [(dz (om n39 n0) n0 n0),(dz (oq n40 (.nilchk (.t n39))) n1 n0),(dz (of n41 n8 n40) n2 n0),(dz (om n44 n8) n5 n0),(dz (ol n42 n41) n3 n0),(dz (oq n43 (.load (some n13) (.t n7))) n4 n0),⟨⟨none,none,.mapupd true [.i64,.i64,.i64,.i64,.i64,.i64,.i64,.i64,.i64,.i64,.i64,.i64,.i64] (.t n42) (.t n43) (.t n44)⟩,n6,n0,[],[n3,n4,n5,n0,n1,n2],true,false⟩])
 (.draw n0 [(dq (om n45 n0) n0 n0 [] [] false true),(dq (om n46 n0) n1 n0 [] [] false true),(dq (oq n47 (.nilchk (.t n46))) n2 n0 [] [] false true),(dq (of n48 n2 n47) n3 n0 [] [] false true),(dq (of n49 n3 n48) n4 n0 [] [] false true),(dz (om n51 n1) n6 n0),(dq (ol n50 n49) n5 n0 [] [] false true),(dz (ol n52 n5) n7 n0),(dz (oq n53 (.build [(.int .i64 (.l (i n0))),.nil] [(n0,n1,(.t n51)),(n1,n1,(.t n52))])) n8 n0),(dq (oq n54 (.bslice n2 n1 [(.int .i64 (.l (i n0))),.nil] [(n0,(.t n53))] false)) n9 n0 [] [n8,n6,n7] false false),(dq (oq n55 (.appendN n2 n32 (.t n50) (.t n54) true)) n10 n0 [] [n5,n9,n4,n3,n2,n1,n8,n6,n7] false false),(dz (oq n56 (.nilchk (.t n45))) n11 n0),(dz (of n57 n2 n56) n12 n0),(dz (of n58 n3 n57) n13 n0),⟨⟨none,none,.store n1 (.t n58) (.t n55)⟩,n14,n0,[],[n13,n10,n0,n1,n2,n3,n4,n5,n6,n7,n8,n9,n12,n11],true,false⟩])))
 .skip))
 (.seq (.ops [(om n59 n8),(om n6 n59)])
 .ret)))))))
def x239 : XFn := ⟨a239,n60,[(.t n6)],c239⟩
def a240 : Ann := ⟨[(n4,n5,n2)],[]⟩
def c240 : ICode :=
 (.seq (.ops [(oq n4 (.mv (k n0)))])
 (.seq (.seq (.ops [(om n6 n0),(oq n7 (.len (.t n6))),(oq n8 (.mv (k n0)))])
 (.block n0 (.loop (.seq (.ops [(oq n9 (.bin .lss (.t n8) (.t n7)))])
 (.seq (.cond (.t n9) .skip
 (.exit n0))
 (.seq (.block n1 (.seq (.ops [(om n10 n8),(om n5 n10)])
 (.seq (.ops [(om n11 n1),(om n12 n0),(om n13 n5),(oq n14 (.iaddr n9 (.t n12) (.t n13))),(oq n15 (.load (some n9) (.t n14))),(oq n16 (.call (.t n11) [(.t n15)] .raw))])
 (.cond (.t n16) (.seq (.ops [(om n17 n5),(om n4 n17)])
 .ret)
 .skip))))
 (.ops [(oq n18 (.bin .add (.t n8) (k n1))),(om n8 n18)])))))))
 (.seq (.ops [(oq n4 (.mv (.c (.d (.int .i64 (.l (.negSucc n0)))))))])
 .ret)))
def x240 : XFn := ⟨a240,n19,[(.t n4)],c240⟩
def a241 : Ann := ⟨[(n4,n3,n2)],[]⟩
def c241 : ICode :=
 (.seq (.ops [(oq n2 (.box (.t n0)))])
 (.seq (.ops [(of n7 n0 n2),(ol n8 n7),(oq n9 (.len (.t n8))),(oq n10 (.mkslice n1 [(.int .i64 (.l (i n0)))] n8 (.t n9))),(om n4 n10)])
 (.seq (.ops [(oq n5 (.mv (k n0)))])
 (.block n0 (.loop (.seq (.block n1 (.seq (.seq (.ops [(om n13 n1),(om n14 n5),(om n15 n4),(oq n16 (.call (.t n13) [(.t n14),(.t n15)] .raw)),(oq n17 (.un .not (.t n16)))])
 (.cond (.t n17) .ret
 .skip))
 (.seq (.ops [(om n18 n4),(oq n19 (.len (.t n18))),(oq n20 (.bin .sub (.t n19) (k n1))),(om n6 n20)])
 (.seq (.block n2 (.loop (.seq (.seq (.draw n0 [(dz (om n21 n6) n0 n0),(dz (oq n22 (.bin .geq (.t n21) (k n0))) n1 n0),(dz (om n23 n22) n2 n0),(dz (og n24 n23 true (.mv (.t n4))) n3 n0),(dz (og n25 n23 true (.mv (.t n6))) n4 n0),(dz (og n26 n23 true (.iaddr n1 (.t n24) (.t n25))) n5 n0),(dz (og n28 n23 true (.faddr n0 (.t n2))) n7 n0),(dz (og n30 n23 true (.mv (.t n6))) n9 n0),(dz (og n27 n23 true (.load none (.t n26))) n6 n0),(dz (og n29 n23 true (.load none (.t n28))) n8 n0),(dz (og n31 n23 true (.iaddr n1 (.t n29) (.t n30))) n10 n0),(dz (og n32 n23 true (.load none (.t n31))) n11 n0),(dz (og n33 n23 true (.bin .sub (.t n32) (k n1))) n12 n0),(dz (og n34 n23 true (.bin .eql (.t n27) (.t n33))) n13 n0),(dz (oq n35 (.pick (.t n23) (.t n34) (.c (.d (.bool false))))) n14 n0)])
 (.cond (.t n35) .skip
 (.exit n2)))
 (.block n3 (.seq (.ops [(om n36 n4),(om n37 n6),(oq n38 (.iaddr n1 (.t n36) (.t n37))),⟨none,none,.store n1 (.t n38) (k n0)⟩])
 (.ops [(om n39 n6),(oq n40 (.bin .sub (.t n39) (k n1))),(om n6 n40)]))))))
 (.seq (.seq (.ops [(om n41 n6),(oq n42 (.bin .lss (.t n41) (k n0)))])
 (.cond (.t n42) .ret
 .skip))
 (.ops [(om n43 n4),(om n44 n6),(oq n45 (.iaddr n1 (.t n43) (.t n44))),(ol n46 n45),(oq n47 (.bin .add (.t n46) (k n1))),(oq n48 (.iaddr n1 (.t n43) (.t n44))),⟨none,none,.store n1 (.t n48) (.t n47)⟩]))))))
 (.ops [(om n11 n5),(oq n12 (.bin .add (.t n11) (k n1))),(om n5 n12)])))))))
def x241 : XFn := ⟨a241,n49,[],c241⟩
def a242 : Ann := ⟨[],[]⟩
def c242 : ICode :=
 .skip
def x242 : XFn := ⟨a242,n2,[],c242⟩
def a243 : Ann := ⟨[(n4,n14,n2)],[]⟩
def c243 : ICode :=
 (.seq (.ops [(om n10 n1),(oq n11 (.bin .add (.t n10) (k n1))),(om n8 n11)])
 (.block n0 (.loop (.seq (.seq (.ops [(om n12 n8),(om n13 n2),(oq n14 (.bin .lss (.t n12) (.t n13)))])
 (.cond (.t n14) .skip
 (.exit n0)))
 (.seq (.block n1 (.seq (.ops [(om n17 n8),(om n9 n17)])
 (.block n2 (.loop (.seq (.seq (.draw n0 [(dz (om n18 n9) n0 n0),(dz (om n19 n1) n1 n0),(dz (oq n20 (.bin .gtr (.t n18) (.t n19))) n2 n0),(dz (om n21 n20) n3 n0),(dz (og n22 n21 true (.mv (.t n3))) n4 n0),(dz (og n23 n21 true (.mv (.t n0))) n5 n0),(dz (og n24 n21 true (.mv (.t n9))) n6 n0),(dz (og n25 n21 true (.iaddr n2 (.t n23) (.t n24))) n7 n0),(dz (og n27 n21 true (.mv (.t n0))) n9 n0),(dz (og n28 n21 true (.mv (.t n9))) n10 n0),(dz (og n29 n21 true (.bin .sub (.t n28) (k n1))) n11 n0),(dz (og n30 n21 true (.iaddr n2 (.t n27) (.t n29))) n12 n0),(dz (og n26 n21 true (.load (some n2) (.t n25))) n8 n0),(dz (og n31 n21 true (.load (some n2) (.t n30))) n13 n0),(dq (og n32 n21 true (.call (.t n22) [(.t n26),(.t n31)] .raw)) n14 n0 [] [n4,n8,n13,n3,n2,n0,n1,n7,n5,n6,n12,n9,n11,n10] true false),(dz (og n33 n21 true (.bin .lss (.t n32) (k n0))) n15 n0),(dz (oq n34 (.pick (.t n21) (.t n33) (.c (.d (.bool false))))) n16 n0)])
 (.cond (.t n34) .skip
 (.exit n2)))
 (.seq (.block n3 (.draw n0 [(dz (om n37 n0) n0 n0),(dz (om n38 n9) n1 n0),(dq (om n39 n0) n2 n0 [] [] false true),(dq (om n40 n9) n3 n0 [] [] false true),(dq (oq n41 (.bin .sub (.t n40) (k n1))) n4 n0 [] [] false true),(dz (om n42 n0) n5 n0),(dz (om n43 n9) n6 n0),(dz (oq n44 (.bin .sub (.t n43) (k n1))) n7 n0),(dz (oq n45 (.iaddr n2 (.t n42) (.t n44))) n8 n0),(dz (om n47 n0) n10 n0),(dz (om n48 n9) n11 n0),(dz (oq n49 (.iaddr n2 (.t n47) (.t n48))) n12 n0),(dz (oq n46 (.load (some n2) (.t n45))) n9 n0),(dz (oq n50 (.load (some n2) (.t n49))) n13 n0),(dz (oq n51 (.iaddr n2 (.t n37) (.t n38))) n14 n0),⟨⟨none,none,.store n2 (.t n51) (.t n46)⟩,n15,n0,[],[n14,n9,n0,n1,n5,n6,n7,n8,n13,n12,n10,n11],false,false⟩,(dz (oq n52 (.iaddr n2 (.t n39) (.t n41))) n16 n0),⟨⟨none,none,.store n2 (.t n52) (.t n50)⟩,n17,n0,[],[n16,n13,n15,n0,n1,n2,n3,n4,n5,n6,n7,n8,n9,n10,n11,n12,n14],true,false⟩]))
 (.ops [(om n35 n9),(oq n36 (.bin .sub (.t n35) (k n1))),(om n9 n36)])))))))
 (.ops [(om n15 n8),(oq n16 (.bin .add (.t n15) (k n1))),(om n8 n16)]))))))
def x243 : XFn := ⟨a243,n53,[],c243⟩
def a251 : Ann := ⟨[(n4,n5,n2)],[]⟩
def c251 : ICode :=
 (.seq (.ops [(oq n4 (.mv (k n0)))])
 (.seq (.seq (.ops [(om n6 n0),(oq n7 (.len (.t n6))),(oq n8 (.mv (k n0)))])
 (.block n0 (.loop (.seq (.ops [(oq n9 (.bin .lss (.t n8) (.t n7)))])
 (.seq (.cond (.t n9) .skip
 (.exit n0))
 (.seq (.block n1 (.seq (.ops [(om n10 n8),(om n5 n10)])
 (.seq (.ops [(om n11 n1),(om n12 n0),(om n13 n5),(oq n14 (.iaddr n2 (.t n12) (.t n13))),(oq n15 (.load (some n2) (.t n14))),(oq n16 (.call (.t n11) [(.t n15)] .raw))])
 (.cond (.t n16) (.seq (.ops [(om n17 n5),(om n4 n17)])
 .ret)
 .skip))))
 (.ops [(oq n18 (.bin .add (.t n8) (k n1))),(om n8 n18)])))))))
 (.seq (.ops [(oq n4 (.mv (.c (.d (.int .i64 (.l (.negSucc n0)))))))])
 .ret)))
def x251 : XFn := ⟨a251,n19,[(.t n4)],c251⟩
def a252 : Ann := ⟨[],[]⟩
def c252 : ICode :=
 (.seq (.ops [(oq n4 (.mv (.c (.d (.bool false)))))])
 (.seq (.ops [(om n5 n0),(ol n6 n1),(oq n7 (.bin .lss (.t n5) (.t n6))),(om n8 n7),(og n9 n8 false (.mv (.t n0))),(og n10 n8 false (.load none (.t n2))),(og n11 n8 false (.bin .gtr (.t n9) (.t n10))),(oq n12 (.pick (.t n8) (.c (.d (.bool true))) (.t n11))),(om n4 n12)])
 .ret))
def x252 : XFn := ⟨a252,n13,[(.t n4)],c252⟩
def a253 : Ann := ⟨[(n1,n1,n0)],[]⟩
def c253 : ICode :=
 (.seq (.ops [(oq n1 (.box (.t n0))),(oq n2 (.mv (.c (.d (.bool false)))))])
 (.seq (.ops [(oq n3 (.load (some n2) (.t n1))),(oq n4 (.call (.c (.fn n184 [] [])) [(.t n3)] .borrow)),(oq n5 (.un .not (.t n4))),(om n2 n5)])
 .ret))
def x253 : XFn := ⟨a253,n6,[(.t n2)],c253⟩
def a254 : Ann := ⟨[],[]⟩
def c254 : ICode :=
 (.seq (.ops [(oq n2 (.mv (.c (.d (.bool false)))))])
 (.seq (.ops [(om n3 n0),(om n4 n0),(oq n5 (.bin .neq (.t n3) (.t n4))),(om n2 n5)])
 .ret))
def x254 : XFn := ⟨a254,n6,[(.t n2)],c254⟩
def a255 : Ann := ⟨[],[]⟩
def c255 : ICode :=
 (.seq (.ops [(oq n2 (.mv (.c (.d (.bool false)))))])
 (.seq (.ops [(om n3 n0),(om n4 n0),(oq n5 (.bin .neq (.t n3) (.t n4))),(om n2 n5)])
 .ret))
def x255 : XFn := ⟨a255,n6,[(.t n2)],c255⟩
def a262 : Ann := ⟨[(n1,n2,n2)],[]⟩
def c262 : ICode :=
 (.seq (.ops [(oq n2 (.box (.t n0))),(oq n3 (.mv (.c (.d (.bool false)))))])
 (.seq (.ops [(ol n4 n1),(oq n5 (.load (some n2) (.t n2))),(oq n6 (.call (.t n4) [(.t n5)] .raw)),(oq n7 (.un .not (.t n6))),(om n3 n7)])
 .ret))
def x262 : XFn := ⟨a262,n8,[(.t n3)],c262⟩
def a263 : Ann := ⟨[(n1,n2,n2)],[]⟩
def c263 : ICode :=
 (.seq (.ops [(oq n3 (.mv (.c (.d (.bool false)))))])
 (.seq (.ops [(ol n4 n1),(om n5 n0),(oq n6 (.call (.t n4) [(.t n5)] .raw)),(oq n7 (.un .not (.t n6))),(om n3 n7)])
 .ret))
def x263 : XFn := ⟨a263,n8,[(.t n3)],c263⟩
def a264 : Ann := ⟨[(n1,n7,n0),(n1,n8,n0)],[]⟩
def c264 : ICode :=
 (.seq (.ops [(oq n5 (.mv (.c (.d (.bool false)))))])
 (.seq (.draw n0 [(dq (om n7 n0) n1 n0 [] [] false true),(dz (of n9 n0 n1) n3 n0),(dz (of n11 n0 n3) n5 n0),(dq (oq n6 (.load (some n7) (.t n1))) n0 n0 [] [] false true),(dq (ol n8 n2) n2 n0 [] [] false true),(dz (oq n10 (.load (some n2) (.t n9))) n4 n0),(dz (ol n12 n11) n6 n0),(dq (oq n13 (.call (.c (.fn n265 [] [])) [(.t n10),(.t n12)] .borrow)) n7 n0 [] [n4,n6,n3,n5] false false),(dq (oq n14 (.call (.c (.fn n232 [] [])) [(.t n6),(.t n7),(.t n8),(.t n13)] .borrow)) n8 n0 [] [n0,n1,n2,n7,n4,n6,n3,n5] true false),(dz (om n5 n14) n9 n0)])
 .ret))
def x264 : XFn := ⟨a264,n15,[(.t n5)],c264⟩
def a265 : Ann := ⟨[(n1,n3,n0)],[]⟩
def c265 : ICode :=
 (.seq (.ops [(oq n2 (.box (.t n0))),(oq n4 (.mv (k n0)))])
 (.seq (.ops [(of n5 n1 n2),(ol n6 n5),(om n7 n1),(oq n8 (.call (.c (.fn n271 [] [])) [(.t n6),(.t n7)] .borrow)),(om n4 n8)])
 .ret))
def x265 : XFn := ⟨a265,n9,[(.t n4)],c265⟩
def a266 : Ann := ⟨[],[]⟩
def c266 : ICode :=
 (.seq (.ops [(oq n3 (.mv (.c (.d (.bool false)))))])
 (.seq (.ops [(om n4 n0),(ol n5 n1),(oq n6 (.iaddr n1 (.t n5) (k n0))),(ol n7 n6),(oq n8 (.bin .eql (.t n4) (.t n7))),(om n3 n8)])
 .ret))
def x266 : XFn := ⟨a266,n9,[(.t n3)],c266⟩
def a271 : Ann := ⟨[],[]⟩
def c271 : ICode :=
 (.seq (.ops [(oq n4 (.mv (k n0)))])
 (.seq (.seq (.ops [(om n6 n0),(oq n7 (.len (.t n6))),(oq n8 (.mv (k n0)))])
 (.block n0 (.loop (.seq (.ops [(oq n9 (.bin .lss (.t n8) (.t n7)))])
 (.seq (.cond (.t n9) .skip
 (.exit n0))
 (.seq (.block n1 (.seq (.ops [(om n10 n8),(om n5 n10)])
 (.seq (.ops [(om n11 n1),(om n12 n0),(om n13 n5),(oq n14 (.iaddr n1 (.t n12) (.t n13))),(ol n15 n14),(oq n16 (.bin .eql (.t n11) (.t n15)))])
 (.cond (.t n16) (.seq (.ops [(om n17 n5),(om n4 n17)])
 .ret)
 .skip))))
 (.ops [(oq n18 (.bin .add (.t n8) (k n1))),(om n8 n18)])))))))
 (.seq (.ops [(oq n4 (.mv (.c (.d (.int .i64 (.l (.negSucc n0)))))))])
 .ret)))
def x271 : XFn := ⟨a271,n19,[(.t n4)],c271⟩
def tab : XT := (.node n154 x154 (.node n98 x98 (.node n62 x62 (.node n36 x36 (.node n28 x28 (.node n20 x20 (.node n19 x19 (.node n15 x15 .leaf .leaf) .leaf) (.node n25 x25 .leaf .leaf)) (.node n33 x33 (.node n31 x31 (.node n30 x30 .leaf .leaf) .leaf) (.node n35 x35 .leaf .leaf))) (.node n47 x47 (.node n40 x40 (.node n38 x38 (.node n37 x37 .leaf .leaf) .leaf) (.node n45 x45 .leaf .leaf)) (.node n58 x58 (.node n57 x57 .leaf .leaf) (.node n59 x59 .leaf .leaf)))) (.node n80 x80 (.node n67 x67 (.node n65 x65 (.node n64 x64 (.node n63 x63 .leaf .leaf) .leaf) (.node n66 x66 .leaf .leaf)) (.node n74 x74 (.node n73 x73 (.node n70 x70 .leaf .leaf) .leaf) (.node n75 x75 .leaf .leaf))) (.node n88 x88 (.node n83 x83 (.node n82 x82 (.node n81 x81 .leaf .leaf) .leaf) (.node n84 x84 .leaf .leaf)) (.node n96 x96 (.node n89 x89 .leaf .leaf) (.node n97 x97 .leaf .leaf))))) (.node n130 x130 (.node n116 x116 (.node n111 x111 (.node n109 x109 (.node n108 x108 (.node n99 x99 .leaf .leaf) .leaf) (.node n110 x110 .leaf .leaf)) (.node n114 x114 (.node n113 x113 (.node n112 x112 .leaf .leaf) .leaf) (.node n115 x115 .leaf .leaf))) (.node n121 x121 (.node n119 x119 (.node n118 x118 (.node n117 x117 .leaf .leaf) .leaf) (.node n120 x120 .leaf .leaf)) (.node n123 x123 (.node n122 x122 .leaf .leaf) (.node n124 x124 .leaf .leaf)))) (.node n145 x145 (.node n135 x135 (.node n133 x133 (.node n132 x132 (.node n131 x131 .leaf .leaf) .leaf) (.node n134 x134 .leaf .leaf)) (.node n138 x138 (.node n137 x137 (.node n136 x136 .leaf .leaf) .leaf) (.node n142 x142 .leaf .leaf))) (.node n150 x150 (.node n148 x148 (.node n147 x147 (.node n146 x146 .leaf .leaf) .leaf) (.node n149 x149 .leaf .leaf)) (.node n152 x152 (.node n151 x151 .leaf .leaf) (.node n153 x153 .leaf .leaf)))))) (.node n210 x210 (.node n185 x185 (.node n169 x169 (.node n160 x160 (.node n157 x157 (.node n156 x156 (.node n155 x155 .leaf .leaf) .leaf) (.node n158 x158 .leaf .leaf)) (.node n163 x163 (.node n162 x162 (.node n161 x161 .leaf .leaf) .leaf) (.node n168 x168 .leaf .leaf))) (.node n174 x174 (.node n172 x172 (.node n171 x171 (.node n170 x170 .leaf .leaf) .leaf) (.node n173 x173 .leaf .leaf)) (.node n176 x176 (.node n175 x175 .leaf .leaf) (.node n184 x184 .leaf .leaf)))) (.node n198 x198 (.node n190 x190 (.node n188 x188 (.node n187 x187 (.node n186 x186 .leaf .leaf) .leaf) (.node n189 x189 .leaf .leaf)) (.node n196 x196 (.node n193 x193 (.node n191 x191 .leaf .leaf) .leaf) (.node n197 x197 .leaf .leaf))) (.node n203 x203 (.node n201 x201 (.node n200 x200 (.node n199 x199 .leaf .leaf) .leaf) (.node n202 x202 .leaf .leaf)) (.node n205 x205 (.node n204 x204 .leaf .leaf) (.node n208 x208 .leaf .leaf))))) (.node n236 x236 (.node n227 x227 (.node n215 x215 (.node n213 x213 (.node n212 x212 (.node n211 x211 .leaf .leaf) .leaf) (.node n214 x214 .leaf .leaf)) (.node n225 x225 (.node n222 x222 (.node n216 x216 .leaf .leaf) .leaf) (.node n226 x226 .leaf .leaf))) (.node n232 x232 (.node n230 x230 (.node n229 x229 (.node n228 x228 .leaf .leaf) .leaf) (.node n231 x231 .leaf .leaf)) (.node n234 x234 (.node n233 x233 .leaf .leaf) (.node n235 x235 .leaf .leaf)))) (.node n253 x253 (.node n241 x241 (.node n239 x239 (.node n238 x238 (.node n237 x237 .leaf .leaf) .leaf) (.node n240 x240 .leaf .leaf)) (.node n251 x251 (.node n243 x243 (.node n242 x242 .leaf .leaf) .leaf) (.node n252 x252 .leaf .leaf))) (.node n264 x264 (.node n262 x262 (.node n255 x255 (.node n254 x254 .leaf .leaf) .leaf) (.node n263 x263 .leaf .leaf)) (.node n266 x266 (.node n265 x265 .leaf .leaf) (.node n271 x271 .leaf .leaf)))))))
end
end Go.Proofs.Tryz.Run
