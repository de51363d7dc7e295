/- The functions of the table, and the table. Conditions: none. -/
import Derived.Test.YtbglklaocjifhaaGreatFTb1
set_option linter.unusedSimpArgs false
set_option linter.unusedVariables false
namespace Go.Proofs.Tryz.Run
open Go Go.Vf
noncomputable section
def h0d:Ann:=⟨[(n7,n3,n2)],[]⟩
def g6k:a0c:=
 (.seq (.ops [(oq n6 (.mv (.c (.d (.bool false)))))])
 (.seq (.seq (.ops [(om n10 n0),(oq n11 (.len (.t n10))),(om n12 n1),(oq n13 (.len (.t n12))),(oq n14 (.bin .neq (.t n11) (.t n13)))])
 (.cond (.t n14) (.seq (.ops [(oq n6 (.mv (.c (.d (.bool false)))))])
 .ret)
 .skip))
 (.seq (.seq (.ops [(om n15 n0),(oq n16 (.len (.t n15))),(oq n17 (.mv (k n0)))])
 (.block n0 (.loop (.seq (.ops [(oq n18 (.bin .lss (.t n17) (.t n16)))])
 (.seq (.cond (.t n18) .skip
 (.exit n0))
 (.seq (.block n1 (.seq (.ops [(om n19 n17),(oq n20 (.iaddr n2 (.t n15) (.t n17))),(oq n21 (.load (some n2) (.t n20))),(oq n8 (.alloc [(.int .i64 (.l (i n0))),.nil])),(om n7 n19),⟨none,none,.store n2 (.t n8) (.t n21)⟩])
 (.seq (.ops [(om n22 n1),(om n23 n7),(oq n24 (.iaddr n2 (.t n22) (.t n23))),(oq n25 (.load (some n2) (.t n24))),(oq n9 (.alloc [(.int .i64 (.l (i n0))),.nil])),⟨none,none,.store n2 (.t n9) (.t n25)⟩])
 (.seq (.ops [(om n26 n2),(oq n27 (.load (some n2) (.t n8))),(oq n28 (.load (some n2) (.t n9))),(oq n29 (.call (.t n26) [(.t n27),(.t n28)] .raw)),(oq n30 (.un .not (.t n29)))])
 (.cond (.t n30) (.seq (.ops [(oq n6 (.mv (.c (.d (.bool false)))))])
 .ret)
 .skip)))))
 (.ops [(oq n31 (.bin .add (.t n17) (k n1))),(om n17 n31)])))))))
 (.seq (.ops [(oq n6 (.mv (.c (.d (.bool true)))))])
 .ret))))
def f5y:XFn:=⟨h0d,n32,[(.t n6)],g6k⟩
def g4i:Ann:=⟨[(n1,n3,n3),(n1,n6,n3)],[]⟩
def g5z:a0c:=
 (.seq (.ops [(oq n1 (.box (.t n0))),(oq n2 (.mv (.c (.d (.raw (.pointer none))))))])
 (.seq (.draw n3 [(dz (of n4 n0 n1) n1 n0),(dz (of n7 n1 n1) n4 n0),(dq (oq n3 (.load (some n2) (.t n1))) n0 n0 [n0,n1,n2] [] false false),(dq (ol n5 n4) n2 n0 [n0,n1,n2] [] false false),(dq (ol n8 n7) n5 n0 [n0,n1,n2] [] false false),(dz (oq n11 (.mkmap true [.u8,.i64])) n8 n0),(dz (oq n12 (.mkmap true [.i64,.i64,.i64,.i64,.i64,.i64,.i64,.i64,.i64,.i64,.i64,.i64,.i64])) n9 n1),(dz (oq n6 (.call (.c (.fn d4n [] [])) [(.t n5)] .data)) n3 n0),(dz (oq n9 (.call (.c (.fn d4n [] [])) [(.t n8)] .data)) n6 n0),(dz (oq n10 (.build [.nil,.nil,.nil,.nil,(.int .i64 (.l (i n0)))] [(n0,n1,(.t n6)),(n1,n1,(.t n9))])) n7 n0),(dz (oq n13 (.build [.nil,.nil,.nil,.nil,.nil,.nil,(.int .i64 (.l (i n0))),(.raw (.map none)),(.raw (.map none))] [(n0,n2,(.t n3)),(n2,n5,(.t n10)),(n7,n1,(.t n11)),(n8,n1,(.t n12))])) n10 n2),(dz (oq n14 (.box (.t n13))) n11 n2),(dz (om n2 n14) n12 n3)])
 .ret))
def f6l:XFn:=⟨g4i,n15,[(.t n2)],g5z⟩
def g3n:Ann:=⟨[(n2,n5,n0),(n2,n8,n2),(n11,n4,n2),(n13,n6,n2)],[]⟩
def h1e:a0c:=
 (.seq (.ops [(oq n6 (.mv (k n0)))])
 (.seq (.seq (.ops [(om n13 n0),(oq n14 (.bin .lss (.t n13) (k n0)))])
 (.cond (.t n14) (.seq (.draw n0 [(dq (of n16 n2 n2) n1 n0 [] [] false true),(dq (of n17 n2 n16) n2 n0 [] [] false true),(dz (om n19 n0) n4 n0),(dq (ol n15 n1) n0 n0 [] [] false true),(dq (ol n18 n17) n3 n0 [] [] false true),(dq (oq n20 (.call (.c (.fn d7p [] [])) [(.t n19)] .borrow)) n5 n0 [] [n4] false false),(dz (oq n21 (.iaddr n2 (.t n18) (.t n20))) n6 n0),(dz (oq n22 (.load (some n2) (.t n21))) n7 n0),(dq (oq n23 (.call (.c (.fn e5e [] [])) [(.t n15),(.t n22)] .raw)) n8 n0 [] [n0,n7,n5,n6,n3,n2,n1,n4] true false),(dz (om n6 n23) n9 n0)])
 .ret)
 .skip))
 (.seq (.seq (.ops [(ol n25 n3),(om n26 n0),(oq n27 (.lookup false [.i64] true (.t n25) (.t n26))),(om n24 n27),(oq n28 (.extract (.t n24) n0)),(oq n29 (.extract (.t n24) n1)),(om n7 n28),(om n8 n29)])
 (.seq (.ops [(om n30 n8)])
 (.cond (.t n30) (.seq (.ops [(om n31 n7),(om n6 n31)])
 .ret)
 .skip)))
 (.seq (.ops [(of n32 n2 n2),(of n33 n3 n32),(ol n34 n33),(om n35 n0),(oq n36 (.iaddr n2 (.t n34) (.t n35))),(oq n37 (.load (some n2) (.t n36))),(oq n9 (.alloc [(.int .i64 (.l (i n0))),.nil])),⟨none,none,.store n2 (.t n9) (.t n37)⟩])
 (.seq (.ops [(of n38 n1 n9),(ol n39 n38),(oq n40 (.len (.t n39))),(oq n41 (.mkslice n1 [(.int .i64 (.l (i n0)))] n8 (.t n40))),(om n10 n41)])
 (.seq (.seq (.ops [(of n42 n1 n9),(ol n43 n42),(oq n44 (.len (.t n43))),(oq n45 (.mv (k n0)))])
 (.block n0 (.loop (.seq (.ops [(oq n46 (.bin .lss (.t n45) (.t n44)))])
 (.seq (.cond (.t n46) .skip
 (.exit n0))
 (.seq (.block n1 (.seq (.ops [(om n47 n45),(oq n48 (.iaddr n1 (.t n43) (.t n45))),(ol n49 n48),(om n11 n47),(om n12 n49)])
 (.ops [(om n50 n10),(om n51 n11),(ol n52 n4),(om n53 n12),(oq n54 (.call (.t n52) [(.t n53)] .raw)),(oq n55 (.iaddr n1 (.t n50) (.t n51))),⟨none,none,.store n1 (.t n55) (.t n54)⟩])))
 (.ops [(oq n56 (.bin .add (.t n45) (k n1))),(om n45 n56)])))))))
 (.seq (.draw n0 [(dq (om n58 n0) n1 n0 [] [] false true),(dz (of n60 n0 n9) n3 n0),(dz (om n62 n10) n5 n0),(dq (ol n57 n3) n0 n0 [] [] false true),(dz (ol n59 n1) n2 n0),(dz (ol n61 n60) n4 n0),(dq (oq n63 (.call (.c (.fn e5t [] [])) [(.t n59),(.t n61),(.t n62)] .raw)) n6 n0 [] [n2,n4,n5,n3] false false),⟨⟨none,none,.mapupd false [.i64] (.t n57) (.t n58) (.t n63)⟩,n7,n0,[],[n0,n1,n6,n2,n3,n4,n5],true,false⟩])
 (.seq (.ops [(ol n64 n3),(om n65 n0),(oq n66 (.lookup false [.i64] false (.t n64) (.t n65))),(om n6 n66)])
 .ret))))))))
def f3r:XFn:=⟨g3n,n67,[(.t n6)],h1e⟩
def g8i:Ann:=⟨[(n5,n8,n3),(n6,n1,n0)],[]⟩
def h1k:a0c:=
 (.seq (.ops [(oq n3 (.box (.t n1))),(oq n4 (.mv (k n0)))])
 (.seq (.draw n0 [(dz (om n8 n0) n0 n0),(dz (oq n9 (.nilchk (.t n8))) n1 n0),(dz (of n10 n7 n9) n2 n0),(dz (ol n11 n10) n3 n0),(dz (oq n12 (.load (some n2) (.t n3))) n4 n0),(dz (oq n13 (.lookup true [.u8,.i64] true (.t n11) (.t n12))) n5 n0),(dz (om n7 n13) n6 n0),(dz (oq n14 (.extract (.t n7) n0)) n7 n0),(dz (oq n15 (.extract (.t n7) n1)) n8 n0),(dz (om n5 n14) n9 n0),(dz (om n6 n15) n10 n0)])
 (.seq (.seq (.ops [(om n16 n6),(oq n17 (.un .not (.t n16)))])
 (.cond (.t n17) (.seq (.ops [(om n18 n0),(oq n19 (.nilchk (.t n18))),(of n20 n2 n19),(of n21 n2 n20),(ol n22 n21),(oq n23 (.len (.t n22))),(om n5 n23)])
 (.seq (.draw n0 [(dz (om n24 n0) n0 n0),(dz (oq n25 (.nilchk (.t n24))) n1 n0),(dz (of n26 n7 n25) n2 n0),(dz (om n29 n5) n5 n0),(dz (ol n27 n26) n3 n0),(dz (oq n28 (.load (some n2) (.t n3))) n4 n0),⟨⟨none,none,.mapupd true [.u8,.i64] (.t n27) (.t n28) (.t n29)⟩,n6,n0,[],[n3,n4,n5,n0,n1,n2],true,false⟩])
 (.draw n0 [(dq (om n30 n0) n0 n0 [] [] false true),(dq (om n31 n0) n1 n0 [] [] false true),(dq (oq n32 (.nilchk (.t n31))) n2 n0 [] [] false true),(dq (of n33 n2 n32) n3 n0 [] [] false true),(dq (of n34 n2 n33) n4 n0 [] [] false true),(dq (ol n35 n34) n5 n0 [] [] false true),(dz (oq n36 (.load (some n2) (.t n3))) n6 n0),(dq (oq n37 (.bslice n2 n1 [(.int .u8 (.l (i n0))),(.int .i64 (.l (i n0)))] [(n0,(.t n36))] false)) n7 n0 [] [n6] false false),(dq (oq n38 (.appendN n2 n16 (.t n35) (.t n37) true)) n8 n0 [] [n5,n7,n4,n3,n2,n1,n6] false false),(dz (oq n39 (.nilchk (.t n30))) n9 n0),(dz (of n40 n2 n39) n10 n0),(dz (of n41 n2 n40) n11 n0),⟨⟨none,none,.store n1 (.t n41) (.t n38)⟩,n12,n0,[],[n11,n8,n0,n1,n2,n3,n4,n5,n6,n7,n10,n9],true,false⟩])))
 .skip))
 (.seq (.ops [(om n42 n5),(oq n43 (.call (.c (.fn d7p [] [])) [(.t n42)] .borrow)),(om n4 n43)])
 .ret))))
def g1v:XFn:=⟨g8i,n44,[(.t n4)],h1k⟩
def h2g:Ann:=⟨[(n1,n2,n2),(n9,n10,n3)],[]⟩
def h3l:a0c:=
 (.seq (.ops [(oq n5 (.box (.t n2))),(oq n6 (.mv (k n0)))])
 (.seq (.seq (.ops [(ol n10 n5),(oq n11 (.mkfn e8g [] [(.t n5)])),(oq n12 (.call (.c (.fn d9z [] [])) [(.t n10),(.t n11)] .raw))])
 (.cond (.t n12) (.seq (.ops [(ol n13 n5),(oq n14 (.iaddr n1 (.t n13) (k n0))),(ol n15 n14),(om n6 n15)])
 .ret)
 .skip))
 (.seq (.ops [(om n16 n1),(oq n17 (.build [(.int .i64 (.l (i n0))),(.int .i64 (.l (i n0))),(.int .i64 (.l (i n0))),(.int .i64 (.l (i n0))),(.int .i64 (.l (i n0))),(.int .i64 (.l (i n0))),(.int .i64 (.l (i n0))),(.int .i64 (.l (i n0))),(.int .i64 (.l (i n0))),(.int .i64 (.l (i n0))),(.int .i64 (.l (i n0))),(.int .i64 (.l (i n0))),(.int .i64 (.l (i n0)))] [(n0,n1,(.t n16))])),(oq n7 (.alloc [(.int .i64 (.l (i n0))),(.int .i64 (.l (i n0))),(.int .i64 (.l (i n0))),(.int .i64 (.l (i n0))),(.int .i64 (.l (i n0))),(.int .i64 (.l (i n0))),(.int .i64 (.l (i n0))),(.int .i64 (.l (i n0))),(.int .i64 (.l (i n0))),(.int .i64 (.l (i n0))),(.int .i64 (.l (i n0))),(.int .i64 (.l (i n0))),(.int .i64 (.l (i n0)))])),⟨none,none,.store n13 (.t n7) (.t n17)⟩])
 (.seq (.draw n0 [(dz (of n18 n1 n7) n0 n0),(dz (oq n19 (.slarr n12 (.t n18) none none)) n1 n0),(dz (ol n20 n5) n2 n0),(dq (oq n21 (.copy n1 (.t n19) (.t n20))) n3 n0 [] [n1,n2,n0] true false)])
 (.seq (.draw n0 [(dz (om n23 n0) n0 n0),(dz (oq n24 (.nilchk (.t n23))) n1 n0),(dz (of n25 n8 n24) n2 n0),(dz (ol n26 n25) n3 n0),(dz (oq n27 (.load (some n13) (.t n7))) n4 n0),(dz (oq n28 (.lookup true [.i64,.i64,.i64,.i64,.i64,.i64,.i64,.i64,.i64,.i64,.i64,.i64,.i64] true (.t n26) (.t n27))) n5 n0),(dz (om n22 n28) n6 n0),(dz (oq n29 (.extract (.t n22) n0)) n7 n0),(dz (oq n30 (.extract (.t n22) n1)) n8 n0),(dz (om n8 n29) n9 n0),(dz (om n9 n30) n10 n0)])
 (.seq (.seq (.ops [(om n31 n9),(oq n32 (.un .not (.t n31)))])
 (.cond (.t n32) (.seq (.ops [(om n33 n0),(oq n34 (.nilchk (.t n33))),(of n35 n2 n34),(of n36 n3 n35),(ol n37 n36),(oq n38 (.len (.t n37))),(om n8 n38)])
 (.seq (.draw n0 [(dz (om n39 n0) n0 n0),(dz (oq n40 (.nilchk (.t n39))) n1 n0),(dz (of n41 n8 n40) n2 n0),(dz (om n44 n8) n5 n0),(dz (ol n42 n41) n3 n0),(dz (oq n43 (.load (some n13) (.t n7))) n4 n0),⟨⟨none,none,.mapupd true [.i64,.i64,.i64,.i64,.i64,.i64,.i64,.i64,.i64,.i64,.i64,.i64,.i64] (.t n42) (.t n43) (.t n44)⟩,n6,n0,[],[n3,n4,n5,n0,n1,n2],true,false⟩])
 (.draw n0 [(dq (om n45 n0) n0 n0 [] [] false true),(dq (om n46 n0) n1 n0 [] [] false true),(dq (oq n47 (.nilchk (.t n46))) n2 n0 [] [] false true),(dq (of n48 n2 n47) n3 n0 [] [] false true),(dq (of n49 n3 n48) n4 n0 [] [] false true),(dz (om n51 n1) n6 n0),(dq (ol n50 n49) n5 n0 [] [] false true),(dz (ol n52 n5) n7 n0),(dz (oq n53 (.build [(.int .i64 (.l (i n0))),.nil] [(n0,n1,(.t n51)),(n1,n1,(.t n52))])) n8 n0),(dq (oq n54 (.bslice n2 n1 [(.int .i64 (.l (i n0))),.nil] [(n0,(.t n53))] false)) n9 n0 [] [n8,n6,n7] false false),(dq (oq n55 (.appendN n2 n32 (.t n50) (.t n54) true)) n10 n0 [] [n5,n9,n4,n3,n2,n1,n8,n6,n7] false false),(dz (oq n56 (.nilchk (.t n45))) n11 n0),(dz (of n57 n2 n56) n12 n0),(dz (of n58 n3 n57) n13 n0),⟨⟨none,none,.store n1 (.t n58) (.t n55)⟩,n14,n0,[],[n13,n10,n0,n1,n2,n3,n4,n5,n6,n7,n8,n9,n12,n11],true,false⟩])))
 .skip))
 (.seq (.ops [(om n59 n8),(om n6 n59)])
 .ret)))))))
def f8t:XFn:=⟨h2g,n60,[(.t n6)],h3l⟩
def h2v:Ann:=⟨[(n4,n5,n2)],[]⟩
def h3a:a0c:=
 (.seq (.ops [(oq n4 (.mv (k n0)))])
 (.seq (.seq (.ops [(om n6 n0),(oq n7 (.len (.t n6))),(oq n8 (.mv (k n0)))])
 (.block n0 (.loop (.seq (.ops [(oq n9 (.bin .lss (.t n8) (.t n7)))])
 (.seq (.cond (.t n9) .skip
 (.exit n0))
 (.seq (.block n1 (.seq (.ops [(om n10 n8),(om n5 n10)])
 (.seq (.ops [(om n11 n1),(om n12 n0),(om n13 n5),(oq n14 (.iaddr n9 (.t n12) (.t n13))),(oq n15 (.load (some n9) (.t n14))),(oq n16 (.call (.t n11) [(.t n15)] .raw))])
 (.cond (.t n16) (.seq (.ops [(om n17 n5),(om n4 n17)])
 .ret)
 .skip))))
 (.ops [(oq n18 (.bin .add (.t n8) (k n1))),(om n8 n18)])))))))
 (.seq (.ops [(oq n4 (.mv (.c (.d (.int .i64 (.l (.negSucc n0)))))))])
 .ret)))
def f3f:XFn:=⟨h2v,n19,[(.t n4)],h3a⟩
def g4u:Ann:=⟨[(n4,n3,n2)],[]⟩
def g7j:a0c:=
 (.seq (.ops [(oq n2 (.box (.t n0)))])
 (.seq (.ops [(of n7 n0 n2),(ol n8 n7),(oq n9 (.len (.t n8))),(oq n10 (.mkslice n1 [(.int .i64 (.l (i n0)))] n8 (.t n9))),(om n4 n10)])
 (.seq (.ops [(oq n5 (.mv (k n0)))])
 (.block n0 (.loop (.seq (.block n1 (.seq (.seq (.ops [(om n13 n1),(om n14 n5),(om n15 n4),(oq n16 (.call (.t n13) [(.t n14),(.t n15)] .raw)),(oq n17 (.un .not (.t n16)))])
 (.cond (.t n17) .ret
 .skip))
 (.seq (.ops [(om n18 n4),(oq n19 (.len (.t n18))),(oq n20 (.bin .sub (.t n19) (k n1))),(om n6 n20)])
 (.seq (.block n2 (.loop (.seq (.seq (.draw n0 [(dz (om n21 n6) n0 n0),(dz (oq n22 (.bin .geq (.t n21) (k n0))) n1 n0),(dz (om n23 n22) n2 n0),(dz (og n24 n23 true (.mv (.t n4))) n3 n0),(dz (og n25 n23 true (.mv (.t n6))) n4 n0),(dz (og n26 n23 true (.iaddr n1 (.t n24) (.t n25))) n5 n0),(dz (og n28 n23 true (.faddr n0 (.t n2))) n7 n0),(dz (og n30 n23 true (.mv (.t n6))) n9 n0),(dz (og n27 n23 true (.load none (.t n26))) n6 n0),(dz (og n29 n23 true (.load none (.t n28))) n8 n0),(dz (og n31 n23 true (.iaddr n1 (.t n29) (.t n30))) n10 n0),(dz (og n32 n23 true (.load none (.t n31))) n11 n0),(dz (og n33 n23 true (.bin .sub (.t n32) (k n1))) n12 n0),(dz (og n34 n23 true (.bin .eql (.t n27) (.t n33))) n13 n0),(dz (oq n35 (.pick (.t n23) (.t n34) (.c (.d (.bool false))))) n14 n0)])
 (.cond (.t n35) .skip
 (.exit n2)))
 (.block n3 (.seq (.ops [(om n36 n4),(om n37 n6),(oq n38 (.iaddr n1 (.t n36) (.t n37))),⟨none,none,.store n1 (.t n38) (k n0)⟩])
 (.ops [(om n39 n6),(oq n40 (.bin .sub (.t n39) (k n1))),(om n6 n40)]))))))
 (.seq (.seq (.ops [(om n41 n6),(oq n42 (.bin .lss (.t n41) (k n0)))])
 (.cond (.t n42) .ret
 .skip))
 (.ops [(om n43 n4),(om n44 n6),(oq n45 (.iaddr n1 (.t n43) (.t n44))),(ol n46 n45),(oq n47 (.bin .add (.t n46) (k n1))),(oq n48 (.iaddr n1 (.t n43) (.t n44))),⟨none,none,.store n1 (.t n48) (.t n47)⟩]))))))
 (.ops [(om n11 n5),(oq n12 (.bin .add (.t n11) (k n1))),(om n5 n12)])))))))
def f3d:XFn:=⟨g4u,n49,[],g7j⟩
def h1g:Ann:=⟨[],[]⟩
def h1u:a0c:=
 .skip
def f9k:XFn:=⟨h1g,n2,[],h1u⟩
def g3w:Ann:=⟨[(n4,n14,n2)],[]⟩
def g5c:a0c:=
 (.seq (.ops [(om n10 n1),(oq n11 (.bin .add (.t n10) (k n1))),(om n8 n11)])
 (.block n0 (.loop (.seq (.seq (.ops [(om n12 n8),(om n13 n2),(oq n14 (.bin .lss (.t n12) (.t n13)))])
 (.cond (.t n14) .skip
 (.exit n0)))
 (.seq (.block n1 (.seq (.ops [(om n17 n8),(om n9 n17)])
 (.block n2 (.loop (.seq (.seq (.draw n0 [(dz (om n18 n9) n0 n0),(dz (om n19 n1) n1 n0),(dz (oq n20 (.bin .gtr (.t n18) (.t n19))) n2 n0),(dz (om n21 n20) n3 n0),(dz (og n22 n21 true (.mv (.t n3))) n4 n0),(dz (og n23 n21 true (.mv (.t n0))) n5 n0),(dz (og n24 n21 true (.mv (.t n9))) n6 n0),(dz (og n25 n21 true (.iaddr n2 (.t n23) (.t n24))) n7 n0),(dz (og n27 n21 true (.mv (.t n0))) n9 n0),(dz (og n28 n21 true (.mv (.t n9))) n10 n0),(dz (og n29 n21 true (.bin .sub (.t n28) (k n1))) n11 n0),(dz (og n30 n21 true (.iaddr n2 (.t n27) (.t n29))) n12 n0),(dz (og n26 n21 true (.load (some n2) (.t n25))) n8 n0),(dz (og n31 n21 true (.load (some n2) (.t n30))) n13 n0),(dq (og n32 n21 true (.call (.t n22) [(.t n26),(.t n31)] .raw)) n14 n0 [] [n4,n8,n13,n3,n2,n0,n1,n7,n5,n6,n12,n9,n11,n10] true false),(dz (og n33 n21 true (.bin .lss (.t n32) (k n0))) n15 n0),(dz (oq n34 (.pick (.t n21) (.t n33) (.c (.d (.bool false))))) n16 n0)])
 (.cond (.t n34) .skip
 (.exit n2)))
 (.seq (.block n3 (.draw n0 [(dz (om n37 n0) n0 n0),(dz (om n38 n9) n1 n0),(dq (om n39 n0) n2 n0 [] [] false true),(dq (om n40 n9) n3 n0 [] [] false true),(dq (oq n41 (.bin .sub (.t n40) (k n1))) n4 n0 [] [] false true),(dz (om n42 n0) n5 n0),(dz (om n43 n9) n6 n0),(dz (oq n44 (.bin .sub (.t n43) (k n1))) n7 n0),(dz (oq n45 (.iaddr n2 (.t n42) (.t n44))) n8 n0),(dz (om n47 n0) n10 n0),(dz (om n48 n9) n11 n0),(dz (oq n49 (.iaddr n2 (.t n47) (.t n48))) n12 n0),(dz (oq n46 (.load (some n2) (.t n45))) n9 n0),(dz (oq n50 (.load (some n2) (.t n49))) n13 n0),(dz (oq n51 (.iaddr n2 (.t n37) (.t n38))) n14 n0),⟨⟨none,none,.store n2 (.t n51) (.t n46)⟩,n15,n0,[],[n14,n9,n0,n1,n5,n6,n7,n8,n13,n12,n10,n11],false,false⟩,(dz (oq n52 (.iaddr n2 (.t n39) (.t n41))) n16 n0),⟨⟨none,none,.store n2 (.t n52) (.t n50)⟩,n17,n0,[],[n16,n13,n15,n0,n1,n2,n3,n4,n5,n6,n7,n8,n9,n10,n11,n12,n14],true,false⟩]))
 (.ops [(om n35 n9),(oq n36 (.bin .sub (.t n35) (k n1))),(om n9 n36)])))))))
 (.ops [(om n15 n8),(oq n16 (.bin .add (.t n15) (k n1))),(om n8 n16)]))))))
def f6p:XFn:=⟨g3w,n53,[],g5c⟩
def g4w:Ann:=⟨[(n4,n5,n2)],[]⟩
def g3u:a0c:=
 (.seq (.ops [(oq n4 (.mv (k n0)))])
 (.seq (.seq (.ops [(om n6 n0),(oq n7 (.len (.t n6))),(oq n8 (.mv (k n0)))])
 (.block n0 (.loop (.seq (.ops [(oq n9 (.bin .lss (.t n8) (.t n7)))])
 (.seq (.cond (.t n9) .skip
 (.exit n0))
 (.seq (.block n1 (.seq (.ops [(om n10 n8),(om n5 n10)])
 (.seq (.ops [(om n11 n1),(om n12 n0),(om n13 n5),(oq n14 (.iaddr n2 (.t n12) (.t n13))),(oq n15 (.load (some n2) (.t n14))),(oq n16 (.call (.t n11) [(.t n15)] .raw))])
 (.cond (.t n16) (.seq (.ops [(om n17 n5),(om n4 n17)])
 .ret)
 .skip))))
 (.ops [(oq n18 (.bin .add (.t n8) (k n1))),(om n8 n18)])))))))
 (.seq (.ops [(oq n4 (.mv (.c (.d (.int .i64 (.l (.negSucc n0)))))))])
 .ret)))
def f9v:XFn:=⟨g4w,n19,[(.t n4)],g3u⟩
def h0t:Ann:=⟨[],[]⟩
def g4l:a0c:=
 (.seq (.ops [(oq n4 (.mv (.c (.d (.bool false)))))])
 (.seq (.ops [(om n5 n0),(ol n6 n1),(oq n7 (.bin .lss (.t n5) (.t n6))),(om n8 n7),(og n9 n8 false (.mv (.t n0))),(og n10 n8 false (.load none (.t n2))),(og n11 n8 false (.bin .gtr (.t n9) (.t n10))),(oq n12 (.pick (.t n8) (.c (.d (.bool true))) (.t n11))),(om n4 n12)])
 .ret))
def g2p:XFn:=⟨h0t,n13,[(.t n4)],g4l⟩
def g9u:Ann:=⟨[(n1,n1,n0)],[]⟩
def h2q:a0c:=
 (.seq (.ops [(oq n1 (.box (.t n0))),(oq n2 (.mv (.c (.d (.bool false)))))])
 (.seq (.ops [(oq n3 (.load (some n2) (.t n1))),(oq n4 (.call (.c (.fn e0j [] [])) [(.t n3)] .borrow)),(oq n5 (.un .not (.t n4))),(om n2 n5)])
 .ret))
def f6g:XFn:=⟨g9u,n6,[(.t n2)],h2q⟩
def h1h:Ann:=⟨[],[]⟩
def g6w:a0c:=
 (.seq (.ops [(oq n2 (.mv (.c (.d (.bool false)))))])
 (.seq (.ops [(om n3 n0),(om n4 n0),(oq n5 (.bin .neq (.t n3) (.t n4))),(om n2 n5)])
 .ret))
def f8i:XFn:=⟨h1h,n6,[(.t n2)],g6w⟩
def g6c:Ann:=⟨[],[]⟩
def g9j:a0c:=
 (.seq (.ops [(oq n2 (.mv (.c (.d (.bool false)))))])
 (.seq (.ops [(om n3 n0),(om n4 n0),(oq n5 (.bin .neq (.t n3) (.t n4))),(om n2 n5)])
 .ret))
def f6o:XFn:=⟨g6c,n6,[(.t n2)],g9j⟩
def g8c:Ann:=⟨[(n1,n2,n2)],[]⟩
def g6r:a0c:=
 (.seq (.ops [(oq n2 (.box (.t n0))),(oq n3 (.mv (.c (.d (.bool false)))))])
 (.seq (.ops [(ol n4 n1),(oq n5 (.load (some n2) (.t n2))),(oq n6 (.call (.t n4) [(.t n5)] .raw)),(oq n7 (.un .not (.t n6))),(om n3 n7)])
 .ret))
def f6q:XFn:=⟨g8c,n8,[(.t n3)],g6r⟩
def g4h:Ann:=⟨[(n1,n2,n2)],[]⟩
def g9e:a0c:=
 (.seq (.ops [(oq n3 (.mv (.c (.d (.bool false)))))])
 (.seq (.ops [(ol n4 n1),(om n5 n0),(oq n6 (.call (.t n4) [(.t n5)] .raw)),(oq n7 (.un .not (.t n6))),(om n3 n7)])
 .ret))
def f8m:XFn:=⟨g4h,n8,[(.t n3)],g9e⟩
def g8u:Ann:=⟨[(n1,n7,n0),(n1,n8,n0)],[]⟩
def h2c:a0c:=
 (.seq (.ops [(oq n5 (.mv (.c (.d (.bool false)))))])
 (.seq (.draw n0 [(dq (om n7 n0) n1 n0 [] [] false true),(dz (of n9 n0 n1) n3 n0),(dz (of n11 n0 n3) n5 n0),(dq (oq n6 (.load (some n7) (.t n1))) n0 n0 [] [] false true),(dq (ol n8 n2) n2 n0 [] [] false true),(dz (oq n10 (.load (some n2) (.t n9))) n4 n0),(dz (ol n12 n11) n6 n0),(dq (oq n13 (.call (.c (.fn e2i [] [])) [(.t n10),(.t n12)] .borrow)) n7 n0 [] [n4,n6,n3,n5] false false),(dq (oq n14 (.call (.c (.fn e4u [] [])) [(.t n6),(.t n7),(.t n8),(.t n13)] .borrow)) n8 n0 [] [n0,n1,n2,n7,n4,n6,n3,n5] true false),(dz (om n5 n14) n9 n0)])
 .ret))
def f5r:XFn:=⟨g8u,n15,[(.t n5)],h2c⟩
def g7a:Ann:=⟨[(n1,n3,n0)],[]⟩
def h3g:a0c:=
 (.seq (.ops [(oq n2 (.box (.t n0))),(oq n4 (.mv (k n0)))])
 (.seq (.ops [(of n5 n1 n2),(ol n6 n5),(om n7 n1),(oq n8 (.call (.c (.fn e6t [] [])) [(.t n6),(.t n7)] .borrow)),(om n4 n8)])
 .ret))
def f4y:XFn:=⟨g7a,n9,[(.t n4)],h3g⟩
def h0j:Ann:=⟨[],[]⟩
def g9n:a0c:=
 (.seq (.ops [(oq n3 (.mv (.c (.d (.bool false)))))])
 (.seq (.ops [(om n4 n0),(ol n5 n1),(oq n6 (.iaddr n1 (.t n5) (k n0))),(ol n7 n6),(oq n8 (.bin .eql (.t n4) (.t n7))),(om n3 n8)])
 .ret))
def f7b:XFn:=⟨h0j,n9,[(.t n3)],g9n⟩
def h3q:Ann:=⟨[],[]⟩
def g5l:a0c:=
 (.seq (.ops [(oq n4 (.mv (k n0)))])
 (.seq (.seq (.ops [(om n6 n0),(oq n7 (.len (.t n6))),(oq n8 (.mv (k n0)))])
 (.block n0 (.loop (.seq (.ops [(oq n9 (.bin .lss (.t n8) (.t n7)))])
 (.seq (.cond (.t n9) .skip
 (.exit n0))
 (.seq (.block n1 (.seq (.ops [(om n10 n8),(om n5 n10)])
 (.seq (.ops [(om n11 n1),(om n12 n0),(om n13 n5),(oq n14 (.iaddr n1 (.t n12) (.t n13))),(ol n15 n14),(oq n16 (.bin .eql (.t n11) (.t n15)))])
 (.cond (.t n16) (.seq (.ops [(om n17 n5),(om n4 n17)])
 .ret)
 .skip))))
 (.ops [(oq n18 (.bin .add (.t n8) (k n1))),(om n8 n18)])))))))
 (.seq (.ops [(oq n4 (.mv (.c (.d (.int .i64 (.l (.negSucc n0)))))))])
 .ret)))
def g2m:XFn:=⟨h3q,n19,[(.t n4)],g5l⟩
def tab:XT:=(.node e5y f5f (.node n98 x98 (.node n62 x62 (.node n36 x36 (.node n28 x28 (.node n20 x20 (.node n19 x19 (.node n15 x15 .leaf .leaf) .leaf) (.node n25 x25 .leaf .leaf)) (.node n33 x33 (.node n31 x31 (.node n30 x30 .leaf .leaf) .leaf) (.node n35 x35 .leaf .leaf))) (.node n47 x47 (.node n40 x40 (.node n38 x38 (.node n37 x37 .leaf .leaf) .leaf) (.node n45 x45 .leaf .leaf)) (.node n58 x58 (.node n57 x57 .leaf .leaf) (.node n59 x59 .leaf .leaf)))) (.node n80 x80 (.node n67 x67 (.node n65 x65 (.node n64 x64 (.node n63 x63 .leaf .leaf) .leaf) (.node n66 x66 .leaf .leaf)) (.node n74 x74 (.node n73 x73 (.node n70 x70 .leaf .leaf) .leaf) (.node n75 x75 .leaf .leaf))) (.node n88 x88 (.node n83 x83 (.node n82 x82 (.node n81 x81 .leaf .leaf) .leaf) (.node n84 x84 .leaf .leaf)) (.node n96 x96 (.node n89 x89 .leaf .leaf) (.node n97 x97 .leaf .leaf))))) (.node c1j f8j (.node c1y f6h (.node c2p f8s (.node b7w g0e (.node a9u f9p (.node n99 x99 .leaf .leaf) .leaf) (.node b8f g2j .leaf .leaf)) (.node c3g f3s (.node c3o f6y (.node b8v f8p .leaf .leaf) .leaf) (.node b4y f6a .leaf .leaf))) (.node c3u f8o (.node b2v f4d (.node b1a f8x (.node c3q f3b .leaf .leaf) .leaf) (.node b8r f6k .leaf .leaf)) (.node c3f g1d (.node c1h f9i .leaf .leaf) (.node b8e g2i .leaf .leaf)))) (.node d5e f9y (.node d0t g1m (.node b4f f3e (.node c5o f6u (.node c5d f5h .leaf .leaf) .leaf) (.node d0n f8u .leaf .leaf)) (.node b8c g2s (.node d0u g2h (.node d1a f4q .leaf .leaf) .leaf) (.node d3x g2c .leaf .leaf))) (.node e2f f6j (.node d8x g2q (.node d5a g2u (.node d6v f7v .leaf .leaf) .leaf) (.node d9j g2x .leaf .leaf)) (.node c5e f5g (.node e6l f6c .leaf .leaf) (.node d4n f8q .leaf .leaf)))))) (.node e6n f3m (.node e5j f5x (.node e5g g2k (.node d4p f6d (.node e6j g0v (.node d9o g0u (.node d0p f4v .leaf .leaf) .leaf) (.node e6m g2t .leaf .leaf)) (.node e6i g1g (.node e4k f6s (.node e6f f2x .leaf .leaf) .leaf) (.node e5b f2z .leaf .leaf))) (.node e3z f5v (.node e6x g0i (.node e4d f4w (.node e0a g0b .leaf .leaf) .leaf) (.node d5s g1h .leaf .leaf)) (.node e5q f4g (.node e6e f3t .leaf .leaf) (.node e0j g2g .leaf .leaf)))) (.node e5z f5i (.node d9r f3n (.node d8s g1b (.node d9y f6w (.node e7d g0o .leaf .leaf) .leaf) (.node e5r f6i .leaf .leaf)) (.node e6u g1l (.node e6a f7c (.node d2i g0r .leaf .leaf) .leaf) (.node d9n f7j .leaf .leaf))) (.node e7e g1f (.node e0q f9j (.node d7p f4j (.node e6h f7w .leaf .leaf) .leaf) (.node e5v f5e .leaf .leaf)) (.node e5w g1a (.node d4r f7y .leaf .leaf) (.node d7s f8n .leaf .leaf))))) (.node e5p f6l (.node e6c f5j (.node e6p g2r (.node e5m f7h (.node e6r f7q (.node e5f f9n .leaf .leaf) .leaf) (.node e5u g2f .leaf .leaf)) (.node e5a f4c (.node e2l f8a (.node e6y g1x .leaf .leaf) .leaf) (.node e6s f7z .leaf .leaf))) (.node e4u f2w (.node d9z g0k (.node e7f f5s (.node e7g f7d .leaf .leaf) .leaf) (.node e0b g1t .leaf .leaf)) (.node f0i f3o (.node e5o f4a .leaf .leaf) (.node f1p f5y .leaf .leaf)))) (.node e6d f6g (.node e5s f3d (.node e5t f8t (.node e5e g1v (.node e4w f3r .leaf .leaf) .leaf) (.node e9p f3f .leaf .leaf)) (.node e8p f9v (.node e7i f6p (.node d9v f9k .leaf .leaf) .leaf) (.node e8m g2p .leaf .leaf))) (.node e5h f5r (.node e7b f6q (.node d9c f6o (.node d7m f8i .leaf .leaf) .leaf) (.node e5d f8m .leaf .leaf)) (.node e8g f7b (.node e2i f4y .leaf .leaf) (.node e6t g2m .leaf .leaf)))))))
end
end Go.Proofs.Tryz.Run
