/- The functions of the table, and the table. Conditions: none. -/
import Derived.Test.YtpcokdalcafgdaaGreatMk
namespace Go.Proofs.Tryz.Run
open Go Go.Vf
noncomputable section
def n0 : Nat := nat_lit 0
def n1 : Nat := nat_lit 1
def n2 : Nat := nat_lit 2
def n3 : Nat := nat_lit 3
def n4 : Nat := nat_lit 4
def n5 : Nat := nat_lit 5
def n6 : Nat := nat_lit 6
def n7 : Nat := nat_lit 7
def n8 : Nat := nat_lit 8
def n9 : Nat := nat_lit 9
def n10 : Nat := nat_lit 10
def n11 : Nat := nat_lit 11
def n12 : Nat := nat_lit 12
def n13 : Nat := nat_lit 13
def n14 : Nat := nat_lit 14
def n15 : Nat := nat_lit 15
def n16 : Nat := nat_lit 16
def n17 : Nat := nat_lit 17
def n18 : Nat := nat_lit 18
def n19 : Nat := nat_lit 19
def n20 : Nat := nat_lit 20
def n21 : Nat := nat_lit 21
def n22 : Nat := nat_lit 22
def n23 : Nat := nat_lit 23
def n24 : Nat := nat_lit 24
def n25 : Nat := nat_lit 25
def n26 : Nat := nat_lit 26
def n27 : Nat := nat_lit 27
def n28 : Nat := nat_lit 28
def n29 : Nat := nat_lit 29
def n30 : Nat := nat_lit 30
def n31 : Nat := nat_lit 31
def n32 : Nat := nat_lit 32
def n33 : Nat := nat_lit 33
def n34 : Nat := nat_lit 34
def n35 : Nat := nat_lit 35
def n36 : Nat := nat_lit 36
def n37 : Nat := nat_lit 37
def n38 : Nat := nat_lit 38
def n39 : Nat := nat_lit 39
def n40 : Nat := nat_lit 40
def n41 : Nat := nat_lit 41
def n42 : Nat := nat_lit 42
def n43 : Nat := nat_lit 43
def n44 : Nat := nat_lit 44
def n45 : Nat := nat_lit 45
def n46 : Nat := nat_lit 46
def n47 : Nat := nat_lit 47
def n48 : Nat := nat_lit 48
def n49 : Nat := nat_lit 49
def n50 : Nat := nat_lit 50
def n51 : Nat := nat_lit 51
def n52 : Nat := nat_lit 52
def n53 : Nat := nat_lit 53
def n54 : Nat := nat_lit 54
def n55 : Nat := nat_lit 55
def n56 : Nat := nat_lit 56
def n57 : Nat := nat_lit 57
def n58 : Nat := nat_lit 58
def n59 : Nat := nat_lit 59
def n60 : Nat := nat_lit 60
def n61 : Nat := nat_lit 61
def n62 : Nat := nat_lit 62
def n63 : Nat := nat_lit 63
def n64 : Nat := nat_lit 64
def n65 : Nat := nat_lit 65
def n66 : Nat := nat_lit 66
def n67 : Nat := nat_lit 67
def n68 : Nat := nat_lit 68
def n69 : Nat := nat_lit 69
def n70 : Nat := nat_lit 70
def n71 : Nat := nat_lit 71
def n72 : Nat := nat_lit 72
def n73 : Nat := nat_lit 73
def n74 : Nat := nat_lit 74
def n75 : Nat := nat_lit 75
def n76 : Nat := nat_lit 76
def n77 : Nat := nat_lit 77
def n78 : Nat := nat_lit 78
def n79 : Nat := nat_lit 79
def n80 : Nat := nat_lit 80
def n81 : Nat := nat_lit 81
def n82 : Nat := nat_lit 82
def n83 : Nat := nat_lit 83
def n84 : Nat := nat_lit 84
def n85 : Nat := nat_lit 85
def n86 : Nat := nat_lit 86
def n87 : Nat := nat_lit 87
def n88 : Nat := nat_lit 88
def n89 : Nat := nat_lit 89
def n90 : Nat := nat_lit 90
def n91 : Nat := nat_lit 91
def n92 : Nat := nat_lit 92
def n93 : Nat := nat_lit 93
def n94 : Nat := nat_lit 94
def n95 : Nat := nat_lit 95
def n96 : Nat := nat_lit 96
def n97 : Nat := nat_lit 97
def n98 : Nat := nat_lit 98
def n99 : Nat := nat_lit 99
def n100 : Nat := nat_lit 100
def n101 : Nat := nat_lit 101
def n102 : Nat := nat_lit 102
def n103 : Nat := nat_lit 103
def n104 : Nat := nat_lit 104
def n105 : Nat := nat_lit 105
def n106 : Nat := nat_lit 106
def n107 : Nat := nat_lit 107
def n108 : Nat := nat_lit 108
def n109 : Nat := nat_lit 109
def n110 : Nat := nat_lit 110
def n111 : Nat := nat_lit 111
def n112 : Nat := nat_lit 112
def n113 : Nat := nat_lit 113
def n114 : Nat := nat_lit 114
def n115 : Nat := nat_lit 115
def n116 : Nat := nat_lit 116
def n117 : Nat := nat_lit 117
def n118 : Nat := nat_lit 118
def n119 : Nat := nat_lit 119
def n120 : Nat := nat_lit 120
def n121 : Nat := nat_lit 121
def n122 : Nat := nat_lit 122
def n123 : Nat := nat_lit 123
def n124 : Nat := nat_lit 124
def n125 : Nat := nat_lit 125
def n126 : Nat := nat_lit 126
def n127 : Nat := nat_lit 127
def n128 : Nat := nat_lit 128
def n129 : Nat := nat_lit 129
def n130 : Nat := nat_lit 130
def n131 : Nat := nat_lit 131
def n132 : Nat := nat_lit 132
def n133 : Nat := nat_lit 133
def n134 : Nat := nat_lit 134
def n135 : Nat := nat_lit 135
def n136 : Nat := nat_lit 136
def n137 : Nat := nat_lit 137
def n138 : Nat := nat_lit 138
def n139 : Nat := nat_lit 139
def n140 : Nat := nat_lit 140
def n141 : Nat := nat_lit 141
def n142 : Nat := nat_lit 142
def n143 : Nat := nat_lit 143
def n144 : Nat := nat_lit 144
def n145 : Nat := nat_lit 145
def n146 : Nat := nat_lit 146
def n147 : Nat := nat_lit 147
def n148 : Nat := nat_lit 148
def n149 : Nat := nat_lit 149
def n150 : Nat := nat_lit 150
def n151 : Nat := nat_lit 151
def n152 : Nat := nat_lit 152
def n153 : Nat := nat_lit 153
def n154 : Nat := nat_lit 154
def n155 : Nat := nat_lit 155
def n156 : Nat := nat_lit 156
def n157 : Nat := nat_lit 157
def n158 : Nat := nat_lit 158
def n159 : Nat := nat_lit 159
def n160 : Nat := nat_lit 160
def n161 : Nat := nat_lit 161
def n162 : Nat := nat_lit 162
def n163 : Nat := nat_lit 163
def n164 : Nat := nat_lit 164
def n165 : Nat := nat_lit 165
def n166 : Nat := nat_lit 166
def n167 : Nat := nat_lit 167
def n168 : Nat := nat_lit 168
def n169 : Nat := nat_lit 169
def n170 : Nat := nat_lit 170
def n171 : Nat := nat_lit 171
def n172 : Nat := nat_lit 172
def n173 : Nat := nat_lit 173
def n174 : Nat := nat_lit 174
def n175 : Nat := nat_lit 175
def n176 : Nat := nat_lit 176
def n177 : Nat := nat_lit 177
def n178 : Nat := nat_lit 178
def n179 : Nat := nat_lit 179
def n180 : Nat := nat_lit 180
def n181 : Nat := nat_lit 181
def n182 : Nat := nat_lit 182
def n183 : Nat := nat_lit 183
def n184 : Nat := nat_lit 184
def n185 : Nat := nat_lit 185
def n186 : Nat := nat_lit 186
def n187 : Nat := nat_lit 187
def n188 : Nat := nat_lit 188
def n189 : Nat := nat_lit 189
def n190 : Nat := nat_lit 190
def n191 : Nat := nat_lit 191
def n192 : Nat := nat_lit 192
def n193 : Nat := nat_lit 193
def n194 : Nat := nat_lit 194
def n195 : Nat := nat_lit 195
def n196 : Nat := nat_lit 196
def n197 : Nat := nat_lit 197
def n198 : Nat := nat_lit 198
def n199 : Nat := nat_lit 199
def n200 : Nat := nat_lit 200
def n201 : Nat := nat_lit 201
def n202 : Nat := nat_lit 202
def n203 : Nat := nat_lit 203
def n204 : Nat := nat_lit 204
def n205 : Nat := nat_lit 205
def n206 : Nat := nat_lit 206
def n207 : Nat := nat_lit 207
def n208 : Nat := nat_lit 208
def n209 : Nat := nat_lit 209
def n210 : Nat := nat_lit 210
def n211 : Nat := nat_lit 211
def n212 : Nat := nat_lit 212
def n213 : Nat := nat_lit 213
def n214 : Nat := nat_lit 214
def n215 : Nat := nat_lit 215
def n216 : Nat := nat_lit 216
def n217 : Nat := nat_lit 217
def n218 : Nat := nat_lit 218
def n219 : Nat := nat_lit 219
def n220 : Nat := nat_lit 220
def n221 : Nat := nat_lit 221
def n222 : Nat := nat_lit 222
def n223 : Nat := nat_lit 223
def n224 : Nat := nat_lit 224
def n225 : Nat := nat_lit 225
def n226 : Nat := nat_lit 226
def n227 : Nat := nat_lit 227
def n228 : Nat := nat_lit 228
def n229 : Nat := nat_lit 229
def n230 : Nat := nat_lit 230
def n231 : Nat := nat_lit 231
def n232 : Nat := nat_lit 232
def n233 : Nat := nat_lit 233
def n234 : Nat := nat_lit 234
def n235 : Nat := nat_lit 235
def n236 : Nat := nat_lit 236
def n237 : Nat := nat_lit 237
def n238 : Nat := nat_lit 238
def n239 : Nat := nat_lit 239
def n240 : Nat := nat_lit 240
def n241 : Nat := nat_lit 241
def n242 : Nat := nat_lit 242
def n243 : Nat := nat_lit 243
def n244 : Nat := nat_lit 244
def n245 : Nat := nat_lit 245
def n246 : Nat := nat_lit 246
def n247 : Nat := nat_lit 247
def n248 : Nat := nat_lit 248
def n256 : Nat := nat_lit 256
def n2000 : Nat := nat_lit 2000
def n3000 : Nat := nat_lit 3000
def n6000 : Nat := nat_lit 6000
def n9998 : Nat := nat_lit 9998
def n9999 : Nat := nat_lit 9999
def n65536 : Nat := nat_lit 65536
def n4294967296 : Nat := nat_lit 4294967296
def oq (d : Nat) (p : IOp) : IOper := ⟨some d, none, p⟩
def og (d g : Nat) (b : Bool) (p : IOp) : IOper := ⟨some d, some (g, b), p⟩
def om (d x : Nat) : IOper := ⟨some d, none, .mv (.t x)⟩
def ol (d x : Nat) : IOper := ⟨some d, none, .load none (.t x)⟩
def of (d n x : Nat) : IOper := ⟨some d, none, .faddr n (.t x)⟩
def dz (o : IOper) (i s : Nat) : DOper := ⟨o, i, s, [], [], false, false⟩
def dq (o : IOper) (i s : Nat) (a b : List Nat) (x y : Bool) : DOper := ⟨o, i, s, a, b, x, y⟩
def i (n : Nat) : Int := .ofNat n
def k (n : Nat) : IOpd := .c (.d (.int .i64 (.l (.ofNat n))))
def a13 : Ann := ⟨[(n1,n1,n1),(n2,n1,n0),(n3,n1,n1),(n4,n1,n1),(n5,n1,n0),(n6,n13,n0),(n8,n7,n0),(n9,n1,n1),(n10,n0,n0),(n11,n7,n1),(n12,n2,n1),(n13,n1,n1),(n14,n1,n1),(n15,n1,n1),(n16,n1,n1),(n17,n2,n1),(n18,n5,n1),(n19,n2,n1),(n20,n2,n1),(n21,n2,n1),(n22,n2,n1),(n23,n65,n0),(n23,n68,n0)],[]⟩
def c13 : ICode :=
 (.seq (.ops [(oq n0 (.mv (.c (.d (.bool false)))))])
 (.seq (.ops [(oq n34 (.bslice n1 n4 [(.int .i64 (.l (i n0)))] [(n0,(k n0)),(n1,(k n1)),(n2,(k n2)),(n3,(k n3))] false)),(oq n35 (.call (.c (.fn n45 [] [])) [(.t n34)] .share)),(om n33 n35),(oq n36 (.extract (.t n33) n0)),(oq n37 (.extract (.t n33) n1)),(om n1 n36),(om n2 n37)])
 (.seq (.ops [(om n39 n1),(oq n40 (.call (.c (.fn n18 [] [])) [(.t n39)] .borrow)),(om n38 n40),(oq n41 (.extract (.t n38) n0)),(oq n42 (.extract (.t n38) n1)),(om n3 n41),(om n4 n42)])
 (.seq (.ops [(om n44 n1),(oq n45 (.call (.c (.fn n20 [] [])) [(.t n44)] .share)),(om n43 n45),(oq n46 (.extract (.t n43) n0)),(oq n47 (.extract (.t n43) n1)),(om n5 n46),(om n6 n47)])
 (.seq (.ops [(om n49 n1),(oq n50 (.call (.c (.fn n37 [] [])) [(.t n49),(k n2),(k n0)] .share)),(om n48 n50),(oq n51 (.extract (.t n48) n0)),(oq n52 (.extract (.t n48) n1)),(om n7 n51),(om n8 n52)])
 (.seq (.ops [(om n54 n7),(oq n55 (.call (.c (.fn n18 [] [])) [(.t n54)] .borrow)),(om n53 n55),(oq n56 (.extract (.t n53) n0)),(oq n57 (.extract (.t n53) n1)),(om n9 n56),(om n10 n57)])
 (.seq (.seq (.ops [(om n58 n4),(oq n59 (.bin .neq (.t n58) (k n0))),(om n60 n59),(og n61 n60 false (.mv (.t n3))),(og n62 n60 false (.bin .neq (.t n61) (k n6))),(oq n63 (.pick (.t n60) (.c (.d (.bool true))) (.t n62))),(om n64 n63),(og n65 n64 false (.mv (.t n6))),(og n66 n64 false (.bin .neq (.t n65) (k n0))),(oq n67 (.pick (.t n64) (.c (.d (.bool true))) (.t n66))),(om n68 n67),(og n69 n68 false (.mv (.t n5))),(og n70 n68 false (.bslice n1 n4 [(.int .i64 (.l (i n0)))] [(n0,(k n1)),(n1,(k n2)),(n2,(k n1)),(n3,(k n2))] false)),(og n71 n68 false (.call (.c (.fn n23 [] [])) [(.t n69),(.t n70)] .borrow)),(og n72 n68 false (.un .not (.t n71))),(oq n73 (.pick (.t n68) (.c (.d (.bool true))) (.t n72))),(om n74 n73),(og n75 n74 false (.mv (.t n8))),(og n76 n74 false (.bin .neq (.t n75) (k n0))),(oq n77 (.pick (.t n74) (.c (.d (.bool true))) (.t n76))),(om n78 n77),(og n79 n78 false (.mv (.t n10))),(og n80 n78 false (.bin .neq (.t n79) (k n0))),(oq n81 (.pick (.t n78) (.c (.d (.bool true))) (.t n80))),(om n82 n81),(og n83 n82 false (.mv (.t n9))),(og n84 n82 false (.bin .neq (.t n83) (k n9))),(oq n85 (.pick (.t n82) (.c (.d (.bool true))) (.t n84)))])
 (.cond (.t n85) (.seq (.ops [(oq n0 (.mv (.c (.d (.bool false)))))])
 .ret)
 .skip))
 (.seq (.draw n0 [(dz (om n87 n1) n0 n0),(dz (oq n88 (.iaddr n5 (.t n87) (k n0))) n1 n0),(dz (om n90 n1) n3 n0),(dz (oq n91 (.iaddr n5 (.t n90) (k n0))) n4 n0),(dz (oq n89 (.load (some n5) (.t n88))) n2 n0),(dz (oq n92 (.load (some n5) (.t n91))) n5 n0),(dq (oq n93 (.bslice n5 n2 [.nil,.nil,.nil,.nil,(.int .i64 (.l (i n0)))] [(n0,(.t n89)),(n1,(.t n92))] false)) n6 n0 [] [n2,n5,n1,n0,n4,n3] true false),(dq (oq n94 (.call (.c (.fn n18 [] [])) [(.t n93)] .borrow)) n7 n0 [] [n6,n2,n5,n1,n0,n4,n3] true false),(dz (om n86 n94) n8 n0),(dz (oq n95 (.extract (.t n86) n0)) n9 n0),(dz (oq n96 (.extract (.t n86) n1)) n10 n0),(dz (om n11 n95) n11 n0),(dz (om n12 n96) n12 n0)])
 (.seq (.ops [(oq n98 (.bslice n1 n4 [(.int .i64 (.l (i n0)))] [(n0,(k n0)),(n1,(k n2)),(n2,(k n1)),(n3,(k n3))] false)),(oq n99 (.call (.c (.fn n45 [] [])) [(.t n98)] .share)),(om n97 n99),(oq n100 (.extract (.t n97) n0)),(oq n101 (.extract (.t n97) n1)),(om n13 n100),(om n14 n101)])
 (.seq (.ops [(oq n103 (.call (.c (.fn n18 [] [])) [(.c (.d .nil))] .borrow)),(om n102 n103),(oq n104 (.extract (.t n102) n0)),(oq n105 (.extract (.t n102) n1)),(om n4 n105)])
 (.seq (.draw n0 [(dz (om n107 n1) n0 n0),(dz (oq n108 (.iaddr n5 (.t n107) (k n0))) n1 n0),(dz (om n110 n13) n3 n0),(dz (oq n111 (.iaddr n5 (.t n110) (k n0))) n4 n0),(dz (oq n109 (.load (some n5) (.t n108))) n2 n0),(dz (oq n112 (.load (some n5) (.t n111))) n5 n0),(dq (oq n113 (.bslice n5 n2 [.nil,.nil,.nil,.nil,(.int .i64 (.l (i n0)))] [(n0,(.t n109)),(n1,(.t n112))] false)) n6 n0 [] [n2,n5,n1,n0,n4,n3] true false),(dq (oq n114 (.call (.c (.fn n20 [] [])) [(.t n113)] .share)) n7 n0 [] [n6,n2,n5,n1,n0,n4,n3] true false),(dz (om n106 n114) n8 n0),(dz (oq n115 (.extract (.t n106) n0)) n9 n0),(dz (oq n116 (.extract (.t n106) n1)) n10 n0),(dz (om n6 n116) n11 n0)])
 (.seq (.ops [(om n118 n1),(oq n119 (.bslice n1 n3 [(.int .i64 (.l (i n0)))] [(n0,(k n0)),(n1,(k n1)),(n2,(k n2))] false)),(oq n120 (.call (.c (.fn n40 [] [])) [(.t n118),(.t n119)] .share)),(om n117 n120),(oq n121 (.extract (.t n117) n0)),(oq n122 (.extract (.t n117) n1)),(om n8 n122)])
 (.seq (.ops [(om n124 n1),(oq n125 (.call (.c (.fn n36 [] [])) [(.t n124),(k n3)] .share)),(om n123 n125),(oq n126 (.extract (.t n123) n0)),(oq n127 (.extract (.t n123) n1)),(om n10 n127)])
 (.seq (.ops [(om n129 n1),(oq n130 (.call (.c (.fn n36 [] [])) [(.t n129),(.c (.d (.int .i64 (.l (.negSucc n0)))))] .share)),(om n128 n130),(oq n131 (.extract (.t n128) n0)),(oq n132 (.extract (.t n128) n1)),(om n15 n131),(om n16 n132)])
 (.seq (.ops [(om n134 n1),(oq n135 (.call (.c (.fn n37 [] [])) [(.t n134),(k n4),(k n0)] .share)),(om n133 n135),(oq n136 (.extract (.t n133) n0)),(oq n137 (.extract (.t n133) n1)),(om n17 n136),(om n18 n137)])
 (.seq (.ops [(om n139 n1),(oq n140 (.call (.c (.fn n37 [] [])) [(.t n139),(k n0),(k n4)] .share)),(om n138 n140),(oq n141 (.extract (.t n138) n0)),(oq n142 (.extract (.t n138) n1)),(om n19 n141),(om n20 n142)])
 (.seq (.ops [(oq n144 (.build [.nil,.nil,.nil,.nil,(.int .i64 (.l (i n0)))] [])),(oq n145 (.bslice n5 n1 [.nil,.nil,.nil,.nil,(.int .i64 (.l (i n0)))] [(n0,(.t n144))] false)),(oq n146 (.call (.c (.fn n25 [] [])) [(.t n145)] .share)),(om n143 n146),(oq n147 (.extract (.t n143) n0)),(oq n148 (.extract (.t n143) n1)),(oq n149 (.extract (.t n143) n2)),(om n21 n147),(om n22 n148),(om n23 n149)])
 (.seq (.ops [(oq n150 (.bslice n1 n6 [(.int .i64 (.l (i n0)))] [(n0,(k n2)),(n1,(k n1)),(n2,(k n1)),(n3,(k n1)),(n4,(k n1)),(n5,(k n1))] false)),(oq n151 (.bslice n1 n6 [(.int .i64 (.l (i n0)))] [(n0,(k n0)),(n1,(k n1)),(n2,(k n2)),(n3,(k n3)),(n4,(k n4)),(n5,(k n5))] false)),(oq n152 (.build [(.int .u8 (.l (i n0))),(.int .i64 (.l (i n0)))] [])),(oq n153 (.build [(.int .u8 (.l (i n0))),(.int .i64 (.l (i n0)))] [(n1,n1,(k n1))])),(oq n154 (.bslice n2 n2 [(.int .u8 (.l (i n0))),(.int .i64 (.l (i n0)))] [(n0,(.t n152)),(n1,(.t n153))] false)),(oq n155 (.call (.c (.fn n46 [] [])) [(.t n150),(.t n151),(.t n154)] .share)),(oq n24 (.alloc [.nil,.nil,.nil,.nil,(.int .i64 (.l (i n0)))])),⟨none,none,.store n5 (.t n24) (.t n155)⟩])
 (.seq (.ops [(oq n157 (.load (some n5) (.t n24))),(oq n158 (.bslice n5 n1 [.nil,.nil,.nil,.nil,(.int .i64 (.l (i n0)))] [(n0,(.t n157))] false)),(oq n159 (.call (.c (.fn n28 [] [])) [(.t n158)] .share)),(om n156 n159),(oq n160 (.extract (.t n156) n0)),(oq n161 (.extract (.t n156) n1)),(om n25 n160),(om n26 n161)])
 (.seq (.ops [(oq n163 (.bslice n1 n1 [(.int .i64 (.l (i n0)))] [(n0,(k n0))] false)),(oq n164 (.build [.nil,.nil,.nil] [(n2,n1,(.t n163))])),(oq n165 (.call (.c (.fn n30 [] [])) [(.t n164)] .share)),(om n162 n165),(oq n166 (.extract (.t n162) n0)),(oq n167 (.extract (.t n162) n1)),(om n27 n166),(om n28 n167)])
 (.seq (.ops [(oq n168 (.build [(.int .u8 (.l (i n0))),(.int .i64 (.l (i n0)))] [(n1,n1,(k n3))])),(oq n169 (.bslice n2 n1 [(.int .u8 (.l (i n0))),(.int .i64 (.l (i n0)))] [(n0,(.t n168))] false)),(oq n170 (.call (.c (.fn n46 [] [])) [(.c (.d .nil)),(.c (.d .nil)),(.t n169)] .share)),(oq n29 (.alloc [.nil,.nil,.nil,.nil,(.int .i64 (.l (i n0)))])),⟨none,none,.store n5 (.t n29) (.t n170)⟩])
 (.seq (.ops [(oq n172 (.load (some n5) (.t n29))),(oq n173 (.bslice n5 n1 [.nil,.nil,.nil,.nil,(.int .i64 (.l (i n0)))] [(n0,(.t n172))] false)),(oq n174 (.call (.c (.fn n25 [] [])) [(.t n173)] .share)),(om n171 n174),(oq n175 (.extract (.t n171) n0)),(oq n176 (.extract (.t n171) n1)),(oq n177 (.extract (.t n171) n2)),(om n30 n175),(om n31 n176),(om n32 n177)])
 (.seq (.draw n0 [(dz (om n178 n12) n0 n0),(dz (oq n179 (.bin .eql (.t n178) (k n0))) n1 n0),(dz (om n180 n179) n2 n0),(dz (og n181 n180 true (.mv (.t n11))) n3 n0),(dz (og n182 n180 true (.bin .eql (.t n181) (k n6))) n4 n0),(dz (oq n183 (.pick (.t n180) (.t n182) (.c (.d (.bool false))))) n5 n0),(dz (om n184 n183) n6 n0),(dz (og n185 n184 true (.mv (.t n4))) n7 n0),(dz (og n186 n184 true (.bin .eql (.t n185) (k n7))) n8 n0),(dz (oq n187 (.pick (.t n184) (.t n186) (.c (.d (.bool false))))) n9 n0),(dz (om n188 n187) n10 n0),(dz (og n189 n188 true (.mv (.t n6))) n11 n0),(dz (og n190 n188 true (.bin .eql (.t n189) (k n2))) n12 n0),(dz (oq n191 (.pick (.t n188) (.t n190) (.c (.d (.bool false))))) n13 n0),(dz (om n192 n191) n14 n0),(dz (og n193 n192 true (.mv (.t n8))) n15 n0),(dz (og n194 n192 true (.bin .eql (.t n193) (k n4))) n16 n0),(dz (oq n195 (.pick (.t n192) (.t n194) (.c (.d (.bool false))))) n17 n0),(dz (om n196 n195) n18 n0),(dz (og n197 n196 true (.mv (.t n10))) n19 n0),(dz (og n198 n196 true (.bin .eql (.t n197) (k n3))) n20 n0),(dz (oq n199 (.pick (.t n196) (.t n198) (.c (.d (.bool false))))) n21 n0),(dz (om n200 n199) n22 n0),(dz (og n201 n200 true (.mv (.t n16))) n23 n0),(dz (og n202 n200 true (.bin .eql (.t n201) (k n3))) n24 n0),(dz (oq n203 (.pick (.t n200) (.t n202) (.c (.d (.bool false))))) n25 n0),(dz (om n204 n203) n26 n0),(dz (og n205 n204 true (.mv (.t n18))) n27 n0),(dz (og n206 n204 true (.bin .eql (.t n205) (k n3))) n28 n0),(dz (oq n207 (.pick (.t n204) (.t n206) (.c (.d (.bool false))))) n29 n0),(dz (om n208 n207) n30 n0),(dz (og n209 n208 true (.mv (.t n20))) n31 n0),(dz (og n210 n208 true (.bin .eql (.t n209) (k n3))) n32 n0),(dz (oq n211 (.pick (.t n208) (.t n210) (.c (.d (.bool false))))) n33 n0),(dz (om n212 n211) n34 n0),(dz (og n213 n212 true (.mv (.t n23))) n35 n0),(dz (og n214 n212 true (.bin .eql (.t n213) (k n4))) n36 n0),(dz (oq n215 (.pick (.t n212) (.t n214) (.c (.d (.bool false))))) n37 n0),(dz (om n216 n215) n38 n0),(dz (og n217 n216 true (.mv (.t n26))) n39 n0),(dz (og n218 n216 true (.bin .eql (.t n217) (k n5))) n40 n0),(dz (oq n219 (.pick (.t n216) (.t n218) (.c (.d (.bool false))))) n41 n0),(dz (om n220 n219) n42 n0),(dz (og n221 n220 true (.mv (.t n28))) n43 n0),(dz (og n222 n220 true (.bin .eql (.t n221) (k n4))) n44 n0),(dz (oq n223 (.pick (.t n220) (.t n222) (.c (.d (.bool false))))) n45 n0),(dz (om n224 n223) n46 n0),(dz (og n225 n224 true (.mv (.t n32))) n47 n0),(dz (og n226 n224 true (.bin .eql (.t n225) (k n0))) n48 n0),(dz (oq n227 (.pick (.t n224) (.t n226) (.c (.d (.bool false))))) n49 n0),(dz (om n228 n227) n50 n0),(dz (og n229 n228 true (.mv (.t n31))) n51 n0),(dz (og n230 n228 true (.len (.t n229))) n52 n0),(dz (og n231 n228 true (.bin .eql (.t n230) (k n0))) n53 n0),(dz (oq n232 (.pick (.t n228) (.t n231) (.c (.d (.bool false))))) n54 n0),(dz (om n233 n232) n55 n0),(dz (og n234 n233 true (.mv (.t n30))) n56 n0),(dz (og n235 n233 true (.len (.t n234))) n57 n0),(dz (og n236 n233 true (.bin .eql (.t n235) (k n1))) n58 n0),(dz (oq n237 (.pick (.t n233) (.t n236) (.c (.d (.bool false))))) n59 n0),(dz (om n238 n237) n60 n0),(dz (og n239 n238 true (.mv (.t n30))) n61 n0),(dz (og n240 n238 true (.iaddr n5 (.t n239) (k n0))) n62 n0),(dz (og n241 n238 true (.load (some n5) (.t n240))) n63 n0),(dz (og n242 n238 true (.load (some n5) (.t n29))) n64 n0),(dq (og n243 n238 true (.call (.c (.fn n47 [] [])) [(.t n241),(.t n242)] .borrow)) n65 n0 [] [n63,n64,n60,n62,n61,n59,n55,n58,n54,n50,n53,n49,n46,n48,n45,n42,n44,n41,n38,n40,n37,n34,n36,n33,n30,n32,n29,n26,n28,n25,n22,n24,n21,n18,n20,n17,n14,n16,n13,n10,n12,n9,n6,n8,n5,n2,n4,n1,n0,n3,n7,n11,n15,n19,n23,n27,n31,n35,n39,n43,n47,n52,n51,n57,n56] true false),(dz (oq n244 (.pick (.t n238) (.t n243) (.c (.d (.bool false))))) n66 n0),(dz (om n245 n244) n67 n0),(dq (og n246 n245 true (.call (.c (.fn n17 [] [])) [] .borrow)) n68 n0 [] [n67,n66,n65,n60,n59,n55,n58,n54,n50,n53,n49,n46,n48,n45,n42,n44,n41,n38,n40,n37,n34,n36,n33,n30,n32,n29,n26,n28,n25,n22,n24,n21,n18,n20,n17,n14,n16,n13,n10,n12,n9,n6,n8,n5,n2,n4,n1,n0,n3,n7,n11,n15,n19,n23,n27,n31,n35,n39,n43,n47,n52,n51,n57,n56,n63,n64,n62,n61] true false),(dz (oq n247 (.pick (.t n245) (.t n246) (.c (.d (.bool false))))) n69 n0),(dz (om n0 n247) n70 n0)])
 .ret)))))))))))))))))))))))
def x13 : XFn := ⟨a13,n248,[(.t n0)],c13⟩
def a17 : Ann := ⟨[(n1,n1,n1),(n2,n1,n1),(n3,n1,n0),(n4,n1,n1),(n5,n1,n1),(n6,n1,n1),(n7,n1,n1),(n8,n1,n1),(n9,n1,n1),(n10,n7,n1),(n11,n13,n0),(n11,n22,n0),(n11,n28,n0),(n11,n34,n0),(n11,n39,n0),(n11,n48,n0),(n11,n57,n0)],[]⟩
def c17 : ICode :=
 (.seq (.ops [(oq n0 (.mv (.c (.d (.bool false)))))])
 (.seq (.ops [(oq n23 (.bslice n1 n4 [(.int .i64 (.l (i n0)))] [(n0,(k n0)),(n1,(k n1)),(n2,(k n2)),(n3,(k n3))] false)),(oq n24 (.call (.c (.fn n45 [] [])) [(.t n23)] .share)),(om n22 n24),(oq n25 (.extract (.t n22) n0)),(oq n26 (.extract (.t n22) n1)),(om n1 n25),(om n2 n26)])
 (.seq (.ops [(oq n28 (.bslice n1 n4 [(.int .i64 (.l (i n0)))] [(n0,(k n0)),(n1,(k n2)),(n2,(k n1)),(n3,(k n3))] false)),(oq n29 (.call (.c (.fn n45 [] [])) [(.t n28)] .share)),(om n27 n29),(oq n30 (.extract (.t n27) n0)),(oq n31 (.extract (.t n27) n1)),(om n3 n30),(om n4 n31)])
 (.seq (.ops [(om n33 n3),(oq n34 (.call (.c (.fn n18 [] [])) [(.t n33)] .borrow)),(om n32 n34),(oq n35 (.extract (.t n32) n0)),(oq n36 (.extract (.t n32) n1)),(om n5 n35),(om n6 n36)])
 (.seq (.ops [(om n38 n3),(oq n39 (.call (.c (.fn n20 [] [])) [(.t n38)] .share)),(om n37 n39),(oq n40 (.extract (.t n37) n0)),(oq n41 (.extract (.t n37) n1)),(om n7 n40),(om n8 n41)])
 (.seq (.ops [(om n43 n3),(oq n44 (.call (.c (.fn n36 [] [])) [(.t n43),(k n1)] .share)),(om n42 n44),(oq n45 (.extract (.t n42) n0)),(oq n46 (.extract (.t n42) n1)),(om n9 n45),(om n10 n46)])
 (.seq (.ops [(om n48 n1),(oq n49 (.call (.c (.fn n37 [] [])) [(.t n48),(k n2),(k n0)] .share)),(om n47 n49),(oq n50 (.extract (.t n47) n0)),(oq n51 (.extract (.t n47) n1)),(om n11 n50),(om n12 n51)])
 (.seq (.ops [(om n53 n3),(oq n54 (.call (.c (.fn n25 [] [])) [(.t n53)] .share)),(om n52 n54),(oq n55 (.extract (.t n52) n0)),(oq n56 (.extract (.t n52) n1)),(oq n57 (.extract (.t n52) n2)),(om n13 n55),(om n14 n56),(om n15 n57)])
 (.seq (.ops [(oq n59 (.bslice n1 n4 [(.int .i64 (.l (i n0)))] [(n0,(k n3)),(n1,(k n1)),(n2,(k n0)),(n3,(k n2))] false)),(oq n60 (.call (.c (.fn n45 [] [])) [(.t n59)] .share)),(om n58 n60),(oq n61 (.extract (.t n58) n0)),(oq n62 (.extract (.t n58) n1)),(om n16 n61),(om n17 n62)])
 (.seq (.ops [(om n64 n16),(oq n65 (.call (.c (.fn n28 [] [])) [(.t n64)] .share)),(om n63 n65),(oq n66 (.extract (.t n63) n0)),(oq n67 (.extract (.t n63) n1)),(om n18 n66),(om n19 n67)])
 (.seq (.ops [(oq n69 (.mkslice n3 [(.str []),(.int .i64 (.l (i n0))),(.int .i64 (.l (i n0)))] n32 (k n3))),(oq n70 (.build [(.int .u8 (.l (i n0))),(.int .i64 (.l (i n0))),(.int .i64 (.l (i n0))),(.int .i64 (.l (i n0))),(.int .i64 (.l (i n0)))] [(n0,n1,(.c (.d (.int .u8 (.l (i n3))))))])),(oq n71 (.build [(.int .u8 (.l (i n0))),(.int .i64 (.l (i n0))),(.int .i64 (.l (i n0))),(.int .i64 (.l (i n0))),(.int .i64 (.l (i n0)))] [(n0,n1,(.c (.d (.int .u8 (.l (i n3)))))),(n4,n1,(k n1))])),(oq n72 (.build [(.int .u8 (.l (i n0))),(.int .i64 (.l (i n0))),(.int .i64 (.l (i n0))),(.int .i64 (.l (i n0))),(.int .i64 (.l (i n0)))] [(n0,n1,(.c (.d (.int .u8 (.l (i n3)))))),(n4,n1,(k n2))])),(oq n73 (.build [(.int .u8 (.l (i n0))),(.int .i64 (.l (i n0))),(.int .i64 (.l (i n0))),(.int .i64 (.l (i n0))),(.int .i64 (.l (i n0)))] [(n0,n1,(.c (.d (.int .u8 (.l (i n7)))))),(n1,n1,(k n2))])),(oq n74 (.bslice n5 n4 [(.int .u8 (.l (i n0))),(.int .i64 (.l (i n0))),(.int .i64 (.l (i n0))),(.int .i64 (.l (i n0))),(.int .i64 (.l (i n0)))] [(n0,(.t n70)),(n1,(.t n71)),(n2,(.t n72)),(n3,(.t n73))] false)),(oq n75 (.build [.nil,.nil,.nil] [(n0,n1,(.t n69)),(n1,n1,(.t n74))])),(oq n76 (.call (.c (.fn n30 [] [])) [(.t n75)] .share)),(om n68 n76),(oq n77 (.extract (.t n68) n0)),(oq n78 (.extract (.t n68) n1)),(om n20 n77),(om n21 n78)])
 (.seq (.ops [(om n79 n6),(oq n80 (.bin .eql (.t n79) (k n0))),(om n81 n80),(og n82 n81 true (.mv (.t n5))),(og n83 n81 true (.bin .eql (.t n82) (k n9))),(oq n84 (.pick (.t n81) (.t n83) (.c (.d (.bool false))))),(om n85 n84),(og n86 n85 true (.mv (.t n8))),(og n87 n85 true (.bin .eql (.t n86) (k n0))),(oq n88 (.pick (.t n85) (.t n87) (.c (.d (.bool false))))),(om n89 n88),(og n90 n89 true (.mv (.t n7))),(og n91 n89 true (.bslice n1 n4 [(.int .i64 (.l (i n0)))] [(n0,(k n1)),(n1,(k n4)),(n2,(k n2)),(n3,(k n2))] false)),(og n92 n89 true (.call (.c (.fn n23 [] [])) [(.t n90),(.t n91)] .borrow)),(oq n93 (.pick (.t n89) (.t n92) (.c (.d (.bool false))))),(om n94 n93),(og n95 n94 true (.mv (.t n10))),(og n96 n94 true (.bin .eql (.t n95) (k n0))),(oq n97 (.pick (.t n94) (.t n96) (.c (.d (.bool false))))),(om n98 n97),(og n99 n98 true (.mv (.t n9))),(og n100 n98 true (.mv (.t n1))),(og n101 n98 true (.call (.c (.fn n27 [] [])) [(.t n99),(.t n100)] .borrow)),(oq n102 (.pick (.t n98) (.t n101) (.c (.d (.bool false))))),(om n103 n102),(og n104 n103 true (.mv (.t n11))),(og n105 n103 true (.mv (.t n12))),(og n106 n103 true (.bslice n1 n4 [(.int .i64 (.l (i n0)))] [(n0,(k n2)),(n1,(k n0)),(n2,(k n1)),(n3,(k n3))] false)),(og n107 n103 true (.call (.c (.fn n53 [] [])) [(.t n104),(.t n105),(.t n106)] .borrow)),(oq n108 (.pick (.t n103) (.t n107) (.c (.d (.bool false))))),(om n109 n108),(og n110 n109 true (.mv (.t n13))),(og n111 n109 true (.mv (.t n15))),(og n112 n109 true (.bslice n1 n4 [(.int .i64 (.l (i n0)))] [(n0,(k n0)),(n1,(k n1)),(n2,(k n3)),(n3,(k n2))] false)),(og n113 n109 true (.call (.c (.fn n53 [] [])) [(.t n110),(.t n111),(.t n112)] .borrow)),(oq n114 (.pick (.t n109) (.t n113) (.c (.d (.bool false))))),(om n115 n114),(og n116 n115 true (.mv (.t n14))),(og n117 n115 true (.bslice n1 n4 [(.int .i64 (.l (i n0)))] [(n0,(k n0)),(n1,(k n2)),(n2,(k n2)),(n3,(k n0))] false)),(og n118 n115 true (.call (.c (.fn n23 [] [])) [(.t n116),(.t n117)] .borrow)),(oq n119 (.pick (.t n115) (.t n118) (.c (.d (.bool false))))),(om n120 n119),(og n121 n120 true (.mv (.t n19))),(og n122 n120 true (.bin .eql (.t n121) (k n0))),(oq n123 (.pick (.t n120) (.t n122) (.c (.d (.bool false))))),(om n124 n123),(og n125 n124 true (.mv (.t n18))),(og n126 n124 true (.mv (.t n1))),(og n127 n124 true (.call (.c (.fn n27 [] [])) [(.t n125),(.t n126)] .borrow)),(oq n128 (.pick (.t n124) (.t n127) (.c (.d (.bool false))))),(om n129 n128),(og n130 n129 true (.mv (.t n21))),(og n131 n129 true (.bin .eql (.t n130) (k n0))),(oq n132 (.pick (.t n129) (.t n131) (.c (.d (.bool false))))),(om n133 n132),(og n134 n133 true (.mv (.t n20))),(og n135 n133 true (.bslice n1 n3 [(.int .i64 (.l (i n0)))] [(n0,(k n2)),(n1,(k n0)),(n2,(k n1))] false)),(og n136 n133 true (.call (.c (.fn n23 [] [])) [(.t n134),(.t n135)] .borrow)),(oq n137 (.pick (.t n133) (.t n136) (.c (.d (.bool false))))),(om n0 n137)])
 .ret))))))))))))
def x17 : XFn := ⟨a17,n138,[(.t n0)],c17⟩
def a18 : Ann := ⟨[(n1,n1,n1),(n4,n1,n0)],[]⟩
def c18 : ICode :=
 (.seq (.ops [(oq n2 (.mv (k n0))),(oq n3 (.mv (k n0)))])
 (.seq (.ops [(om n7 n0),(oq n8 (.call (.c (.fn n54 [] [])) [(.t n7)] .share)),(om n6 n8),(oq n9 (.extract (.t n6) n0)),(oq n10 (.extract (.t n6) n1)),(oq n4 (.alloc [.nil,.nil,.nil,.nil])),⟨none,none,.store n4 (.t n4) (.t n9)⟩,(om n5 n10)])
 (.seq (.seq (.ops [(om n11 n5),(oq n12 (.bin .neq (.t n11) (k n0)))])
 (.cond (.t n12) (.seq (.ops [(om n13 n5),(oq n2 (.mv (k n0))),(om n3 n13)])
 .ret)
 .skip))
 (.seq (.ops [(oq n14 (.load (some n4) (.t n4))),(oq n15 (.call (.c (.fn n55 [] [])) [(.t n14)] .borrow)),(om n2 n15),(oq n3 (.mv (k n0)))])
 .ret))))
def x18 : XFn := ⟨a18,n16,[(.t n2),(.t n3)],c18⟩
def a20 : Ann := ⟨[(n1,n2,n1)],[]⟩
def c20 : ICode :=
 (.seq (.ops [(oq n2 (.mv (.c (.d .nil)))),(oq n3 (.mv (k n0)))])
 (.seq (.ops [(oq n4 (.build [(.raw .nilFunc)] [(n0,n1,(.c (.fn n56 [] [])))])),(om n5 n0),(oq n6 (.call (.c (.fn n57 [] [])) [(.t n4),(.t n5)] .share)),(oq n7 (.extract (.t n6) n0)),(oq n8 (.extract (.t n6) n1)),(om n2 n7),(om n3 n8)])
 .ret))
def x20 : XFn := ⟨a20,n9,[(.t n2),(.t n3)],c20⟩
def a23 : Ann := ⟨[],[]⟩
def c23 : ICode :=
 (.seq (.ops [(oq n4 (.mv (.c (.d (.bool false)))))])
 (.seq (.seq (.ops [(om n6 n0),(oq n7 (.len (.t n6))),(om n8 n1),(oq n9 (.len (.t n8))),(oq n10 (.bin .neq (.t n7) (.t n9)))])
 (.cond (.t n10) (.seq (.ops [(oq n4 (.mv (.c (.d (.bool false)))))])
 .ret)
 .skip))
 (.seq (.seq (.ops [(oq n5 (.mv (k n0)))])
 (.block n0 (.loop (.seq (.seq (.ops [(om n11 n5),(om n12 n0),(oq n13 (.len (.t n12))),(oq n14 (.bin .lss (.t n11) (.t n13)))])
 (.cond (.t n14) .skip
 (.exit n0)))
 (.seq (.block n1 (.seq (.draw n0 [(dz (om n17 n0) n0 n0),(dz (om n18 n5) n1 n0),(dz (oq n19 (.iaddr n1 (.t n17) (.t n18))) n2 n0),(dz (om n21 n1) n4 n0),(dz (om n22 n5) n5 n0),(dz (oq n23 (.iaddr n1 (.t n21) (.t n22))) n6 n0),(dz (ol n20 n19) n3 n0),(dz (ol n24 n23) n7 n0),(dz (oq n25 (.bin .neq (.t n20) (.t n24))) n8 n0)])
 (.cond (.t n25) (.seq (.ops [(oq n4 (.mv (.c (.d (.bool false)))))])
 .ret)
 .skip)))
 (.ops [(om n15 n5),(oq n16 (.bin .add (.t n15) (k n1))),(om n5 n16)]))))))
 (.seq (.ops [(oq n4 (.mv (.c (.d (.bool true)))))])
 .ret))))
def x23 : XFn := ⟨a23,n26,[(.t n4)],c23⟩
def a25 : Ann := ⟨[(n1,n1,n1),(n5,n1,n1),(n8,n5,n3),(n10,n1,n2),(n18,n6,n3),(n18,n7,n3),(n19,n1,n0),(n23,n4,n3),(n25,n4,n1)],[]⟩
def c25 : ICode :=
 (.seq (.ops [(oq n2 (.mv (.c (.d .nil)))),(oq n3 (.mv (.c (.d .nil)))),(oq n4 (.mv (k n0)))])
 (.seq (.ops [(om n18 n0),(oq n19 (.call (.c (.fn n54 [] [])) [(.t n18)] .share)),(om n17 n19),(oq n20 (.extract (.t n17) n0)),(oq n21 (.extract (.t n17) n1)),(oq n5 (.alloc [.nil,.nil,.nil,.nil])),⟨none,none,.store n4 (.t n5) (.t n20)⟩,(om n4 n21)])
 (.seq (.seq (.ops [(om n22 n4),(oq n23 (.bin .neq (.t n22) (k n0)))])
 (.cond (.t n23) (.seq (.ops [(om n24 n4),(oq n2 (.mv (.c (.d .nil)))),(oq n3 (.mv (.c (.d .nil)))),(om n4 n24)])
 .ret)
 .skip))
 (.seq (.ops [(oq n6 (.mv (.c (.d .nil))))])
 (.seq (.seq (.ops [(oq n25 (.load (some n4) (.t n5))),(oq n26 (.call (.c (.fn n56 [] [])) [(.t n25)] .share)),(oq n27 (.len (.t n26))),(oq n28 (.mv (k n0)))])
 (.block n0 (.loop (.seq (.ops [(oq n29 (.bin .lss (.t n28) (.t n27)))])
 (.seq (.cond (.t n29) .skip
 (.exit n0))
 (.seq (.block n1 (.seq (.ops [(om n30 n28),(oq n31 (.iaddr n1 (.t n26) (.t n28))),(ol n32 n31),(om n7 n30),(om n8 n32)])
 (.ops [(om n33 n6),(om n34 n7),(om n35 n8),(oq n36 (.build [(.int .i64 (.l (i n0))),(.int .i64 (.l (i n0)))] [(n0,n1,(.t n34)),(n1,n1,(.t n35))])),(oq n37 (.bslice n2 n1 [(.int .i64 (.l (i n0))),(.int .i64 (.l (i n0)))] [(n0,(.t n36))] false)),(oq n38 (.appendN n2 n16 (.t n33) (.t n37) true)),(om n6 n38)])))
 (.ops [(oq n39 (.bin .add (.t n28) (k n1))),(om n28 n39)])))))))
 (.seq (.ops [(om n40 n6),(oq n41 (.call (.c (.fn n60 [] [])) [(.t n40),(.c (.fn n61 [] []))] .raw))])
 (.seq (.seq (.ops [(om n42 n6),(oq n43 (.len (.t n42))),(oq n44 (.mv (k n0)))])
 (.block n2 (.loop (.seq (.ops [(oq n45 (.bin .lss (.t n44) (.t n43)))])
 (.seq (.cond (.t n45) .skip
 (.exit n2))
 (.seq (.block n3 (.seq (.ops [(oq n46 (.iaddr n2 (.t n42) (.t n44))),(oq n47 (.load (some n2) (.t n46))),(oq n10 (.alloc [(.int .i64 (.l (i n0))),(.int .i64 (.l (i n0)))])),⟨none,none,.store n2 (.t n10) (.t n47)⟩])
 (.seq (.ops [(oq n48 (.load (some n4) (.t n5))),(oq n11 (.alloc [.nil,.nil,.nil,.nil])),⟨none,none,.store n4 (.t n11) (.t n48)⟩,(oq n12 (.mv (.c (.d (.int .i64 (.l (.negSucc n0))))))),(oq n13 (.mv (k n0)))])
 (.seq (.seq (.ops [(of n49 n0 n5),(of n50 n1 n49),(ol n51 n50),(oq n52 (.len (.t n51))),(oq n53 (.mv (k n0)))])
 (.block n4 (.loop (.seq (.ops [(oq n54 (.bin .lss (.t n53) (.t n52)))])
 (.seq (.cond (.t n54) .skip
 (.exit n4))
 (.seq (.block n5 (.seq (.ops [(om n55 n53),(om n14 n55)])
 (.seq (.draw n1 [(dz (of n57 n0 n5) n1 n0),(dz (of n59 n0 n10) n3 n0),(dz (om n61 n14) n5 n0),(dq (oq n56 (.load (some n4) (.t n5))) n0 n0 [n0] [] false false),(dq (oq n58 (.load (some n2) (.t n57))) n2 n0 [n0] [] false false),(dq (ol n60 n59) n4 n0 [n0] [] false false),(dz (oq n15 (.alloc [.nil,.nil,.nil,.nil])) n8 n0),(dz (oq n62 (.call (.c (.fn n65 [] [])) [(.t n58),(.t n60),(.t n61)] .data)) n6 n0),(dz (oq n63 (.call (.c (.fn n64 [] [])) [(.t n56),(.t n62)] .data)) n7 n0),⟨⟨none,none,.store n4 (.t n15) (.t n63)⟩,n9,n1,[],[n8,n7,n0,n1,n2,n3,n4,n5,n6],true,false⟩])
 (.seq (.ops [(oq n64 (.load (some n4) (.t n15))),(oq n65 (.call (.c (.fn n55 [] [])) [(.t n64)] .borrow)),(om n16 n65)])
 (.seq (.ops [(om n66 n12),(oq n67 (.bin .lss (.t n66) (k n0))),(om n68 n67),(og n69 n68 false (.mv (.t n16))),(og n70 n68 false (.mv (.t n12))),(og n71 n68 false (.bin .lss (.t n69) (.t n70))),(oq n72 (.pick (.t n68) (.c (.d (.bool true))) (.t n71)))])
 (.cond (.t n72) (.ops [(oq n73 (.load (some n4) (.t n15))),(om n74 n16),(om n75 n14),⟨none,none,.store n4 (.t n11) (.t n73)⟩,(om n12 n74),(om n13 n75)])
 .skip))))))
 (.ops [(oq n76 (.bin .add (.t n53) (k n1))),(om n53 n76)])))))))
 (.draw n0 [(dq (om n78 n3) n1 n0 [] [] false true),(dz (om n79 n13) n2 n0),(dq (oq n77 (.load (some n4) (.t n11))) n0 n0 [] [] false true),(dq (oq n80 (.bslice n1 n1 [(.int .i64 (.l (i n0)))] [(n0,(.t n79))] false)) n3 n0 [] [n2] false false),(dq (oq n81 (.appendN n1 n8 (.t n78) (.t n80) true)) n4 n0 [] [n1,n3,n2] false false),⟨⟨none,none,.store n4 (.t n5) (.t n77)⟩,n5,n0,[],[n0,n4,n1,n3,n2],true,false⟩,(dz (om n3 n81) n6 n0)])))))
 (.ops [(oq n82 (.bin .add (.t n44) (k n1))),(om n44 n82)])))))))
 (.seq (.ops [(oq n83 (.load (some n4) (.t n5))),(of n84 n0 n5),(of n85 n1 n84),(ol n86 n85),(oq n87 (.call (.c (.fn n64 [] [])) [(.t n83),(.t n86)] .share)),(oq n88 (.field n2 none (.t n87))),(om n89 n3),(om n2 n88),(om n3 n89),(oq n4 (.mv (k n0)))])
 .ret))))))))
def x25 : XFn := ⟨a25,n90,[(.t n2),(.t n3),(.t n4)],c25⟩
def a27 : Ann := ⟨[(n6,n8,n0)],[]⟩
def c27 : ICode :=
 (.seq (.ops [(oq n4 (.mv (.c (.d (.bool false)))))])
 (.seq (.seq (.ops [(om n6 n0),(oq n7 (.len (.t n6))),(om n8 n1),(oq n9 (.len (.t n8))),(oq n10 (.bin .neq (.t n7) (.t n9)))])
 (.cond (.t n10) (.seq (.ops [(oq n4 (.mv (.c (.d (.bool false)))))])
 .ret)
 .skip))
 (.seq (.seq (.ops [(oq n5 (.mv (k n0)))])
 (.block n0 (.loop (.seq (.seq (.ops [(om n11 n5),(om n12 n0),(oq n13 (.len (.t n12))),(oq n14 (.bin .lss (.t n11) (.t n13)))])
 (.cond (.t n14) .skip
 (.exit n0)))
 (.seq (.block n1 (.seq (.draw n0 [(dz (om n17 n0) n0 n0),(dz (om n18 n5) n1 n0),(dz (oq n19 (.iaddr n5 (.t n17) (.t n18))) n2 n0),(dz (om n21 n1) n4 n0),(dz (om n22 n5) n5 n0),(dz (oq n23 (.iaddr n5 (.t n21) (.t n22))) n6 n0),(dz (oq n20 (.load (some n5) (.t n19))) n3 n0),(dz (oq n24 (.load (some n5) (.t n23))) n7 n0),(dq (oq n25 (.call (.c (.fn n47 [] [])) [(.t n20),(.t n24)] .borrow)) n8 n0 [] [n3,n7,n2,n0,n1,n6,n4,n5] true false),(dz (oq n26 (.un .not (.t n25))) n9 n0)])
 (.cond (.t n26) (.seq (.ops [(oq n4 (.mv (.c (.d (.bool false)))))])
 .ret)
 .skip)))
 (.ops [(om n15 n5),(oq n16 (.bin .add (.t n15) (k n1))),(om n5 n16)]))))))
 (.seq (.ops [(oq n4 (.mv (.c (.d (.bool true)))))])
 .ret))))
def x27 : XFn := ⟨a27,n27,[(.t n4)],c27⟩
def a28 : Ann := ⟨[(n1,n1,n1),(n9,n2,n1),(n10,n1,n0)],[]⟩
def c28 : ICode :=
 (.seq (.ops [(oq n2 (.mv (.c (.d .nil)))),(oq n3 (.mv (k n0)))])
 (.seq (.ops [(om n12 n0),(oq n13 (.call (.c (.fn n54 [] [])) [(.t n12)] .share)),(om n11 n13),(oq n14 (.extract (.t n11) n0)),(oq n15 (.extract (.t n11) n1)),(oq n4 (.alloc [.nil,.nil,.nil,.nil])),⟨none,none,.store n4 (.t n4) (.t n14)⟩,(om n5 n15)])
 (.seq (.block n0 (.seq (.ops [(om n17 n5),(oq n18 (.bin .neq (.t n17) (k n0))),(om n16 n18)])
 (.cond (.t n16) (.seq (.ops [(om n19 n5),(oq n2 (.mv (.c (.d .nil)))),(om n3 n19)])
 .ret)
 (.seq (.ops [(of n21 n0 n4),(of n22 n0 n21),(ol n23 n22),(oq n24 (.len (.t n23))),(oq n25 (.bin .gtr (.t n24) (k n5))),(om n20 n25)])
 (.cond (.t n20) (.seq (.ops [(oq n2 (.mv (.c (.d .nil)))),(oq n3 (.mv (k n5)))])
 .ret)
 .skip)))))
 (.seq (.ops [(oq n26 (.load (some n4) (.t n4))),(oq n6 (.alloc [.nil,.nil,.nil,.nil])),(oq n7 (.alloc [(.int .i64 (.l (i n0)))])),⟨none,none,.store n4 (.t n6) (.t n26)⟩,⟨none,none,.store n1 (.t n7) (.c (.d (.int .i64 (.l (.negSucc n0)))))⟩])
 (.seq (.seq (.ops [(of n27 n0 n4),(oq n28 (.load (some n2) (.t n27))),(oq n29 (.mkfn n67 [(.t n28)] []))])
 (.block n1 (.range (.t n29) [n30] (.ops [(om n8 n30)]) (.block n2 (.seq (.ops [(oq n31 (.load (some n4) (.t n4))),(om n32 n8),(oq n33 (.call (.c (.fn n64 [] [])) [(.t n31),(.t n32)] .share)),(oq n9 (.alloc [.nil,.nil,.nil,.nil])),⟨none,none,.store n4 (.t n9) (.t n33)⟩])
 (.seq (.ops [(oq n34 (.load (some n4) (.t n9))),(oq n35 (.call (.c (.fn n55 [] [])) [(.t n34)] .borrow)),(om n10 n35)])
 (.seq (.ops [(ol n36 n7),(oq n37 (.bin .lss (.t n36) (k n0))),(om n38 n37),(og n39 n38 false (.mv (.t n10))),(og n40 n38 false (.load none (.t n7))),(og n41 n38 false (.bin .lss (.t n39) (.t n40))),(oq n42 (.pick (.t n38) (.c (.d (.bool true))) (.t n41)))])
 (.cond (.t n42) (.ops [(oq n43 (.load (some n4) (.t n9))),(om n44 n10),⟨none,none,.store n4 (.t n6) (.t n43)⟩,⟨none,none,.store n1 (.t n7) (.t n44)⟩])
 .skip))))))))
 (.seq (.ops [(of n45 n2 n6),(ol n46 n45),(om n2 n46),(oq n3 (.mv (k n0)))])
 .ret))))))
def x28 : XFn := ⟨a28,n47,[(.t n2),(.t n3)],c28⟩
def a30 : Ann := ⟨[(n1,n1,n0),(n4,n0,n1),(n9,n1,n1),(n13,n7,n2),(n20,n2,n2)],[]⟩
def c30 : ICode :=
 (.seq (.ops [(oq n1 (.box (.t n0))),(oq n2 (.mv (.c (.d .nil)))),(oq n3 (.mv (k n0)))])
 (.scope (.seq (.seq (.ops [(oq n13 (.load (some n3) (.t n1))),(oq n14 (.call (.c (.fn n69 [] [])) [(.t n13)] .borrow)),(om n4 n14)])
 (.seq (.ops [(om n15 n4),(oq n16 (.bin .neq (.t n15) (k n0)))])
 (.cond (.t n16) (.seq (.ops [(om n17 n4),(oq n2 (.mv (.c (.d .nil)))),(om n3 n17)])
 .ret)
 .skip)))
 (.seq (.draw n4 [(dq (of n19 n0 n1) n1 n1 [] [] false true),(dq (ol n20 n19) n2 n1 [n0,n1,n2,n3] [] false true),(dq (oq n21 (.len (.t n20))) n3 n1 [] [] false true),(dz (oq n18 (.bnew n1)) n0 n0),(dq (oq n22 (.mkslice n1 [(.bool false)] n1 (.t n21))) n4 n1 [] [] false true),(dz (oq n5 (.alloc [.nil])) n5 n2),(dz (oq n6 (.alloc [.nil])) n6 n3),⟨⟨none,none,.store n1 (.t n5) (.t n18)⟩,n7,n4,[n1],[n5,n0,n6],false,false⟩,⟨⟨none,none,.store n1 (.t n6) (.t n22)⟩,n8,n4,[],[n6,n4,n7,n0,n1,n2,n3,n5],true,false⟩])
 (.seq (.ops [(oq n23 (.mkfn n70 [] [(.t n6),(.t n5)])),(om n7 n23)])
 (.seq (.label n0)
 (.seq (.seq (.ops [(of n24 n1 n1),(ol n25 n24),(oq n26 (.len (.t n25))),(oq n27 (.mv (k n0)))])
 (.block n0 (.loop (.seq (.ops [(oq n28 (.bin .lss (.t n27) (.t n26)))])
 (.seq (.cond (.t n28) .skip
 (.exit n0))
 (.seq (.block n1 (.seq (.ops [(oq n29 (.iaddr n5 (.t n25) (.t n27))),(oq n30 (.load (some n5) (.t n29))),(oq n9 (.alloc [(.int .u8 (.l (i n0))),(.int .i64 (.l (i n0))),(.int .i64 (.l (i n0))),(.int .i64 (.l (i n0))),(.int .i64 (.l (i n0)))])),⟨none,none,.store n5 (.t n9) (.t n30)⟩])
 (.seq (.ops [(oq n31 (.load (some n5) (.t n9))),(oq n32 (.call (.c (.fn n71 [] [])) [(.t n31)] .share)),(oq n33 (.len (.t n32))),(oq n34 (.mv (k n0)))])
 (.block n2 (.loop (.seq (.ops [(oq n35 (.bin .lss (.t n34) (.t n33)))])
 (.seq (.cond (.t n35) .skip
 (.exit n2))
 (.seq (.block n3 (.seq (.ops [(oq n36 (.iaddr n1 (.t n32) (.t n34))),(ol n37 n36),(om n11 n37)])
 (.seq (.seq (.ops [(of n38 n1 n1),(ol n39 n38),(om n40 n11),(oq n41 (.iaddr n5 (.t n39) (.t n40))),(of n42 n0 n41),(ol n43 n42),(oq n44 (.bin .neq (.t n43) (.c (.d (.int .u8 (.l (i n3)))))))])
 (.cond (.t n44) (.exit n3)
 .skip))
 (.seq (.ops [(om n45 n7),(of n46 n1 n1),(ol n47 n46),(om n48 n11),(oq n49 (.iaddr n5 (.t n47) (.t n48))),(of n50 n4 n49),(ol n51 n50),(oq n52 (.call (.t n45) [(.t n51)] .raw))])
 (.seq (.ops [(ol n53 n5),(oq n54 (.len (.t n53))),(of n55 n0 n1),(ol n56 n55),(oq n57 (.len (.t n56))),(oq n58 (.bin .eql (.t n54) (.t n57)))])
 (.cond (.t n58) (.exit n0)
 .skip))))))
 (.ops [(oq n59 (.bin .add (.t n34) (k n1))),(om n34 n59)])))))))))
 (.ops [(oq n60 (.bin .add (.t n27) (k n1))),(om n27 n60)])))))))
 (.seq (.seq (.ops [(of n61 n0 n1),(ol n62 n61),(oq n63 (.len (.t n62))),(oq n64 (.mv (k n0)))])
 (.block n4 (.loop (.seq (.ops [(oq n65 (.bin .lss (.t n64) (.t n63)))])
 (.seq (.cond (.t n65) .skip
 (.exit n4))
 (.seq (.block n5 (.seq (.ops [(om n66 n64),(om n12 n66)])
 (.ops [(om n67 n7),(om n68 n12),(oq n69 (.call (.t n67) [(.t n68)] .raw))])))
 (.ops [(oq n70 (.bin .add (.t n64) (k n1))),(om n64 n70)])))))))
 (.seq (.ops [(ol n71 n5),(om n2 n71),(oq n3 (.mv (k n0)))])
 .ret)))))))))
def x30 : XFn := ⟨a30,n72,[(.t n2),(.t n3)],c30⟩
def a36 : Ann := ⟨[(n1,n1,n1),(n4,n7,n0),(n6,n11,n1),(n6,n12,n1)],[]⟩
def c36 : ICode :=
 (.seq (.ops [(oq n4 (.mv (.c (.d .nil)))),(oq n5 (.mv (k n0)))])
 (.seq (.ops [(om n9 n0),(oq n10 (.call (.c (.fn n54 [] [])) [(.t n9)] .share)),(om n8 n10),(oq n11 (.extract (.t n8) n0)),(oq n12 (.extract (.t n8) n1)),(oq n6 (.alloc [.nil,.nil,.nil,.nil])),⟨none,none,.store n4 (.t n6) (.t n11)⟩,(om n7 n12)])
 (.seq (.block n0 (.seq (.ops [(om n14 n7),(oq n15 (.bin .neq (.t n14) (k n0))),(om n13 n15)])
 (.cond (.t n13) (.seq (.ops [(om n16 n7),(oq n4 (.mv (.c (.d .nil)))),(om n5 n16)])
 .ret)
 (.seq (.ops [(of n18 n0 n6),(of n19 n1 n18),(ol n20 n19),(oq n21 (.len (.t n20))),(oq n22 (.bin .sub (.t n21) (k n2))),(om n23 n1),(oq n24 (.bslice n1 n1 [(.int .i64 (.l (i n0)))] [(n0,(.t n23))] false)),(oq n25 (.call (.c (.fn n78 [] [])) [(k n0),(.t n22),(.t n24)] .borrow)),(oq n26 (.un .not (.t n25))),(om n17 n26)])
 (.cond (.t n17) (.seq (.ops [(oq n4 (.mv (.c (.d .nil)))),(oq n5 (.mv (k n3)))])
 .ret)
 .skip)))))
 (.seq (.draw n0 [(dz (of n28 n0 n6) n1 n0),(dz (of n30 n0 n6) n3 n0),(dz (of n31 n1 n30) n4 n0),(dz (om n33 n1) n6 n0),(dz (om n36 n1) n9 n0),(dz (oq n37 (.bin .add (.t n36) (k n1))) n10 n0),(dq (oq n27 (.load (some n4) (.t n6))) n0 n0 [] [] false true),(dz (oq n29 (.load (some n2) (.t n28))) n2 n0),(dz (ol n32 n31) n5 n0),(dz (oq n34 (.iaddr n1 (.t n32) (.t n33))) n7 n0),(dz (ol n35 n34) n8 n0),(dq (oq n38 (.call (.c (.fn n65 [] [])) [(.t n29),(.t n35),(.t n37)] .share)) n11 n0 [] [n2,n8,n10,n1,n7,n5,n6,n4,n3,n9] false false),(dq (oq n39 (.call (.c (.fn n64 [] [])) [(.t n27),(.t n38)] .share)) n12 n0 [] [n0,n11,n2,n8,n10,n1,n7,n5,n6,n4,n3,n9] true false),(dz (oq n40 (.field n2 none (.t n39))) n13 n0),(dz (om n4 n40) n14 n0),(dz (oq n5 (.mv (k n0))) n15 n0)])
 .ret))))
def x36 : XFn := ⟨a36,n41,[(.t n4),(.t n5)],c36⟩
def a37 : Ann := ⟨[(n1,n1,n1),(n4,n8,n0),(n6,n5,n1),(n6,n6,n1)],[]⟩
def c37 : ICode :=
 (.seq (.ops [(oq n6 (.mv (.c (.d .nil)))),(oq n7 (.mv (k n0)))])
 (.seq (.ops [(om n11 n0),(oq n12 (.call (.c (.fn n54 [] [])) [(.t n11)] .share)),(om n10 n12),(oq n13 (.extract (.t n10) n0)),(oq n14 (.extract (.t n10) n1)),(oq n8 (.alloc [.nil,.nil,.nil,.nil])),⟨none,none,.store n4 (.t n8) (.t n13)⟩,(om n9 n14)])
 (.seq (.block n0 (.seq (.ops [(om n16 n9),(oq n17 (.bin .neq (.t n16) (k n0))),(om n15 n17)])
 (.cond (.t n15) (.seq (.ops [(om n18 n9),(oq n6 (.mv (.c (.d .nil)))),(om n7 n18)])
 .ret)
 (.seq (.ops [(of n20 n0 n8),(of n21 n1 n20),(ol n22 n21),(oq n23 (.len (.t n22))),(oq n24 (.bin .sub (.t n23) (k n1))),(om n25 n1),(om n26 n2),(oq n27 (.bslice n1 n2 [(.int .i64 (.l (i n0)))] [(n0,(.t n25)),(n1,(.t n26))] false)),(oq n28 (.call (.c (.fn n78 [] [])) [(k n0),(.t n24),(.t n27)] .borrow)),(oq n29 (.un .not (.t n28))),(om n19 n29)])
 (.cond (.t n19) (.seq (.ops [(oq n6 (.mv (.c (.d .nil)))),(oq n7 (.mv (k n3)))])
 .ret)
 .skip)))))
 (.seq (.draw n0 [(dz (of n31 n0 n8) n1 n0),(dz (om n33 n1) n3 n0),(dz (om n34 n2) n4 n0),(dq (oq n30 (.load (some n4) (.t n8))) n0 n0 [] [] false true),(dz (oq n32 (.load (some n2) (.t n31))) n2 n0),(dq (oq n35 (.call (.c (.fn n65 [] [])) [(.t n32),(.t n33),(.t n34)] .share)) n5 n0 [] [n2,n3,n4,n1] false false),(dq (oq n36 (.call (.c (.fn n64 [] [])) [(.t n30),(.t n35)] .share)) n6 n0 [] [n0,n5,n2,n3,n4,n1] true false),(dz (oq n37 (.field n2 none (.t n36))) n7 n0),(dz (om n6 n37) n8 n0),(dz (oq n7 (.mv (k n0))) n9 n0)])
 .ret))))
def x37 : XFn := ⟨a37,n38,[(.t n6),(.t n7)],c37⟩
def a40 : Ann := ⟨[(n1,n1,n1),(n4,n3,n0),(n6,n2,n1)],[]⟩
def c40 : ICode :=
 (.seq (.ops [(oq n4 (.mv (.c (.d .nil)))),(oq n5 (.mv (k n0)))])
 (.seq (.ops [(om n9 n0),(oq n10 (.call (.c (.fn n54 [] [])) [(.t n9)] .share)),(om n8 n10),(oq n11 (.extract (.t n8) n0)),(oq n12 (.extract (.t n8) n1)),(oq n6 (.alloc [.nil,.nil,.nil,.nil])),⟨none,none,.store n4 (.t n6) (.t n11)⟩,(om n7 n12)])
 (.seq (.block n0 (.seq (.ops [(om n14 n7),(oq n15 (.bin .neq (.t n14) (k n0))),(om n13 n15)])
 (.cond (.t n13) (.seq (.ops [(om n16 n7),(oq n4 (.mv (.c (.d .nil)))),(om n5 n16)])
 .ret)
 (.seq (.ops [(of n18 n0 n6),(oq n19 (.load (some n2) (.t n18))),(om n20 n1),(oq n21 (.call (.c (.fn n79 [] [])) [(.t n19),(.t n20)] .borrow)),(oq n22 (.un .not (.t n21))),(om n17 n22)])
 (.cond (.t n17) (.seq (.ops [(oq n4 (.mv (.c (.d .nil)))),(oq n5 (.mv (k n4)))])
 .ret)
 .skip)))))
 (.seq (.ops [(oq n23 (.load (some n4) (.t n6))),(om n24 n1),(oq n25 (.call (.c (.fn n64 [] [])) [(.t n23),(.t n24)] .share)),(oq n26 (.field n2 none (.t n25))),(om n4 n26),(oq n5 (.mv (k n0)))])
 .ret))))
def x40 : XFn := ⟨a40,n27,[(.t n4),(.t n5)],c40⟩
def a45 : Ann := ⟨[(n8,n3,n3),(n9,n3,n1)],[]⟩
def c45 : ICode :=
 (.seq (.ops [(oq n2 (.mv (.c (.d .nil)))),(oq n3 (.mv (.c (.d (.bool false)))))])
 (.seq (.ops [(oq n4 (.mv (.c (.d .nil))))])
 (.seq (.seq (.ops [(oq n5 (.mv (k n0)))])
 (.block n0 (.loop (.seq (.seq (.ops [(om n7 n5),(oq n8 (.bin .lss (.t n7) (k n16)))])
 (.cond (.t n8) .skip
 (.exit n0)))
 (.seq (.block n1 (.seq (.ops [(oq n11 (.build [(.int .u8 (.l (i n0))),(.int .i64 (.l (i n0)))] [])),(oq n6 (.alloc [(.int .u8 (.l (i n0))),(.int .i64 (.l (i n0)))])),⟨none,none,.store n2 (.t n6) (.t n11)⟩])
 (.seq (.seq (.ops [(om n12 n5),(oq n13 (.bin .quo (.t n12) (k n8))),(om n14 n5),(oq n15 (.bin .quo (.t n14) (k n4))),(oq n16 (.bin .rem (.t n15) (k n2))),(oq n17 (.bin .eql (.t n13) (.t n16))),(om n18 n17),(og n19 n18 true (.mv (.t n5))),(og n20 n18 true (.bin .quo (.t n19) (k n2))),(og n21 n18 true (.bin .rem (.t n20) (k n2))),(og n22 n18 true (.mv (.t n5))),(og n23 n18 true (.bin .rem (.t n22) (k n2))),(og n24 n18 true (.bin .eql (.t n21) (.t n23))),(oq n25 (.pick (.t n18) (.t n24) (.c (.d (.bool false)))))])
 (.cond (.t n25) (.ops [(of n26 n1 n6),⟨none,none,.store n1 (.t n26) (k n1)⟩])
 .skip))
 (.ops [(om n27 n4),(oq n28 (.load (some n2) (.t n6))),(oq n29 (.bslice n2 n1 [(.int .u8 (.l (i n0))),(.int .i64 (.l (i n0)))] [(n0,(.t n28))] false)),(oq n30 (.appendN n2 n16 (.t n27) (.t n29) true)),(om n4 n30)]))))
 (.ops [(om n9 n5),(oq n10 (.bin .add (.t n9) (k n1))),(om n5 n10)]))))))
 (.seq (.ops [(oq n31 (.bslice n1 n4 [(.int .i64 (.l (i n0)))] [(n0,(k n2)),(n1,(k n2)),(n2,(k n2)),(n3,(k n2))] false)),(om n32 n0),(om n33 n4),(oq n34 (.call (.c (.fn n46 [] [])) [(.t n31),(.t n32),(.t n33)] .share)),(oq n35 (.bslice n5 n1 [.nil,.nil,.nil,.nil,(.int .i64 (.l (i n0)))] [(n0,(.t n34))] false)),(om n2 n35),(oq n3 (.mv (.c (.d (.bool true)))))])
 .ret))))
def x45 : XFn := ⟨a45,n36,[(.t n2),(.t n3)],c45⟩
def a46 : Ann := ⟨[(n1,n1,n3),(n1,n3,n3),(n2,n5,n1)],[]⟩
def c46 : ICode :=
 (.seq (.ops [(oq n6 (.alloc [.nil,.nil,.nil,.nil,(.int .i64 (.l (i n0)))]))])
 (.seq (.ops [(om n8 n0),(oq n9 (.appendN n1 n8 (.c (.d .nil)) (.t n8) true)),(om n10 n1),(oq n11 (.appendN n1 n8 (.c (.d .nil)) (.t n10) true)),(oq n12 (.build [.nil,.nil,.nil,.nil,(.int .i64 (.l (i n0)))] [(n0,n1,(.t n9)),(n1,n1,(.t n11))])),(oq n7 (.alloc [.nil,.nil,.nil,.nil,(.int .i64 (.l (i n0)))])),⟨none,none,.store n5 (.t n7) (.t n12)⟩])
 (.seq (.draw n1 [(dz (om n15 n2) n1 n0),(dz (om n16 n0) n2 n0),(dz (oq n17 (.len (.t n16))) n3 n0),(dq (oq n14 (.load (some n5) (.t n7))) n0 n0 [n0] [] false false),(dz (oq n18 (.mkslice n1 [(.int .i64 (.l (i n0)))] n8 (.t n17))) n4 n0),(dq (oq n19 (.call (.c (.fn n81 [] [])) [(.t n14),(.t n15),(k n0),(.t n18)] .share)) n5 n1 [] [n0,n1,n4,n3,n2] true false),(dz (om n13 n19) n6 n1),(dz (oq n20 (.extract (.t n13) n0)) n7 n1),(dq (oq n21 (.extract (.t n13) n1)) n8 n1 [] [] false true),⟨⟨none,none,.store n5 (.t n7) (.t n20)⟩,n9,n1,[],[n7,n5,n0,n1,n2,n3,n4,n6],false,false⟩,(dz (of n22 n4 n7) n10 n1),⟨⟨none,none,.store n1 (.t n22) (.t n21)⟩,n11,n1,[],[n10,n8,n9,n0,n1,n2,n3,n4,n5,n6,n7],true,false⟩])
 (.seq (.ops [(oq n23 (.load (some n5) (.t n7))),⟨none,none,.store n5 (.t n6) (.t n23)⟩])
 .ret))))
def x46 : XFn := ⟨a46,n24,[(.c n6 (some n5))],c46⟩
def a47 : Ann := ⟨[(n1,n4,n0),(n1,n11,n0),(n1,n19,n0),(n6,n26,n0)],[]⟩
def c47 : ICode :=
 (.seq (.ops [(oq n2 (.box (.t n0))),(oq n3 (.box (.t n1))),(oq n4 (.mv (.c (.d (.bool false)))))])
 (.seq (.seq (.ops [(of n6 n0 n2),(ol n7 n6),(of n8 n0 n3),(ol n9 n8),(oq n10 (.call (.c (.fn n23 [] [])) [(.t n7),(.t n9)] .borrow)),(oq n11 (.un .not (.t n10))),(om n12 n11),(og n13 n12 false (.faddr n1 (.t n2))),(og n14 n12 false (.load none (.t n13))),(og n15 n12 false (.faddr n1 (.t n3))),(og n16 n12 false (.load none (.t n15))),(og n17 n12 false (.call (.c (.fn n23 [] [])) [(.t n14),(.t n16)] .borrow)),(og n18 n12 false (.un .not (.t n17))),(oq n19 (.pick (.t n12) (.c (.d (.bool true))) (.t n18))),(om n20 n19),(og n21 n20 false (.faddr n2 (.t n2))),(og n22 n20 false (.load none (.t n21))),(og n23 n20 false (.faddr n2 (.t n3))),(og n24 n20 false (.load none (.t n23))),(og n25 n20 false (.call (.c (.fn n82 [] [])) [(.t n22),(.t n24)] .borrow)),(og n26 n20 false (.un .not (.t n25))),(oq n27 (.pick (.t n20) (.c (.d (.bool true))) (.t n26))),(om n28 n27),(og n29 n28 false (.faddr n3 (.t n2))),(og n30 n28 false (.load none (.t n29))),(og n31 n28 false (.len (.t n30))),(og n32 n28 false (.faddr n3 (.t n3))),(og n33 n28 false (.load none (.t n32))),(og n34 n28 false (.len (.t n33))),(og n35 n28 false (.bin .neq (.t n31) (.t n34))),(oq n36 (.pick (.t n28) (.c (.d (.bool true))) (.t n35))),(om n37 n36),(og n38 n37 false (.faddr n4 (.t n2))),(og n39 n37 false (.load none (.t n38))),(og n40 n37 false (.faddr n4 (.t n3))),(og n41 n37 false (.load none (.t n40))),(og n42 n37 false (.bin .neq (.t n39) (.t n41))),(oq n43 (.pick (.t n37) (.c (.d (.bool true))) (.t n42)))])
 (.cond (.t n43) (.seq (.ops [(oq n4 (.mv (.c (.d (.bool false)))))])
 .ret)
 .skip))
 (.seq (.seq (.ops [(oq n5 (.mv (k n0)))])
 (.block n0 (.loop (.seq (.seq (.ops [(om n44 n5),(of n45 n3 n2),(ol n46 n45),(oq n47 (.len (.t n46))),(oq n48 (.bin .lss (.t n44) (.t n47)))])
 (.cond (.t n48) .skip
 (.exit n0)))
 (.seq (.block n1 (.seq (.draw n0 [(dz (of n51 n3 n2) n0 n0),(dz (om n53 n5) n2 n0),(dz (of n57 n3 n3) n6 n0),(dz (om n59 n5) n8 n0),(dz (ol n52 n51) n1 n0),(dz (oq n54 (.iaddr n2 (.t n52) (.t n53))) n3 n0),(dz (of n55 n0 n54) n4 n0),(dz (ol n56 n55) n5 n0),(dz (ol n58 n57) n7 n0),(dz (oq n60 (.iaddr n2 (.t n58) (.t n59))) n9 n0),(dz (of n61 n0 n60) n10 n0),(dz (ol n62 n61) n11 n0),(dz (oq n63 (.bin .neq (.t n56) (.t n62))) n12 n0),(dz (om n64 n63) n13 n0),(dz (og n65 n64 false (.faddr n3 (.t n2))) n14 n0),(dz (og n67 n64 false (.mv (.t n5))) n16 n0),(dz (og n71 n64 false (.faddr n3 (.t n3))) n20 n0),(dz (og n73 n64 false (.mv (.t n5))) n22 n0),(dz (og n66 n64 false (.load none (.t n65))) n15 n0),(dz (og n68 n64 false (.iaddr n2 (.t n66) (.t n67))) n17 n0),(dz (og n69 n64 false (.faddr n1 (.t n68))) n18 n0),(dz (og n70 n64 false (.load none (.t n69))) n19 n0),(dz (og n72 n64 false (.load none (.t n71))) n21 n0),(dz (og n74 n64 false (.iaddr n2 (.t n72) (.t n73))) n23 n0),(dz (og n75 n64 false (.faddr n1 (.t n74))) n24 n0),(dz (og n76 n64 false (.load none (.t n75))) n25 n0),(dq (og n77 n64 false (.call (.c (.fn n23 [] [])) [(.t n70),(.t n76)] .borrow)) n26 n0 [] [n19,n25,n13,n18,n17,n15,n16,n14,n12,n5,n11,n4,n3,n1,n2,n0,n10,n9,n7,n8,n6,n24,n23,n21,n22,n20] true false),(dz (og n78 n64 false (.un .not (.t n77))) n27 n0),(dz (oq n79 (.pick (.t n64) (.c (.d (.bool true))) (.t n78))) n28 n0)])
 (.cond (.t n79) (.seq (.ops [(oq n4 (.mv (.c (.d (.bool false)))))])
 .ret)
 .skip)))
 (.ops [(om n49 n5),(oq n50 (.bin .add (.t n49) (k n1))),(om n5 n50)]))))))
 (.seq (.ops [(oq n4 (.mv (.c (.d (.bool true)))))])
 .ret))))
def x47 : XFn := ⟨a47,n80,[(.t n4)],c47⟩
def a53 : Ann := ⟨[(n1,n13,n0)],[]⟩
def c53 : ICode :=
 (.seq (.ops [(oq n6 (.mv (.c (.d (.bool false)))))])
 (.seq (.ops [(om n7 n1),(oq n8 (.bin .eql (.t n7) (k n0))),(om n9 n8),(og n10 n9 true (.mv (.t n0))),(og n11 n9 true (.len (.t n10))),(og n12 n9 true (.bin .eql (.t n11) (k n1))),(oq n13 (.pick (.t n9) (.t n12) (.c (.d (.bool false))))),(om n14 n13),(og n15 n14 true (.mv (.t n0))),(og n16 n14 true (.iaddr n5 (.t n15) (k n0))),(og n17 n14 true (.faddr n1 (.t n16))),(og n18 n14 true (.load none (.t n17))),(og n19 n14 true (.mv (.t n2))),(og n20 n14 true (.call (.c (.fn n23 [] [])) [(.t n18),(.t n19)] .borrow)),(oq n21 (.pick (.t n14) (.t n20) (.c (.d (.bool false))))),(om n6 n21)])
 .ret))
def x53 : XFn := ⟨a53,n22,[(.t n6)],c53⟩
def a54 : Ann := ⟨[(n7,n1,n1),(n10,n4,n3),(n12,n4,n2)],[]⟩
def c54 : ICode :=
 (.seq (.ops [(oq n2 (.alloc [.nil,.nil,.nil,.nil])),(oq n3 (.mv (k n0)))])
 (.seq (.seq (.ops [(om n8 n0),(oq n9 (.len (.t n8))),(oq n10 (.bin .eql (.t n9) (k n0)))])
 (.cond (.t n10) (.seq (.ops [(oq n11 (.load (some n4) (.t n2))),⟨none,none,.store n4 (.t n2) (.t n11)⟩,(oq n3 (.mv (k n7)))])
 .ret)
 .skip))
 (.seq (.draw n0 [(dz (om n12 n0) n0 n0),(dz (oq n13 (.iaddr n5 (.t n12) (k n0))) n1 n0),(dz (of n14 n0 n13) n2 n0),(dz (om n16 n0) n4 n0),(dz (oq n17 (.iaddr n5 (.t n16) (k n0))) n5 n0),(dz (of n18 n1 n17) n6 n0),(dz (om n21 n0) n9 n0),(dz (ol n15 n14) n3 n0),(dz (ol n19 n18) n7 n0),(dz (oq n20 (.build [.nil,.nil] [(n0,n1,(.t n15)),(n1,n1,(.t n19))])) n8 n0),(dz (oq n22 (.build [.nil,.nil,.nil,.nil] [(n0,n2,(.t n20)),(n2,n1,(.t n21))])) n10 n0),⟨⟨none,none,.store n4 (.t n2) (.t n22)⟩,n11,n0,[],[n10,n0,n1,n2,n3,n4,n5,n6,n7,n8,n9],true,false⟩])
 (.seq (.seq (.ops [(om n23 n0),(oq n24 (.len (.t n23))),(oq n25 (.mv (k n0)))])
 (.block n0 (.loop (.seq (.ops [(oq n26 (.bin .lss (.t n25) (.t n24)))])
 (.seq (.cond (.t n26) .skip
 (.exit n0))
 (.seq (.block n1 (.seq (.ops [(oq n27 (.iaddr n5 (.t n23) (.t n25))),(oq n28 (.load (some n5) (.t n27))),(oq n5 (.alloc [.nil,.nil,.nil,.nil,(.int .i64 (.l (i n0)))])),⟨none,none,.store n5 (.t n5) (.t n28)⟩])
 (.seq (.ops [(oq n30 (.load (some n5) (.t n5))),(oq n31 (.call (.c (.fn n87 [] [])) [(.t n30)] .share)),(om n29 n31),(oq n32 (.extract (.t n29) n0)),(oq n33 (.extract (.t n29) n1)),(om n6 n32),(om n7 n33)])
 (.seq (.seq (.ops [(om n34 n7),(oq n35 (.bin .neq (.t n34) (k n0)))])
 (.cond (.t n35) (.seq (.ops [(oq n36 (.load (some n4) (.t n2))),(om n37 n7),⟨none,none,.store n4 (.t n2) (.t n36)⟩,(om n3 n37)])
 .ret)
 .skip))
 (.ops [(of n38 n3 n2),(ol n39 n38),(om n40 n6),(oq n41 (.bslice n1 n1 [.nil] [(n0,(.t n40))] false)),(oq n42 (.appendN n1 n24 (.t n39) (.t n41) true)),(of n43 n3 n2),⟨none,none,.store n1 (.t n43) (.t n42)⟩])))))
 (.ops [(oq n44 (.bin .add (.t n25) (k n1))),(om n25 n44)])))))))
 (.seq (.seq (.ops [(om n45 n0),(of n46 n0 n2),(oq n47 (.load (some n2) (.t n46))),(oq n48 (.mkfn n89 [(.t n47)] [])),(oq n49 (.call (.c (.fn n88 [] [])) [(.t n45),(.t n48)] .raw)),(oq n50 (.un .not (.t n49)))])
 (.cond (.t n50) (.seq (.ops [(oq n51 (.load (some n4) (.t n2))),⟨none,none,.store n4 (.t n2) (.t n51)⟩,(oq n3 (.mv (k n2)))])
 .ret)
 .skip))
 (.seq (.ops [(oq n52 (.load (some n4) (.t n2))),⟨none,none,.store n4 (.t n2) (.t n52)⟩,(oq n3 (.mv (k n0)))])
 .ret))))))
def x54 : XFn := ⟨a54,n53,[(.c n2 (some n4)),(.t n3)],c54⟩
def a55 : Ann := ⟨[(n1,n1,n1)],[]⟩
def c55 : ICode :=
 (.seq (.ops [(oq n1 (.box (.t n0))),(oq n2 (.mv (k n0)))])
 (.seq (.seq (.ops [(oq n5 (.load (some n4) (.t n1))),(oq n6 (.call (.c (.fn n56 [] [])) [(.t n5)] .share)),(oq n7 (.len (.t n6))),(oq n8 (.mv (k n0)))])
 (.block n0 (.loop (.seq (.ops [(oq n9 (.bin .lss (.t n8) (.t n7)))])
 (.seq (.cond (.t n9) .skip
 (.exit n0))
 (.seq (.block n1 (.seq (.ops [(oq n10 (.iaddr n1 (.t n6) (.t n8))),(ol n11 n10),(om n4 n11)])
 (.ops [(om n12 n2),(om n13 n4),(oq n14 (.bin .add (.t n12) (.t n13))),(om n2 n14)])))
 (.ops [(oq n15 (.bin .add (.t n8) (k n1))),(om n8 n15)])))))))
 (.seq (.ops [(om n16 n2),(om n2 n16)])
 .ret)))
def x55 : XFn := ⟨a55,n17,[(.t n2)],c55⟩
def a56 : Ann := ⟨[],[]⟩
def c56 : ICode :=
 (.seq (.ops [(oq n1 (.box (.t n0))),(oq n2 (.mv (.c (.d .nil))))])
 (.seq (.ops [(of n19 n0 n1),(of n20 n0 n19),(ol n21 n20),(oq n22 (.len (.t n21))),(oq n23 (.mkslice n1 [(.int .i64 (.l (i n0)))] n8 (.t n22))),(om n3 n23)])
 (.seq (.ops [(oq n24 (.mkmap true [.u8,.i64])),(oq n25 (.mkmap true [.i64,.i64,.i64,.i64,.i64,.i64,.i64,.i64,.i64,.i64,.i64,.i64,.i64])),(om n4 n24),(om n5 n25)])
 (.seq (.seq (.ops [(of n26 n2 n1),(ol n27 n26),(oq n28 (.len (.t n27))),(oq n29 (.mv (k n0)))])
 (.block n0 (.loop (.seq (.ops [(oq n30 (.bin .lss (.t n29) (.t n28)))])
 (.seq (.cond (.t n30) .skip
 (.exit n0))
 (.seq (.block n1 (.seq (.ops [(oq n31 (.iaddr n5 (.t n27) (.t n29))),(oq n32 (.load (some n5) (.t n31))),(oq n7 (.alloc [.nil,.nil,.nil,.nil,(.int .i64 (.l (i n0)))])),⟨none,none,.store n5 (.t n7) (.t n32)⟩])
 (.seq (.ops [(of n33 n3 n7),(ol n34 n33),(oq n35 (.len (.t n34))),(oq n36 (.mkslice n1 [(.int .i64 (.l (i n0)))] n8 (.t n35))),(om n8 n36)])
 (.seq (.ops [(of n37 n3 n7),(ol n38 n37),(oq n39 (.len (.t n38))),(oq n40 (.mv (k n0)))])
 (.block n2 (.loop (.seq (.ops [(oq n41 (.bin .lss (.t n40) (.t n39)))])
 (.seq (.cond (.t n41) .skip
 (.exit n2))
 (.seq (.block n3 (.seq (.ops [(om n42 n40),(oq n43 (.iaddr n2 (.t n38) (.t n40))),(oq n44 (.load (some n2) (.t n43))),(oq n10 (.alloc [(.int .i64 (.l (i n0))),.nil])),(om n9 n42),⟨none,none,.store n2 (.t n10) (.t n44)⟩])
 (.seq (.ops [(of n45 n0 n10),(ol n46 n45),(oq n47 (.build [(.int .i64 (.l (i n0))),(.int .i64 (.l (i n0))),(.int .i64 (.l (i n0))),(.int .i64 (.l (i n0))),(.int .i64 (.l (i n0))),(.int .i64 (.l (i n0))),(.int .i64 (.l (i n0))),(.int .i64 (.l (i n0))),(.int .i64 (.l (i n0))),(.int .i64 (.l (i n0))),(.int .i64 (.l (i n0))),(.int .i64 (.l (i n0))),(.int .i64 (.l (i n0)))] [(n0,n1,(.t n46))])),(oq n11 (.alloc [(.int .i64 (.l (i n0))),(.int .i64 (.l (i n0))),(.int .i64 (.l (i n0))),(.int .i64 (.l (i n0))),(.int .i64 (.l (i n0))),(.int .i64 (.l (i n0))),(.int .i64 (.l (i n0))),(.int .i64 (.l (i n0))),(.int .i64 (.l (i n0))),(.int .i64 (.l (i n0))),(.int .i64 (.l (i n0))),(.int .i64 (.l (i n0))),(.int .i64 (.l (i n0)))])),⟨none,none,.store n13 (.t n11) (.t n47)⟩])
 (.seq (.seq (.ops [(of n48 n1 n10),(ol n49 n48),(oq n50 (.len (.t n49))),(oq n51 (.mv (k n0)))])
 (.block n4 (.loop (.seq (.ops [(oq n52 (.bin .lss (.t n51) (.t n50)))])
 (.seq (.cond (.t n52) .skip
 (.exit n4))
 (.seq (.block n5 (.seq (.ops [(om n53 n51),(oq n54 (.iaddr n1 (.t n49) (.t n51))),(ol n55 n54),(om n12 n53),(om n13 n55)])
 (.seq (.seq (.ops [(om n56 n13),(oq n57 (.bin .geq (.t n56) (k n0)))])
 (.cond (.t n57) (.seq (.ops [(om n58 n12),(om n59 n8),(om n60 n13),(oq n61 (.iaddr n1 (.t n59) (.t n60))),(ol n62 n61),(of n63 n1 n11),(oq n64 (.iaddrA n12 n1 (.t n63) (.t n58))),⟨none,none,.store n1 (.t n64) (.t n62)⟩])
 (.exit n5))
 .skip))
 (.seq (.ops [(of n65 n2 n7),(ol n66 n65),(om n67 n13),(oq n68 (.bin .sub (.c (.d (.int .i64 (.l (.negSucc n0))))) (.t n67))),(oq n69 (.iaddr n2 (.t n66) (.t n68))),(oq n70 (.load (some n2) (.t n69))),(oq n14 (.alloc [(.int .u8 (.l (i n0))),(.int .i64 (.l (i n0)))])),⟨none,none,.store n2 (.t n14) (.t n70)⟩])
 (.seq (.seq (.ops [(om n72 n4),(oq n73 (.load (some n2) (.t n14))),(oq n74 (.lookup true [.u8,.i64] true (.t n72) (.t n73))),(om n71 n74),(oq n75 (.extract (.t n71) n0)),(oq n76 (.extract (.t n71) n1)),(om n15 n75),(om n16 n76)])
 (.seq (.ops [(om n77 n16),(oq n78 (.un .not (.t n77)))])
 (.cond (.t n78) (.ops [(om n79 n4),(oq n80 (.load (some n2) (.t n14))),(om n81 n4),(oq n82 (.lenm (.t n81))),(oq n83 (.bin .sub (.c (.d (.int .i64 (.l (.negSucc n0))))) (.t n82))),⟨none,none,.mapupd true [.u8,.i64] (.t n79) (.t n80) (.t n83)⟩])
 .skip)))
 (.ops [(om n84 n12),(om n85 n4),(oq n86 (.load (some n2) (.t n14))),(oq n87 (.lookup true [.u8,.i64] false (.t n85) (.t n86))),(of n88 n1 n11),(oq n89 (.iaddrA n12 n1 (.t n88) (.t n84))),⟨none,none,.store n1 (.t n89) (.t n87)⟩]))))))
 (.ops [(oq n90 (.bin .add (.t n51) (k n1))),(om n51 n90)])))))))
 (.seq (.ops [(om n92 n5),(oq n93 (.load (some n13) (.t n11))),(oq n94 (.lookup true [.i64,.i64,.i64,.i64,.i64,.i64,.i64,.i64,.i64,.i64,.i64,.i64,.i64] true (.t n92) (.t n93))),(om n91 n94),(oq n95 (.extract (.t n91) n0)),(oq n96 (.extract (.t n91) n1)),(om n17 n95),(om n18 n96)])
 (.seq (.seq (.ops [(om n97 n18),(oq n98 (.un .not (.t n97)))])
 (.cond (.t n98) (.seq (.ops [(om n99 n5),(oq n100 (.lenm (.t n99))),(om n17 n100)])
 (.seq (.ops [(om n101 n5),(oq n102 (.load (some n13) (.t n11))),(om n103 n17),⟨none,none,.mapupd true [.i64,.i64,.i64,.i64,.i64,.i64,.i64,.i64,.i64,.i64,.i64,.i64,.i64] (.t n101) (.t n102) (.t n103)⟩])
 (.ops [(om n104 n3),(of n105 n0 n10),(ol n106 n105),(oq n107 (.iaddr n1 (.t n104) (.t n106))),(ol n108 n107),(oq n109 (.bin .add (.t n108) (k n1))),(oq n110 (.iaddr n1 (.t n104) (.t n106))),⟨none,none,.store n1 (.t n110) (.t n109)⟩])))
 .skip))
 (.ops [(om n111 n8),(om n112 n9),(om n113 n17),(oq n114 (.iaddr n1 (.t n111) (.t n112))),⟨none,none,.store n1 (.t n114) (.t n113)⟩])))))))
 (.ops [(oq n115 (.bin .add (.t n40) (k n1))),(om n40 n115)]))))))))))
 (.ops [(oq n116 (.bin .add (.t n29) (k n1))),(om n29 n116)])))))))
 (.seq (.ops [(om n117 n3),(om n2 n117)])
 .ret)))))
def x56 : XFn := ⟨a56,n118,[(.t n2)],c56⟩
def a57 : Ann := ⟨[(n1,n1,n1),(n4,n3,n2)],[]⟩
def c57 : ICode :=
 (.seq (.ops [(oq n2 (.box (.t n0))),(oq n4 (.mv (.c (.d .nil)))),(oq n5 (.mv (k n0)))])
 (.seq (.ops [(om n9 n1),(oq n10 (.call (.c (.fn n54 [] [])) [(.t n9)] .share)),(om n8 n10),(oq n11 (.extract (.t n8) n0)),(oq n12 (.extract (.t n8) n1)),(oq n6 (.alloc [.nil,.nil,.nil,.nil])),⟨none,none,.store n4 (.t n6) (.t n11)⟩,(om n7 n12)])
 (.seq (.seq (.ops [(om n13 n7),(oq n14 (.bin .neq (.t n13) (k n0)))])
 (.cond (.t n14) (.seq (.ops [(om n15 n7),(oq n4 (.mv (.c (.d .nil)))),(om n5 n15)])
 .ret)
 .skip))
 (.seq (.ops [(of n16 n0 n2),(ol n17 n16),(oq n18 (.load (some n4) (.t n6))),(oq n19 (.call (.t n17) [(.t n18)] .raw)),(om n4 n19),(oq n5 (.mv (k n0)))])
 .ret))))
def x57 : XFn := ⟨a57,n20,[(.t n4),(.t n5)],c57⟩
def a60 : Ann := ⟨[(n1,n4,n0),(n1,n6,n2)],[]⟩
def c60 : ICode :=
 (.seq (.ops [(om n5 n0),(oq n6 (.len (.t n5))),(om n4 n6)])
 (.ops [(om n7 n0),(om n8 n4),(om n9 n4),(oq n10 (.conv .u64 (.t n9))),(oq n11 (.call (.c (.fn n93 [] [])) [(.t n10)] .borrow)),(om n12 n1),(oq n13 (.call (.c (.fn n92 [] [])) [(.t n7),(k n0),(.t n8),(.t n11),(.t n12)] .raw))]))
def x60 : XFn := ⟨a60,n14,[],c60⟩
def a61 : Ann := ⟨[(n1,n4,n0),(n1,n9,n0),(n1,n11,n0)],[]⟩
def c61 : ICode :=
 (.seq (.ops [(oq n2 (.box (.t n0))),(oq n3 (.box (.t n1))),(oq n4 (.mv (k n0)))])
 (.seq (.draw n0 [(dz (of n5 n1 n3) n0 n0),(dz (of n7 n1 n2) n2 n0),(dq (of n10 n0 n2) n5 n0 [] [] false true),(dq (of n12 n0 n3) n7 n0 [] [] false true),(dz (ol n6 n5) n1 n0),(dz (ol n8 n7) n3 n0),(dq (ol n11 n10) n6 n0 [] [] false true),(dq (ol n13 n12) n8 n0 [] [] false true),(dq (oq n9 (.call (.c (.fn n63 [] [])) [(.t n6),(.t n8)] .borrow)) n4 n0 [] [n1,n3,n0,n2] false false),(dq (oq n14 (.call (.c (.fn n63 [] [])) [(.t n11),(.t n13)] .borrow)) n9 n0 [] [n6,n8,n4,n5,n7,n1,n3,n0,n2] true false),(dq (oq n15 (.bslice n1 n2 [(.int .i64 (.l (i n0)))] [(n0,(.t n9)),(n1,(.t n14))] false)) n10 n0 [] [n4,n9,n1,n3,n0,n2,n6,n8,n5,n7] true false),(dq (oq n16 (.call (.c (.fn n62 [] [])) [(.t n15)] .borrow)) n11 n0 [] [n10,n9,n4,n1,n3,n0,n2,n6,n8,n5,n7] true false),(dz (om n4 n16) n12 n0)])
 .ret))
def x61 : XFn := ⟨a61,n17,[(.t n4)],c61⟩
def a62 : Ann := ⟨[],[]⟩
def c62 : ICode :=
 (.seq (.ops [(oq n2 (.mv (k n0)))])
 (.seq (.ops [(oq n3 (.mv (k n0)))])
 (.seq (.seq (.ops [(om n6 n0),(oq n7 (.len (.t n6))),(oq n8 (.mv (k n0)))])
 (.block n0 (.loop (.seq (.ops [(oq n9 (.bin .lss (.t n8) (.t n7)))])
 (.seq (.cond (.t n9) .skip
 (.exit n0))
 (.seq (.block n1 (.seq (.ops [(oq n10 (.iaddr n1 (.t n6) (.t n8))),(ol n11 n10),(om n5 n11)])
 (.seq (.ops [(om n12 n5),(om n13 n3),(oq n14 (.bin .neq (.t n12) (.t n13)))])
 (.cond (.t n14) (.seq (.ops [(om n15 n5),(om n2 n15)])
 .ret)
 .skip))))
 (.ops [(oq n16 (.bin .add (.t n8) (k n1))),(om n8 n16)])))))))
 (.seq (.ops [(om n17 n3),(om n2 n17)])
 .ret))))
def x62 : XFn := ⟨a62,n18,[(.t n2)],c62⟩
def a63 : Ann := ⟨[(n1,n1,n0),(n2,n1,n0)],[]⟩
def c63 : ICode :=
 (.seq (.ops [(oq n4 (.mv (k n0)))])
 (.seq (.ops [(om n7 n0),(oq n8 (.call (.c (.fn n94 [] [])) [(.t n7)] .borrow)),(om n5 n8)])
 (.seq (.ops [(om n9 n1),(oq n10 (.call (.c (.fn n94 [] [])) [(.t n9)] .borrow)),(om n6 n10)])
 (.seq (.seq (.ops [(om n11 n5)])
 (.cond (.t n11) (.seq (.seq (.ops [(om n12 n6)])
 (.cond (.t n12) (.seq (.ops [(oq n4 (.mv (k n0)))])
 .ret)
 .skip))
 (.seq (.ops [(oq n4 (.mv (.c (.d (.int .i64 (.l (.negSucc n0)))))))])
 .ret))
 .skip))
 (.seq (.seq (.ops [(om n13 n6)])
 (.cond (.t n13) (.seq (.ops [(oq n4 (.mv (k n1)))])
 .ret)
 .skip))
 (.seq (.seq (.ops [(om n14 n0),(om n15 n1),(oq n16 (.bin .lss (.t n14) (.t n15)))])
 (.cond (.t n16) (.seq (.ops [(oq n4 (.mv (.c (.d (.int .i64 (.l (.negSucc n0)))))))])
 .ret)
 .skip))
 (.seq (.seq (.ops [(om n17 n0),(om n18 n1),(oq n19 (.bin .gtr (.t n17) (.t n18)))])
 (.cond (.t n19) (.seq (.ops [(oq n4 (.mv (k n1)))])
 .ret)
 .skip))
 (.seq (.ops [(oq n4 (.mv (k n0)))])
 .ret))))))))
def x63 : XFn := ⟨a63,n20,[(.t n4)],c63⟩
def a64 : Ann := ⟨[(n5,n5,n1),(n6,n4,n3)],[]⟩
def c64 : ICode :=
 (.seq (.ops [(oq n2 (.box (.t n0))),(oq n4 (.alloc [.nil,.nil,.nil,.nil]))])
 (.seq (.ops [(of n10 n0 n2),(of n11 n0 n10),(ol n12 n11),(om n13 n1),(oq n14 (.build [.nil,.nil] [(n0,n1,(.t n12)),(n1,n1,(.t n13))])),(of n15 n3 n2),(ol n16 n15),(oq n17 (.build [.nil,.nil,.nil,.nil] [(n0,n2,(.t n14)),(n3,n1,(.t n16))])),(oq n5 (.alloc [.nil,.nil,.nil,.nil])),⟨none,none,.store n4 (.t n5) (.t n17)⟩])
 (.seq (.seq (.ops [(of n18 n3 n2),(ol n19 n18),(oq n20 (.len (.t n19))),(oq n21 (.mv (k n0)))])
 (.block n0 (.loop (.seq (.ops [(oq n22 (.bin .lss (.t n21) (.t n20)))])
 (.seq (.cond (.t n22) .skip
 (.exit n0))
 (.seq (.block n1 (.seq (.ops [(oq n23 (.iaddr n1 (.t n19) (.t n21))),(ol n24 n23),(om n7 n24)])
 (.seq (.ops [(of n26 n0 n2),(of n27 n0 n26),(ol n28 n27),(om n29 n1),(om n30 n7),(oq n31 (.call (.c (.fn n95 [] [])) [(.t n28),(.t n29),(.t n30)] .share)),(om n25 n31),(oq n32 (.extract (.t n25) n0)),(oq n33 (.extract (.t n25) n1)),(oq n8 (.alloc [.nil,.nil,.nil,.nil,(.int .i64 (.l (i n0)))])),⟨none,none,.store n5 (.t n8) (.t n32)⟩,(om n9 n33)])
 (.ops [(of n34 n2 n5),(ol n35 n34),(oq n36 (.load (some n5) (.t n8))),(oq n37 (.bslice n5 n1 [.nil,.nil,.nil,.nil,(.int .i64 (.l (i n0)))] [(n0,(.t n36))] false)),(oq n38 (.appendN n5 n104 (.t n35) (.t n37) true)),(of n39 n2 n5),⟨none,none,.store n1 (.t n39) (.t n38)⟩]))))
 (.ops [(oq n40 (.bin .add (.t n21) (k n1))),(om n21 n40)])))))))
 (.seq (.ops [(oq n41 (.load (some n4) (.t n5))),⟨none,none,.store n4 (.t n4) (.t n41)⟩])
 .ret))))
def x64 : XFn := ⟨a64,n42,[(.c n4 (some n4))],c64⟩
def a65 : Ann := ⟨[(n1,n3,n0),(n2,n2,n2),(n2,n6,n2),(n3,n3,n1),(n3,n4,n2)],[]⟩
def c65 : ICode :=
 (.seq (.ops [(oq n3 (.box (.t n0))),(oq n6 (.mv (.c (.d .nil))))])
 (.seq (.ops [(of n9 n1 n3),(ol n10 n9),(om n11 n1),(oq n12 (.call (.c (.fn n96 [] [])) [(.t n10),(.t n11)] .borrow)),(om n7 n12)])
 (.seq (.ops [(of n13 n1 n3),(ol n14 n13),(oq n15 (.call (.c (.fn n98 [] [])) [(.t n14)] .raw)),(om n16 n7),(om n17 n7),(oq n18 (.bin .add (.t n17) (k n1))),(oq n19 (.call (.c (.fn n97 [] [])) [(.t n15),(.t n16),(.t n18)] .raw)),(om n8 n19)])
 (.seq (.ops [(om n20 n8),(om n21 n2),(om n22 n1),(oq n23 (.bslice n1 n1 [(.int .i64 (.l (i n0)))] [(n0,(.t n22))] true)),(oq n24 (.call (.c (.fn n99 [] [])) [(.t n20),(.t n21),(.t n23)] .raw)),(om n6 n24)])
 .ret))))
def x65 : XFn := ⟨a65,n25,[(.t n6)],c65⟩
def a67 : Ann := ⟨[(n3,n1,n2)],[]⟩
def c67 : ICode :=
 (.seq (.ops [(oq n2 (.box (.t n0))),(oq n3 (.box (.t n1)))])
 (.seq (.ops [(oq n4 (.alloc [(.raw .nilFunc)]))])
 (.seq (.ops [(oq n5 (.mkfn n100 [] [(.t n2),(.t n3),(.t n4)])),⟨none,none,.store n1 (.t n4) (.t n5)⟩])
 (.ops [(ol n6 n4),(oq n7 (.call (.t n6) [(.c (.d .nil))] .raw))]))))
def x67 : XFn := ⟨a67,n8,[],c67⟩
def a69 : Ann := ⟨[(n5,n2,n0),(n7,n6,n0),(n12,n2,n0)],[]⟩
def c69 : ICode :=
 (.seq (.ops [(oq n1 (.box (.t n0))),(oq n2 (.mv (k n0)))])
 (.seq (.block n0 (.seq (.seq (.ops [(of n5 n0 n1),(ol n6 n5),(oq n7 (.len (.t n6))),(oq n8 (.bin .gtr (.t n7) (k n6))),(om n4 n8)])
 (.cond (.t n4) .skip
 (.seq (.ops [(of n9 n1 n1),(ol n10 n9),(oq n11 (.len (.t n10))),(oq n12 (.bin .gtr (.t n11) (k n3000))),(om n4 n12)])
 (.cond (.t n4) .skip
 (.ops [(of n13 n2 n1),(ol n14 n13),(oq n15 (.len (.t n14))),(oq n16 (.bin .gtr (.t n15) (k n3000))),(om n4 n16)])))))
 (.cond (.t n4) (.seq (.ops [(oq n2 (.mv (k n5)))])
 .ret)
 (.seq (.ops [(of n18 n0 n1),(ol n19 n18),(oq n20 (.call (.c (.fn n102 [] [])) [(.t n19),(.c (.fn n103 [] []))] .borrow)),(om n17 n20)])
 (.cond (.t n17) (.seq (.ops [(oq n2 (.mv (k n3)))])
 .ret)
 (.seq (.ops [(of n22 n1 n1),(ol n23 n22),(oq n24 (.len (.t n23))),(oq n25 (.bin .sub (.t n24) (k n1))),(of n26 n2 n1),(ol n27 n26),(oq n28 (.call (.c (.fn n104 [] [])) [(k n0),(.t n25),(.t n27)] .borrow)),(oq n29 (.un .not (.t n28))),(om n21 n29)])
 (.cond (.t n21) (.seq (.ops [(oq n2 (.mv (k n4)))])
 .ret)
 .skip)))))))
 (.seq (.seq (.ops [(of n30 n1 n1),(ol n31 n30),(oq n32 (.len (.t n31))),(oq n33 (.mv (k n0)))])
 (.block n1 (.loop (.seq (.ops [(oq n34 (.bin .lss (.t n33) (.t n32)))])
 (.seq (.cond (.t n34) .skip
 (.exit n1))
 (.seq (.block n2 (.seq (.ops [(om n35 n33),(om n3 n35)])
 (.seq (.ops [(oq n36 (.load (some n3) (.t n1))),(om n37 n3),(oq n38 (.call (.c (.fn n105 [] [])) [(.t n36),(.t n37)] .borrow)),(oq n39 (.un .not (.t n38)))])
 (.cond (.t n39) (.seq (.ops [(oq n2 (.mv (k n4)))])
 .ret)
 .skip))))
 (.ops [(oq n40 (.bin .add (.t n33) (k n1))),(om n33 n40)])))))))
 (.seq (.ops [(oq n2 (.mv (k n0)))])
 .ret))))
def x69 : XFn := ⟨a69,n41,[(.t n2)],c69⟩
def a70 : Ann := ⟨[(n2,n3,n3)],[]⟩
def c70 : ICode :=
 (.seq (.ops [(ol n4 n1),(om n5 n0),(oq n6 (.iaddr n1 (.t n4) (.t n5))),(ol n7 n6),(oq n8 (.un .not (.t n7)))])
 (.cond (.t n8) (.seq (.ops [(ol n9 n1),(om n10 n0),(oq n11 (.iaddr n1 (.t n9) (.t n10))),⟨none,none,.store n1 (.t n11) (.c (.d (.bool true)))⟩])
 (.ops [(ol n12 n2),(om n13 n0),(oq n14 (.bslice n1 n1 [(.int .i64 (.l (i n0)))] [(n0,(.t n13))] false)),(oq n15 (.appendN n1 n8 (.t n12) (.t n14) true)),⟨none,none,.store n1 (.t n2) (.t n15)⟩]))
 .skip))
def x70 : XFn := ⟨a70,n16,[],c70⟩
def a71 : Ann := ⟨[],[]⟩
def c71 : ICode :=
 (.seq (.ops [(oq n1 (.box (.t n0))),(oq n2 (.mv (.c (.d .nil))))])
 (.seq (.ops [(of n4 n1 n1),(ol n5 n4),(of n6 n2 n1),(ol n7 n6),(of n8 n3 n1),(ol n9 n8),(oq n10 (.bslice n1 n3 [(.int .i64 (.l (i n0)))] [(n0,(.t n5)),(n1,(.t n7)),(n2,(.t n9))] false)),(om n3 n10)])
 (.seq (.block n0 (.seq (.ops [(of n12 n0 n1),(ol n13 n12),(oq n14 (.bin .lss (.t n13) (.c (.d (.int .u8 (.l (i n5))))))),(om n11 n14)])
 (.cond (.t n11) (.seq (.ops [(oq n2 (.mv (.c (.d .nil))))])
 .ret)
 (.seq (.ops [(of n16 n0 n1),(ol n17 n16),(oq n18 (.bin .leq (.t n17) (.c (.d (.int .u8 (.l (i n6))))))),(om n15 n18)])
 (.cond (.t n15) (.seq (.ops [(om n19 n3),(oq n20 (.slice n1 (.t n19) none (some (k n1)) none)),(om n2 n20)])
 .ret)
 (.seq (.ops [(of n22 n0 n1),(ol n23 n22),(oq n24 (.bin .lss (.t n23) (.c (.d (.int .u8 (.l (i n17))))))),(om n21 n24)])
 (.cond (.t n21) (.seq (.ops [(om n25 n3),(oq n26 (.slice n1 (.t n25) none (some (k n2)) none)),(om n2 n26)])
 .ret)
 .skip)))))))
 (.seq (.ops [(om n27 n3),(om n2 n27)])
 .ret))))
def x71 : XFn := ⟨a71,n28,[(.t n2)],c71⟩
def a78 : Ann := ⟨[(n1,n2,n2)],[]⟩
def c78 : ICode :=
 (.seq (.ops [(oq n3 (.box (.t n0))),(oq n4 (.box (.t n1))),(oq n6 (.mv (.c (.d (.bool false)))))])
 (.seq (.ops [(om n7 n2),(oq n8 (.mkfn n108 [] [(.t n3),(.t n4)])),(oq n9 (.call (.c (.fn n107 [] [])) [(.t n7),(.t n8)] .raw)),(om n6 n9)])
 .ret))
def x78 : XFn := ⟨a78,n10,[(.t n6)],c78⟩
def a79 : Ann := ⟨[(n1,n3,n0)],[]⟩
def c79 : ICode :=
 (.seq (.ops [(oq n2 (.box (.t n0))),(oq n4 (.mv (.c (.d (.bool false)))))])
 (.seq (.ops [(of n5 n0 n2),(ol n6 n5),(om n7 n1),(oq n8 (.call (.c (.fn n109 [] [])) [(.t n6),(.t n7)] .borrow)),(oq n9 (.bin .eql (.t n8) (k n0))),(om n4 n9)])
 .ret))
def x79 : XFn := ⟨a79,n10,[(.t n4)],c79⟩
def a81 : Ann := ⟨[(n2,n4,n0),(n8,n4,n3),(n14,n1,n3),(n17,n5,n2),(n18,n4,n3),(n19,n1,n0),(n24,n18,n0),(n26,n4,n3)],[]⟩
def c81 : ICode :=
 (.seq (.ops [(oq n4 (.box (.t n0))),(oq n8 (.alloc [.nil,.nil,.nil,.nil,(.int .i64 (.l (i n0)))])),(oq n9 (.mv (k n0)))])
 (.seq (.seq (.ops [(om n17 n2),(of n18 n1 n4),(ol n19 n18),(oq n20 (.len (.t n19))),(oq n21 (.bin .eql (.t n17) (.t n20)))])
 (.cond (.t n21) (.seq (.ops [(om n22 n1),(of n23 n0 n4),(ol n24 n23),(om n25 n3),(oq n26 (.call (.c (.fn n112 [] [])) [(.t n24),(.t n25)] .borrow)),(oq n27 (.iaddr n2 (.t n22) (.t n26))),(oq n28 (.load (some n2) (.t n27))),(oq n10 (.alloc [(.int .u8 (.l (i n0))),(.int .i64 (.l (i n0)))])),⟨none,none,.store n2 (.t n10) (.t n28)⟩])
 (.seq (.seq (.ops [(oq n11 (.mv (k n0)))])
 (.block n0 (.loop (.seq (.seq (.ops [(om n29 n11),(of n30 n2 n4),(ol n31 n30),(oq n32 (.len (.t n31))),(oq n33 (.bin .lss (.t n29) (.t n32)))])
 (.cond (.t n33) .skip
 (.exit n0)))
 (.seq (.block n1 (.seq (.draw n0 [(dz (of n36 n2 n4) n0 n0),(dz (om n38 n11) n2 n0),(dz (ol n37 n36) n1 n0),(dz (oq n39 (.iaddr n2 (.t n37) (.t n38))) n3 n0),(dz (oq n40 (.load (some n2) (.t n39))) n4 n0),(dz (oq n41 (.load (some n2) (.t n10))) n5 n0),(dz (oq n42 (.aeq false [.u8,.i64] (.t n40) (.t n41))) n6 n0)])
 (.cond (.t n42) (.seq (.ops [(oq n43 (.load (some n5) (.t n4))),(om n44 n11),(oq n45 (.bin .sub (.c (.d (.int .i64 (.l (.negSucc n0))))) (.t n44))),⟨none,none,.store n5 (.t n8) (.t n43)⟩,(om n9 n45)])
 .ret)
 .skip)))
 (.ops [(om n34 n11),(oq n35 (.bin .add (.t n34) (k n1))),(om n11 n35)]))))))
 (.seq (.ops [(of n46 n2 n4),(ol n47 n46),(oq n48 (.load (some n2) (.t n10))),(oq n49 (.bslice n2 n1 [(.int .u8 (.l (i n0))),(.int .i64 (.l (i n0)))] [(n0,(.t n48))] false)),(oq n50 (.appendN n2 n16 (.t n47) (.t n49) true)),(of n51 n2 n4),⟨none,none,.store n1 (.t n51) (.t n50)⟩])
 (.seq (.draw n0 [(dq (of n53 n2 n4) n1 n0 [] [] false true),(dz (oq n52 (.load (some n5) (.t n4))) n0 n0),(dq (ol n54 n53) n2 n0 [] [] false true),(dq (oq n55 (.len (.t n54))) n3 n0 [] [] false true),(dq (oq n56 (.un .neg (.t n55))) n4 n0 [] [] false true),⟨⟨none,none,.store n5 (.t n8) (.t n52)⟩,n5,n0,[],[n0],false,false⟩,(dz (om n9 n56) n6 n0)])
 .ret))))
 .skip))
 (.seq (.ops [(of n57 n1 n4),(ol n58 n57),(om n59 n2),(oq n60 (.iaddr n1 (.t n58) (.t n59))),(ol n61 n60),(oq n62 (.build [(.int .i64 (.l (i n0))),.nil] [(n0,n1,(.t n61))])),(oq n12 (.alloc [(.int .i64 (.l (i n0))),.nil])),⟨none,none,.store n2 (.t n12) (.t n62)⟩])
 (.seq (.seq (.ops [(oq n13 (.mv (k n0)))])
 (.block n2 (.loop (.seq (.seq (.ops [(om n63 n13),(of n64 n0 n4),(ol n65 n64),(of n66 n0 n12),(ol n67 n66),(oq n68 (.iaddr n1 (.t n65) (.t n67))),(ol n69 n68),(oq n70 (.bin .lss (.t n63) (.t n69)))])
 (.cond (.t n70) .skip
 (.exit n2)))
 (.seq (.block n3 (.seq (.ops [(om n73 n3),(oq n74 (.appendN n1 n8 (.c (.d .nil)) (.t n73) true)),(om n14 n74)])
 (.seq (.ops [(om n75 n14),(of n76 n0 n12),(ol n77 n76),(om n78 n13),(oq n79 (.iaddr n1 (.t n75) (.t n77))),⟨none,none,.store n1 (.t n79) (.t n78)⟩])
 (.seq (.ops [(oq n15 (.mv (k n0)))])
 (.seq (.ops [(oq n81 (.load (some n5) (.t n4))),(om n82 n1),(om n83 n2),(oq n84 (.bin .add (.t n83) (k n1))),(om n85 n14),(oq n86 (.call (.c (.fn n81 [] [])) [(.t n81),(.t n82),(.t n84),(.t n85)] .raw)),(om n80 n86),(oq n87 (.extract (.t n80) n0)),(oq n88 (.extract (.t n80) n1)),⟨none,none,.store n5 (.t n4) (.t n87)⟩,(om n15 n88)])
 (.ops [(of n89 n1 n12),(ol n90 n89),(om n91 n15),(oq n92 (.bslice n1 n1 [(.int .i64 (.l (i n0)))] [(n0,(.t n91))] false)),(oq n93 (.appendN n1 n8 (.t n90) (.t n92) true)),(of n94 n1 n12),⟨none,none,.store n1 (.t n94) (.t n93)⟩]))))))
 (.ops [(om n71 n13),(oq n72 (.bin .add (.t n71) (k n1))),(om n13 n72)]))))))
 (.seq (.seq (.ops [(oq n95 (.load (some n2) (.t n12))),(oq n96 (.call (.c (.fn n113 [] [])) [(.t n95)] .borrow))])
 (.cond (.t n96) (.seq (.draw n0 [(dq (of n98 n1 n12) n1 n0 [] [] false true),(dz (oq n97 (.load (some n5) (.t n4))) n0 n0),(dq (ol n99 n98) n2 n0 [] [] false true),(dq (oq n100 (.iaddr n1 (.t n99) (k n0))) n3 n0 [] [] false true),(dq (ol n101 n100) n4 n0 [] [] false true),⟨⟨none,none,.store n5 (.t n8) (.t n97)⟩,n5,n0,[],[n0],false,false⟩,(dz (om n9 n101) n6 n0)])
 .ret)
 .skip))
 (.seq (.seq (.ops [(oq n16 (.mv (k n0)))])
 (.block n4 (.loop (.seq (.seq (.ops [(om n102 n16),(of n103 n3 n4),(ol n104 n103),(oq n105 (.len (.t n104))),(oq n106 (.bin .lss (.t n102) (.t n105)))])
 (.cond (.t n106) .skip
 (.exit n4)))
 (.seq (.block n5 (.seq (.draw n0 [(dz (of n109 n3 n4) n0 n0),(dz (om n111 n16) n2 n0),(dz (of n115 n0 n12) n6 n0),(dz (ol n110 n109) n1 n0),(dz (oq n112 (.iaddr n2 (.t n110) (.t n111))) n3 n0),(dz (of n113 n0 n112) n4 n0),(dz (ol n114 n113) n5 n0),(dz (ol n116 n115) n7 n0),(dz (oq n117 (.bin .eql (.t n114) (.t n116))) n8 n0),(dz (om n118 n117) n9 n0),(dz (og n119 n118 true (.faddr n3 (.t n4))) n10 n0),(dz (og n121 n118 true (.mv (.t n16))) n12 n0),(dz (og n125 n118 true (.faddr n1 (.t n12))) n16 n0),(dz (og n120 n118 true (.load none (.t n119))) n11 n0),(dz (og n122 n118 true (.iaddr n2 (.t n120) (.t n121))) n13 n0),(dz (og n123 n118 true (.faddr n1 (.t n122))) n14 n0),(dz (og n124 n118 true (.load none (.t n123))) n15 n0),(dz (og n126 n118 true (.load none (.t n125))) n17 n0),(dq (og n127 n118 true (.call (.c (.fn n23 [] [])) [(.t n124),(.t n126)] .borrow)) n18 n0 [] [n15,n17,n9,n14,n13,n11,n12,n10,n8,n5,n7,n4,n3,n1,n2,n0,n6,n16] true false),(dz (oq n128 (.pick (.t n118) (.t n127) (.c (.d (.bool false))))) n19 n0)])
 (.cond (.t n128) (.seq (.ops [(oq n129 (.load (some n5) (.t n4))),(om n130 n16),⟨none,none,.store n5 (.t n8) (.t n129)⟩,(om n9 n130)])
 .ret)
 .skip)))
 (.ops [(om n107 n16),(oq n108 (.bin .add (.t n107) (k n1))),(om n16 n108)]))))))
 (.seq (.ops [(of n131 n3 n4),(ol n132 n131),(oq n133 (.load (some n2) (.t n12))),(oq n134 (.bslice n2 n1 [(.int .i64 (.l (i n0))),.nil] [(n0,(.t n133))] false)),(oq n135 (.appendN n2 n32 (.t n132) (.t n134) true)),(of n136 n3 n4),⟨none,none,.store n1 (.t n136) (.t n135)⟩])
 (.seq (.draw n0 [(dq (of n138 n3 n4) n1 n0 [] [] false true),(dz (oq n137 (.load (some n5) (.t n4))) n0 n0),(dq (ol n139 n138) n2 n0 [] [] false true),(dq (oq n140 (.len (.t n139))) n3 n0 [] [] false true),(dq (oq n141 (.bin .sub (.t n140) (k n1))) n4 n0 [] [] false true),⟨⟨none,none,.store n5 (.t n8) (.t n137)⟩,n5,n0,[],[n0],false,false⟩,(dz (om n9 n141) n6 n0)])
 .ret))))))))
def x81 : XFn := ⟨a81,n142,[(.c n8 (some n5)),(.t n9)],c81⟩
def a82 : Ann := ⟨[],[]⟩
def c82 : ICode :=
 (.seq (.ops [(oq n4 (.mv (.c (.d (.bool false)))))])
 (.seq (.seq (.ops [(om n6 n0),(oq n7 (.len (.t n6))),(om n8 n1),(oq n9 (.len (.t n8))),(oq n10 (.bin .neq (.t n7) (.t n9)))])
 (.cond (.t n10) (.seq (.ops [(oq n4 (.mv (.c (.d (.bool false)))))])
 .ret)
 .skip))
 (.seq (.seq (.ops [(oq n5 (.mv (k n0)))])
 (.block n0 (.loop (.seq (.seq (.ops [(om n11 n5),(om n12 n0),(oq n13 (.len (.t n12))),(oq n14 (.bin .lss (.t n11) (.t n13)))])
 (.cond (.t n14) .skip
 (.exit n0)))
 (.seq (.block n1 (.seq (.draw n0 [(dz (om n17 n0) n0 n0),(dz (om n18 n5) n1 n0),(dz (oq n19 (.iaddr n2 (.t n17) (.t n18))) n2 n0),(dz (om n21 n1) n4 n0),(dz (om n22 n5) n5 n0),(dz (oq n23 (.iaddr n2 (.t n21) (.t n22))) n6 n0),(dz (oq n20 (.load (some n2) (.t n19))) n3 n0),(dz (oq n24 (.load (some n2) (.t n23))) n7 n0),(dz (oq n25 (.aeq true [.u8,.i64] (.t n20) (.t n24))) n8 n0)])
 (.cond (.t n25) (.seq (.ops [(oq n4 (.mv (.c (.d (.bool false)))))])
 .ret)
 .skip)))
 (.ops [(om n15 n5),(oq n16 (.bin .add (.t n15) (k n1))),(om n5 n16)]))))))
 (.seq (.ops [(oq n4 (.mv (.c (.d (.bool true)))))])
 .ret))))
def x82 : XFn := ⟨a82,n26,[(.t n4)],c82⟩
def a87 : Ann := ⟨[(n1,n1,n1),(n4,n1,n1)],[]⟩
def c87 : ICode :=
 (.seq (.ops [(oq n1 (.box (.t n0))),(oq n2 (.mv (.c (.d .nil)))),(oq n3 (.mv (k n0)))])
 (.seq (.ops [(oq n7 (.load (some n5) (.t n1))),(oq n8 (.call (.c (.fn n118 [] [])) [(.t n7)] .share)),(om n6 n8),(oq n9 (.extract (.t n6) n0)),(oq n10 (.extract (.t n6) n1)),(oq n4 (.alloc [.nil,.nil,.nil,.nil,.nil,.nil,(.int .i64 (.l (i n0)))])),⟨none,none,.store n7 (.t n4) (.t n9)⟩,(om n5 n10)])
 (.seq (.seq (.ops [(om n11 n5),(oq n12 (.bin .neq (.t n11) (k n0)))])
 (.cond (.t n12) (.seq (.ops [(om n13 n5),(oq n2 (.mv (.c (.d .nil)))),(om n3 n13)])
 .ret)
 .skip))
 (.seq (.ops [(oq n14 (.load (some n7) (.t n4))),(oq n15 (.call (.c (.fn n119 [] [])) [(.t n14)] .share)),(om n2 n15),(oq n3 (.mv (k n0)))])
 .ret))))
def x87 : XFn := ⟨a87,n16,[(.t n2),(.t n3)],c87⟩
def a88 : Ann := ⟨[(n1,n2,n2)],[]⟩
def c88 : ICode :=
 (.seq (.ops [(oq n3 (.box (.t n1))),(oq n4 (.mv (.c (.d (.bool false)))))])
 (.seq (.ops [(om n5 n0),(oq n6 (.mkfn n121 [] [(.t n3)])),(oq n7 (.call (.c (.fn n120 [] [])) [(.t n5),(.t n6)] .raw)),(oq n8 (.un .not (.t n7))),(om n4 n8)])
 .ret))
def x88 : XFn := ⟨a88,n9,[(.t n4)],c88⟩
def a89 : Ann := ⟨[(n1,n4,n0),(n1,n10,n0)],[]⟩
def c89 : ICode :=
 (.seq (.ops [(oq n2 (.box (.t n0))),(oq n3 (.box (.t n1))),(oq n4 (.mv (.c (.d (.bool false)))))])
 (.seq (.ops [(of n5 n0 n3),(ol n6 n5),(of n7 n0 n2),(ol n8 n7),(oq n9 (.call (.c (.fn n122 [] [])) [(.t n6),(.t n8)] .borrow)),(om n10 n9),(og n11 n10 true (.faddr n1 (.t n3))),(og n12 n10 true (.load none (.t n11))),(og n13 n10 true (.faddr n1 (.t n2))),(og n14 n10 true (.load none (.t n13))),(og n15 n10 true (.call (.c (.fn n122 [] [])) [(.t n12),(.t n14)] .borrow)),(oq n16 (.pick (.t n10) (.t n15) (.c (.d (.bool false))))),(om n4 n16)])
 .ret))
def x89 : XFn := ⟨a89,n17,[(.t n4)],c89⟩
def a92 : Ann := ⟨[(n4,n4,n2),(n6,n4,n2),(n8,n4,n2),(n10,n4,n2),(n12,n4,n2),(n16,n4,n2),(n17,n13,n2),(n18,n5,n2),(n20,n5,n2),(n26,n5,n2),(n29,n6,n2)],[]⟩
def c92 : ICode :=
 (.seq (.ops [(oq n10 (.mv (.c (.d (.bool true)))))])
 (.seq (.ops [(oq n11 (.mv (.c (.d (.bool true)))))])
 (.block n0 (.loop (.block n1 (.seq (.ops [(om n21 n2),(om n22 n1),(oq n23 (.bin .sub (.t n21) (.t n22))),(om n12 n23)])
 (.seq (.seq (.ops [(om n24 n12),(oq n25 (.bin .leq (.t n24) (k n12)))])
 (.cond (.t n25) (.seq (.ops [(om n26 n0),(om n27 n1),(om n28 n2),(om n29 n4),(oq n30 (.call (.c (.fn n123 [] [])) [(.t n26),(.t n27),(.t n28),(.t n29)] .raw))])
 .ret)
 .skip))
 (.seq (.seq (.ops [(om n31 n3),(oq n32 (.bin .eql (.t n31) (k n0)))])
 (.cond (.t n32) (.seq (.ops [(om n33 n0),(om n34 n1),(om n35 n2),(om n36 n4),(oq n37 (.call (.c (.fn n124 [] [])) [(.t n33),(.t n34),(.t n35),(.t n36)] .raw))])
 .ret)
 .skip))
 (.seq (.seq (.ops [(om n38 n10),(oq n39 (.un .not (.t n38)))])
 (.cond (.t n39) (.seq (.ops [(om n40 n0),(om n41 n1),(om n42 n2),(om n43 n4),(oq n44 (.call (.c (.fn n125 [] [])) [(.t n40),(.t n41),(.t n42),(.t n43)] .raw))])
 (.ops [(om n45 n3),(oq n46 (.bin .sub (.t n45) (k n1))),(om n3 n46)]))
 .skip))
 (.seq (.ops [(om n48 n0),(om n49 n1),(om n50 n2),(om n51 n4),(oq n52 (.call (.c (.fn n126 [] [])) [(.t n48),(.t n49),(.t n50),(.t n51)] .raw)),(om n47 n52),(oq n53 (.extract (.t n47) n0)),(oq n54 (.extract (.t n47) n1)),(om n13 n53),(om n14 n54)])
 (.seq (.seq (.ops [(om n55 n14),(oq n56 (.bin .eql (.t n55) (k n2)))])
 (.cond (.t n56) (.seq (.ops [(om n57 n0),(om n58 n1),(om n59 n2),(om n60 n4),(oq n61 (.call (.c (.fn n127 [] [])) [(.t n57),(.t n58),(.t n59),(.t n60)] .raw))])
 (.seq (.ops [(om n62 n2),(oq n63 (.bin .sub (.t n62) (k n1))),(om n64 n13),(om n65 n1),(oq n66 (.bin .sub (.t n64) (.t n65))),(oq n67 (.bin .sub (.t n63) (.t n66))),(om n13 n67)])
 (.ops [(oq n14 (.mv (k n1)))])))
 .skip))
 (.seq (.seq (.ops [(om n68 n10),(om n69 n68),(og n70 n69 true (.mv (.t n11))),(oq n71 (.pick (.t n69) (.t n70) (.c (.d (.bool false))))),(om n72 n71),(og n73 n72 true (.mv (.t n14))),(og n74 n72 true (.bin .eql (.t n73) (k n1))),(oq n75 (.pick (.t n72) (.t n74) (.c (.d (.bool false)))))])
 (.cond (.t n75) (.seq (.ops [(om n76 n0),(om n77 n1),(om n78 n2),(om n79 n4),(oq n80 (.call (.c (.fn n128 [] [])) [(.t n76),(.t n77),(.t n78),(.t n79)] .raw))])
 (.cond (.t n80) .ret
 .skip))
 .skip))
 (.seq (.seq (.draw n0 [(dz (om n81 n1) n0 n0),(dz (oq n82 (.bin .gtr (.t n81) (k n0))) n1 n0),(dz (om n83 n82) n2 n0),(dz (og n84 n83 true (.mv (.t n4))) n3 n0),(dz (og n85 n83 true (.mv (.t n0))) n4 n0),(dz (og n86 n83 true (.mv (.t n1))) n5 n0),(dz (og n87 n83 true (.bin .sub (.t n86) (k n1))) n6 n0),(dz (og n88 n83 true (.iaddr n2 (.t n85) (.t n87))) n7 n0),(dz (og n90 n83 true (.mv (.t n0))) n9 n0),(dz (og n91 n83 true (.mv (.t n13))) n10 n0),(dz (og n92 n83 true (.iaddr n2 (.t n90) (.t n91))) n11 n0),(dz (og n89 n83 true (.load (some n2) (.t n88))) n8 n0),(dz (og n93 n83 true (.load (some n2) (.t n92))) n12 n0),(dq (og n94 n83 true (.call (.t n84) [(.t n89),(.t n93)] .raw)) n13 n0 [] [n3,n8,n12,n2,n1,n0,n7,n4,n6,n5,n11,n9,n10] true false),(dz (og n95 n83 true (.bin .lss (.t n94) (k n0))) n14 n0),(dz (og n96 n83 true (.un .not (.t n95))) n15 n0),(dz (oq n97 (.pick (.t n83) (.t n96) (.c (.d (.bool false))))) n16 n0)])
 (.cond (.t n97) (.seq (.ops [(om n98 n0),(om n99 n1),(om n100 n2),(om n101 n13),(om n102 n4),(oq n103 (.call (.c (.fn n129 [] [])) [(.t n98),(.t n99),(.t n100),(.t n101),(.t n102)] .raw)),(om n15 n103)])
 (.seq (.ops [(om n104 n15),(om n1 n104)])
 (.exit n1)))
 .skip))
 (.seq (.ops [(om n106 n0),(om n107 n1),(om n108 n2),(om n109 n13),(om n110 n4),(oq n111 (.call (.c (.fn n130 [] [])) [(.t n106),(.t n107),(.t n108),(.t n109),(.t n110)] .raw)),(om n105 n111),(oq n112 (.extract (.t n105) n0)),(oq n113 (.extract (.t n105) n1)),(om n16 n112),(om n17 n113)])
 (.seq (.ops [(om n114 n17),(om n11 n114)])
 (.seq (.ops [(om n115 n16),(om n116 n1),(oq n117 (.bin .sub (.t n115) (.t n116))),(om n118 n2),(om n119 n16),(oq n120 (.bin .sub (.t n118) (.t n119))),(om n18 n117),(om n19 n120)])
 (.seq (.ops [(om n121 n12),(oq n122 (.bin .quo (.t n121) (k n8))),(om n20 n122)])
 (.seq (.ops [(om n123 n18),(om n124 n19),(oq n125 (.bin .lss (.t n123) (.t n124)))])
 (.cond (.t n125) (.seq (.ops [(om n126 n18),(om n127 n20),(oq n128 (.bin .geq (.t n126) (.t n127))),(om n10 n128)])
 (.seq (.ops [(om n129 n0),(om n130 n1),(om n131 n16),(om n132 n3),(om n133 n4),(oq n134 (.call (.c (.fn n92 [] [])) [(.t n129),(.t n130),(.t n131),(.t n132),(.t n133)] .raw))])
 (.ops [(om n135 n16),(oq n136 (.bin .add (.t n135) (k n1))),(om n1 n136)])))
 (.seq (.ops [(om n137 n19),(om n138 n20),(oq n139 (.bin .geq (.t n137) (.t n138))),(om n10 n139)])
 (.seq (.ops [(om n140 n0),(om n141 n16),(oq n142 (.bin .add (.t n141) (k n1))),(om n143 n2),(om n144 n3),(om n145 n4),(oq n146 (.call (.c (.fn n92 [] [])) [(.t n140),(.t n142),(.t n143),(.t n144),(.t n145)] .raw))])
 (.ops [(om n147 n16),(om n2 n147)]))))))))))))))))))))))
def x92 : XFn := ⟨a92,n148,[],c92⟩
def a93 : Ann := ⟨[(n1,n2,n0),(n2,n1,n0)],[]⟩
def c93 : ICode :=
 (.seq (.ops [(oq n2 (.mv (k n0)))])
 (.seq (.cond (.c (.d (.bool false))) (.seq (.ops [(om n3 n0),(oq n4 (.conv .u32 (.t n3))),(oq n5 (.call (.c (.fn n131 [] [])) [(.t n4)] .borrow)),(om n2 n5)])
 .ret)
 .skip)
 (.seq (.ops [(om n6 n0),(oq n7 (.call (.c (.fn n132 [] [])) [(.t n6)] .borrow)),(om n2 n7)])
 .ret)))
def x93 : XFn := ⟨a93,n8,[(.t n2)],c93⟩
def a94 : Ann := ⟨[],[]⟩
def c94 : ICode :=
 (.seq (.ops [(oq n2 (.mv (.c (.d (.bool false)))))])
 (.seq (.ops [(om n3 n0),(om n4 n0),(oq n5 (.bin .neq (.t n3) (.t n4))),(om n2 n5)])
 .ret))
def x94 : XFn := ⟨a94,n6,[(.t n2)],c94⟩
def a95 : Ann := ⟨[(n1,n2,n0),(n4,n3,n2),(n6,n1,n2),(n11,n6,n0),(n15,n2,n2)],[]⟩
def c95 : ICode :=
 (.seq (.ops [(oq n3 (.box (.t n0))),(oq n4 (.box (.t n1))),(oq n5 (.box (.t n2))),(oq n6 (.alloc [.nil,.nil,.nil,.nil,(.int .i64 (.l (i n0)))])),(oq n7 (.mv (k n0)))])
 (.seq (.seq (.ops [(ol n15 n3),(ol n16 n4),(oq n17 (.call (.c (.fn n109 [] [])) [(.t n15),(.t n16)] .borrow)),(om n8 n17)])
 (.seq (.ops [(om n18 n8),(oq n19 (.bin .neq (.t n18) (k n0)))])
 (.cond (.t n19) (.seq (.ops [(oq n20 (.build [.nil,.nil,.nil,.nil,(.int .i64 (.l (i n0)))] [])),(om n21 n8),⟨none,none,.store n5 (.t n6) (.t n20)⟩,(om n7 n21)])
 .ret)
 .skip)))
 (.seq (.ops [(ol n22 n3),(ol n23 n4),(oq n24 (.build [.nil,.nil] [(n0,n1,(.t n22)),(n1,n1,(.t n23))])),(oq n25 (.call (.c (.fn n133 [] [])) [(.t n24)] .raw)),(oq n9 (.alloc [(.raw (.pointer none))])),⟨none,none,.store n1 (.t n9) (.t n25)⟩])
 (.seq (.ops [(ol n26 n3),(oq n27 (.len (.t n26))),(oq n28 (.mkslice n1 [(.int .i64 (.l (i n0)))] n8 (.t n27))),(oq n10 (.alloc [.nil])),(oq n11 (.alloc [(.int .i64 (.l (i n0)))])),⟨none,none,.store n1 (.t n10) (.t n28)⟩,⟨none,none,.store n1 (.t n11) (k n1)⟩])
 (.seq (.seq (.ops [(ol n29 n3),(oq n30 (.call (.c (.fn n134 [] [])) [(.t n29)] .raw))])
 (.block n0 (.range (.t n30) [n31,n32] (.seq (.ops [(om n12 n31)])
 (.ops [(om n13 n32)])) (.block n1 (.seq (.ops [(ol n33 n10),(om n34 n12),(ol n35 n11),(oq n36 (.iaddr n1 (.t n33) (.t n34))),⟨none,none,.store n1 (.t n36) (.t n35)⟩])
 (.ops [(ol n37 n11),(om n38 n13),(oq n39 (.bin .mul (.t n37) (.t n38))),⟨none,none,.store n1 (.t n11) (.t n39)⟩]))))))
 (.seq (.seq (.ops [(ol n40 n5),(oq n41 (.len (.t n40))),(ol n42 n11),(oq n43 (.bin .neq (.t n41) (.t n42))),(om n44 n43),(og n45 n44 false (.load none (.t n5))),(og n46 n44 false (.call (.c (.fn n135 [] [])) [(.t n45),(.c (.fn n136 [] []))] .borrow)),(og n47 n44 false (.un .not (.t n46))),(oq n48 (.pick (.t n44) (.c (.d (.bool true))) (.t n47)))])
 (.cond (.t n48) (.seq (.ops [(oq n49 (.build [.nil,.nil,.nil,.nil,(.int .i64 (.l (i n0)))] [])),⟨none,none,.store n5 (.t n6) (.t n49)⟩,(oq n7 (.mv (k n4)))])
 .ret)
 .skip))
 (.seq (.ops [(oq n14 (.alloc [(.raw .nilFunc)]))])
 (.seq (.ops [(oq n50 (.mkfn n137 [] [(.t n4),(.t n9),(.t n5),(.t n3),(.t n14),(.t n10)])),⟨none,none,.store n1 (.t n14) (.t n50)⟩])
 (.seq (.draw n0 [(dq (ol n51 n9) n0 n0 [] [] false true),(dz (ol n52 n14) n1 n0),(dq (oq n53 (.call (.t n52) [(k n0),(k n0)] .raw)) n2 n0 [] [n1] false false),(dz (oq n54 (.nilchk (.t n51))) n3 n0),(dz (of n55 n2 n54) n4 n0),(dz (of n56 n4 n55) n5 n0),⟨⟨none,none,.store n1 (.t n56) (.t n53)⟩,n6,n0,[],[n5,n2,n0,n1,n4,n3],true,false⟩])
 (.seq (.ops [(ol n57 n9),(oq n58 (.nilchk (.t n57))),(of n59 n2 n58),(oq n60 (.load (some n5) (.t n59))),⟨none,none,.store n5 (.t n6) (.t n60)⟩,(oq n7 (.mv (k n0)))])
 .ret))))))))))
def x95 : XFn := ⟨a95,n61,[(.c n6 (some n5)),(.t n7)],c95⟩
def a96 : Ann := ⟨[],[]⟩
def c96 : ICode :=
 (.seq (.ops [(oq n4 (.mv (k n0)))])
 (.seq (.seq (.ops [(om n6 n0),(oq n7 (.len (.t n6))),(oq n8 (.mv (k n0)))])
 (.block n0 (.loop (.seq (.ops [(oq n9 (.bin .lss (.t n8) (.t n7)))])
 (.seq (.cond (.t n9) .skip
 (.exit n0))
 (.seq (.block n1 (.seq (.ops [(om n10 n8),(om n5 n10)])
 (.seq (.ops [(om n11 n1),(om n12 n0),(om n13 n5),(oq n14 (.iaddr n1 (.t n12) (.t n13))),(ol n15 n14),(oq n16 (.bin .eql (.t n11) (.t n15)))])
 (.cond (.t n16) (.seq (.ops [(om n17 n5),(om n4 n17)])
 .ret)
 .skip))))
 (.ops [(oq n18 (.bin .add (.t n8) (k n1))),(om n8 n18)])))))))
 (.seq (.ops [(oq n4 (.mv (.c (.d (.int .i64 (.l (.negSucc n0)))))))])
 .ret)))
def x96 : XFn := ⟨a96,n19,[(.t n4)],c96⟩
def a97 : Ann := ⟨[(n1,n5,n2),(n5,n6,n2),(n6,n4,n1)],[]⟩
def c97 : ICode :=
 (.seq (.ops [(oq n6 (.mv (.c (.d .nil))))])
 (.seq (.ops [(om n8 n0),(om n9 n1),(om n10 n2),(om n11 n0),(oq n12 (.len (.t n11))),(oq n13 (.slchk n1 (.t n8) (some (.t n9)) (some (.t n10)) (some (.t n12))))])
 (.seq (.seq (.ops [(om n14 n1),(om n15 n2),(oq n16 (.bin .eql (.t n14) (.t n15)))])
 (.cond (.t n16) (.seq (.ops [(om n17 n0),(om n6 n17)])
 .ret)
 .skip))
 (.seq (.ops [(om n18 n0),(oq n19 (.len (.t n18))),(om n7 n19)])
 (.seq (.draw n0 [(dz (om n20 n0) n0 n0),(dz (om n21 n1) n1 n0),(dz (oq n22 (.slice n1 (.t n20) none (some (.t n21)) none)) n2 n0),(dz (om n23 n0) n3 n0),(dz (om n24 n2) n4 n0),(dz (oq n25 (.slice n1 (.t n23) (some (.t n24)) none none)) n5 n0),(dq (oq n26 (.appendIn n1 (.t n22) (.t n25))) n6 n0 [] [n2,n5,n0,n1,n3,n4] true false),(dz (om n0 n26) n7 n0)])
 (.seq (.ops [(om n27 n0),(om n28 n0),(oq n29 (.len (.t n28))),(om n30 n7),(oq n31 (.slicex n1 (.t n27) (some (.t n29)) (some (.t n30)))),⟨none,none,.clear n1 [(.int .i64 (.l (i n0)))] (.t n31)⟩])
 (.seq (.ops [(om n32 n0),(om n6 n32)])
 .ret)))))))
def x97 : XFn := ⟨a97,n33,[(.t n6)],c97⟩
def a98 : Ann := ⟨[(n3,n0,n1),(n3,n2,n3)],[]⟩
def c98 : ICode :=
 (.seq (.ops [(oq n2 (.mv (.c (.d .nil))))])
 (.seq (.seq (.ops [(om n3 n0),(oq n4 (.isnil false (.t n3)))])
 (.cond (.t n4) (.seq (.ops [(oq n2 (.mv (.c (.d .nil))))])
 .ret)
 .skip))
 (.seq (.ops [(oq n5 (.bnew n1)),(om n6 n0),(oq n7 (.appendN n1 n8 (.t n5) (.t n6) true)),(om n2 n7)])
 .ret)))
def x98 : XFn := ⟨a98,n8,[(.t n2)],c98⟩
def a99 : Ann := ⟨[(n7,n2,n2),(n9,n8,n3),(n13,n4,n1),(n14,n6,n0),(n19,n4,n2)],[]⟩
def c99 : ICode :=
 (.seq (.ops [(oq n6 (.mv (.c (.d .nil))))])
 (.seq (.ops [(om n10 n0),(om n11 n1),(oq n12 (.slice n1 (.t n10) (some (.t n11)) none none))])
 (.seq (.ops [(om n13 n2),(oq n14 (.len (.t n13))),(om n7 n14)])
 (.seq (.seq (.ops [(om n15 n7),(oq n16 (.bin .eql (.t n15) (k n0)))])
 (.cond (.t n16) (.seq (.ops [(om n17 n0),(om n6 n17)])
 .ret)
 .skip))
 (.seq (.ops [(om n18 n0),(oq n19 (.len (.t n18))),(om n8 n19)])
 (.seq (.seq (.ops [(om n20 n1),(om n21 n8),(oq n22 (.bin .eql (.t n20) (.t n21)))])
 (.cond (.t n22) (.seq (.ops [(om n23 n0),(om n24 n2),(oq n25 (.appendIn n1 (.t n23) (.t n24))),(om n6 n25)])
 .ret)
 .skip))
 (.seq (.seq (.ops [(om n26 n8),(om n27 n7),(oq n28 (.bin .add (.t n26) (.t n27))),(om n29 n0),(oq n30 (.cap (.t n29))),(oq n31 (.bin .gtr (.t n28) (.t n30)))])
 (.cond (.t n31) (.seq (.ops [(om n32 n0),(om n33 n1),(oq n34 (.slice n1 (.t n32) none (some (.t n33)) none)),(om n35 n8),(om n36 n7),(oq n37 (.bin .add (.t n35) (.t n36))),(om n38 n1),(oq n39 (.bin .sub (.t n37) (.t n38))),(oq n40 (.bad)),(om n9 n40)])
 (.seq (.ops [(om n41 n9),(om n42 n1),(oq n43 (.slice n1 (.t n41) (some (.t n42)) none none)),(om n44 n2),(oq n45 (.copy n1 (.t n43) (.t n44)))])
 (.seq (.draw n0 [(dz (om n46 n9) n0 n0),(dz (om n47 n1) n1 n0),(dz (om n48 n7) n2 n0),(dz (oq n49 (.bin .add (.t n47) (.t n48))) n3 n0),(dz (oq n50 (.slice n1 (.t n46) (some (.t n49)) none none)) n4 n0),(dz (om n51 n0) n5 n0),(dz (om n52 n1) n6 n0),(dz (oq n53 (.slice n1 (.t n51) (some (.t n52)) none none)) n7 n0),(dq (oq n54 (.copy n1 (.t n50) (.t n53))) n8 n0 [] [n4,n7,n0,n3,n1,n2,n5,n6] true false)])
 (.seq (.ops [(om n55 n9),(om n6 n55)])
 .ret))))
 .skip))
 (.seq (.ops [(om n56 n0),(om n57 n8),(om n58 n7),(oq n59 (.bin .add (.t n57) (.t n58))),(oq n60 (.slicex n1 (.t n56) none (some (.t n59)))),(om n0 n60)])
 (.seq (.seq (.ops [(om n61 n2),(om n62 n0),(om n63 n1),(om n64 n7),(oq n65 (.bin .add (.t n63) (.t n64))),(oq n66 (.slice n1 (.t n62) (some (.t n65)) none none)),(oq n67 (.ovl (.t n61) (.t n66))),(oq n68 (.un .not (.t n67)))])
 (.cond (.t n68) (.seq (.draw n0 [(dz (om n69 n0) n0 n0),(dz (om n70 n1) n1 n0),(dz (om n71 n7) n2 n0),(dz (oq n72 (.bin .add (.t n70) (.t n71))) n3 n0),(dz (oq n73 (.slice n1 (.t n69) (some (.t n72)) none none)) n4 n0),(dz (om n74 n0) n5 n0),(dz (om n75 n1) n6 n0),(dz (oq n76 (.slice n1 (.t n74) (some (.t n75)) none none)) n7 n0),(dq (oq n77 (.copy n1 (.t n73) (.t n76))) n8 n0 [] [n4,n7,n0,n3,n1,n2,n5,n6] true false)])
 (.seq (.ops [(om n78 n0),(om n79 n1),(oq n80 (.slice n1 (.t n78) (some (.t n79)) none none)),(om n81 n2),(oq n82 (.copy n1 (.t n80) (.t n81)))])
 (.seq (.ops [(om n83 n0),(om n6 n83)])
 .ret)))
 .skip))
 (.seq (.ops [(om n84 n0),(om n85 n8),(oq n86 (.slice n1 (.t n84) (some (.t n85)) none none)),(om n87 n2),(oq n88 (.copy n1 (.t n86) (.t n87)))])
 (.seq (.ops [(om n89 n0),(om n90 n1),(oq n91 (.slice n1 (.t n89) (some (.t n90)) none none)),(om n92 n7),(oq n93 (.call (.c (.fn n141 [] [])) [(.t n91),(.t n92)] .raw))])
 (.seq (.ops [(om n94 n0),(om n6 n94)])
 .ret))))))))))))
def x99 : XFn := ⟨a99,n95,[(.t n6)],c99⟩
def a100 : Ann := ⟨[(n2,n2,n2),(n6,n2,n0),(n6,n14,n3),(n6,n15,n2)],[]⟩
def c100 : ICode :=
 (.seq (.ops [(oq n5 (.mv (.c (.d (.bool false)))))])
 (.seq (.seq (.ops [(om n7 n0),(oq n8 (.len (.t n7))),(of n9 n0 n1),(ol n10 n9),(oq n11 (.len (.t n10))),(oq n12 (.bin .eql (.t n8) (.t n11)))])
 (.cond (.t n12) (.seq (.ops [(ol n13 n2),(om n14 n0),(oq n15 (.call (.t n13) [(.t n14)] .raw)),(om n5 n15)])
 .ret)
 .skip))
 (.seq (.seq (.ops [(of n16 n0 n1),(ol n17 n16),(oq n18 (.len (.t n17))),(oq n19 (.mv (k n0)))])
 (.block n0 (.loop (.seq (.ops [(oq n20 (.bin .lss (.t n19) (.t n18)))])
 (.seq (.cond (.t n20) .skip
 (.exit n0))
 (.seq (.block n1 (.seq (.ops [(om n21 n19),(om n6 n21)])
 (.seq (.draw n0 [(dz (om n22 n0) n0 n0),(dz (om n23 n6) n1 n0),(dq (oq n24 (.call (.c (.fn n101 [] [])) [(.t n22),(.t n23)] .borrow)) n2 n0 [] [n0,n1] true false),(dz (oq n25 (.un .not (.t n24))) n3 n0),(dz (om n26 n25) n4 n0),(dq (og n28 n26 true (.mv (.t n0))) n6 n0 [] [] false true),(dq (og n29 n26 true (.mv (.t n0))) n7 n0 [] [] false true),(dq (og n30 n26 true (.len (.t n29))) n8 n0 [] [] false true),(dq (og n31 n26 true (.mv (.t n0))) n9 n0 [] [] false true),(dq (og n32 n26 true (.len (.t n31))) n10 n0 [] [] false true),(dq (og n33 n26 true (.slice n1 (.t n28) none (some (.t n30)) (some (.t n32)))) n11 n0 [] [] false true),(dz (og n34 n26 true (.mv (.t n6))) n12 n0),(dq (og n27 n26 true (.load none (.t n3))) n5 n0 [] [] false true),(dq (og n35 n26 true (.bslice n1 n1 [(.int .i64 (.l (i n0)))] [(n0,(.t n34))] false)) n13 n0 [] [n12,n4,n3,n2,n0,n1] false false),(dq (og n36 n26 true (.appendN n1 n8 (.t n33) (.t n35) true)) n14 n0 [] [n11,n13,n4,n6,n8,n10,n3,n2,n0,n1,n7,n9,n12] false false),(dq (og n37 n26 true (.call (.t n27) [(.t n36)] .raw)) n15 n0 [] [n5,n14,n4,n3,n2,n0,n1,n11,n13,n6,n8,n10,n7,n9,n12] true false),(dz (og n38 n26 true (.un .not (.t n37))) n16 n0),(dz (oq n39 (.pick (.t n26) (.t n38) (.c (.d (.bool false))))) n17 n0)])
 (.cond (.t n39) (.seq (.ops [(oq n5 (.mv (.c (.d (.bool false)))))])
 .ret)
 .skip))))
 (.ops [(oq n40 (.bin .add (.t n19) (k n1))),(om n19 n40)])))))))
 (.seq (.ops [(oq n5 (.mv (.c (.d (.bool true)))))])
 .ret))))
def x100 : XFn := ⟨a100,n41,[(.t n5)],c100⟩
def a101 : Ann := ⟨[(n1,n2,n0)],[]⟩
def c101 : ICode :=
 (.seq (.ops [(oq n4 (.mv (.c (.d (.bool false)))))])
 (.seq (.ops [(om n5 n0),(om n6 n1),(oq n7 (.call (.c (.fn n96 [] [])) [(.t n5),(.t n6)] .borrow)),(oq n8 (.bin .geq (.t n7) (k n0))),(om n4 n8)])
 .ret))
def x101 : XFn := ⟨a101,n9,[(.t n4)],c101⟩
def a102 : Ann := ⟨[(n1,n2,n2)],[]⟩
def c102 : ICode :=
 (.seq (.ops [(oq n4 (.mv (.c (.d (.bool false)))))])
 (.seq (.ops [(om n5 n0),(om n6 n1),(oq n7 (.call (.c (.fn n142 [] [])) [(.t n5),(.t n6)] .raw)),(oq n8 (.bin .geq (.t n7) (k n0))),(om n4 n8)])
 .ret))
def x102 : XFn := ⟨a102,n9,[(.t n4)],c102⟩
def a103 : Ann := ⟨[(n1,n5,n0),(n1,n15,n0)],[]⟩
def c103 : ICode :=
 (.seq (.ops [(oq n1 (.box (.t n0))),(oq n2 (.mv (.c (.d (.bool false)))))])
 (.seq (.ops [(of n3 n1 n1),(ol n4 n3),(of n5 n2 n1),(ol n6 n5),(oq n7 (.bslice n1 n2 [(.int .i64 (.l (i n0)))] [(n0,(.t n4)),(n1,(.t n6))] false)),(oq n8 (.call (.c (.fn n104 [] [])) [(.c (.d (.int .i64 (.l (.negSucc n9998))))),(k n9999),(.t n7)] .borrow)),(oq n9 (.un .not (.t n8))),(om n10 n9),(og n11 n10 false (.faddr n2 (.t n1))),(og n12 n10 false (.load none (.t n11))),(og n13 n10 false (.faddr n1 (.t n1))),(og n14 n10 false (.load none (.t n13))),(og n15 n10 false (.bin .sub (.t n12) (.t n14))),(og n16 n10 false (.bin .add (.t n15) (k n1))),(og n17 n10 false (.bslice n1 n1 [(.int .i64 (.l (i n0)))] [(n0,(.t n16))] false)),(og n18 n10 false (.call (.c (.fn n104 [] [])) [(k n1),(k n12),(.t n17)] .borrow)),(og n19 n10 false (.un .not (.t n18))),(oq n20 (.pick (.t n10) (.c (.d (.bool true))) (.t n19))),(om n2 n20)])
 .ret))
def x103 : XFn := ⟨a103,n21,[(.t n2)],c103⟩
def a104 : Ann := ⟨[(n1,n2,n2)],[]⟩
def c104 : ICode :=
 (.seq (.ops [(oq n3 (.box (.t n0))),(oq n4 (.box (.t n1))),(oq n6 (.mv (.c (.d (.bool false)))))])
 (.seq (.ops [(om n7 n2),(oq n8 (.mkfn n144 [] [(.t n3),(.t n4)])),(oq n9 (.call (.c (.fn n143 [] [])) [(.t n7),(.t n8)] .raw)),(oq n10 (.un .not (.t n9))),(om n6 n10)])
 .ret))
def x104 : XFn := ⟨a104,n11,[(.t n6)],c104⟩
def a105 : Ann := ⟨[(n2,n11,n0),(n4,n1,n3),(n4,n4,n3),(n5,n4,n0),(n5,n8,n0)],[]⟩
def c105 : ICode :=
 (.seq (.ops [(oq n2 (.box (.t n0))),(oq n4 (.mv (.c (.d (.bool false)))))])
 (.seq (.ops [(of n8 n1 n2),(ol n9 n8),(om n10 n1),(oq n11 (.iaddr n5 (.t n9) (.t n10))),(oq n12 (.load (some n5) (.t n11))),(oq n5 (.alloc [(.int .u8 (.l (i n0))),(.int .i64 (.l (i n0))),(.int .i64 (.l (i n0))),(.int .i64 (.l (i n0))),(.int .i64 (.l (i n0)))])),⟨none,none,.store n5 (.t n5) (.t n12)⟩])
 (.seq (.seq (.ops [(of n13 n0 n5),(ol n14 n13),(oq n15 (.bin .lss (.t n14) (.c (.d (.int .u8 (.l (i n1))))))),(om n16 n15),(og n17 n16 false (.faddr n0 (.t n5))),(og n18 n16 false (.load none (.t n17))),(og n19 n16 false (.bin .gtr (.t n18) (.c (.d (.int .u8 (.l (i n17))))))),(oq n20 (.pick (.t n16) (.c (.d (.bool true))) (.t n19))),(om n21 n20),(og n22 n21 false (.load (some n3) (.t n2))),(og n23 n21 false (.load (some n5) (.t n5))),(og n24 n21 false (.call (.c (.fn n145 [] [])) [(.t n22),(.t n23)] .borrow)),(og n25 n21 false (.un .not (.t n24))),(oq n26 (.pick (.t n21) (.c (.d (.bool true))) (.t n25)))])
 (.cond (.t n26) (.seq (.ops [(oq n4 (.mv (.c (.d (.bool false)))))])
 .ret)
 .skip))
 (.seq (.draw n1 [(dz (of n29 n0 n5) n2 n0),(dq (oq n27 (.load (some n5) (.t n5))) n0 n0 [n0] [] false false),(dq (ol n30 n29) n3 n0 [n0] [] false false),(dz (oq n6 (.alloc [(.int .i64 (.l (i n0))),(.int .i64 (.l (i n0))),(.int .i64 (.l (i n0)))])) n5 n0),(dz (oq n28 (.call (.c (.fn n146 [] [])) [(.t n27)] .data)) n1 n0),(dz (oq n31 (.call (.c (.fn n147 [] [])) [(.t n30)] .data)) n4 n0),⟨⟨none,none,.store n3 (.t n6) (.t n28)⟩,n6,n1,[],[n5,n1,n4,n0,n3,n2],true,false⟩,(dz (om n7 n31) n7 n1)])
 (.seq (.ops [(om n32 n1),(oq n33 (.bin .sub (.t n32) (k n1))),(om n34 n7),(oq n35 (.slarr n3 (.t n6) none (some (.t n34)))),(oq n36 (.call (.c (.fn n104 [] [])) [(k n0),(.t n33),(.t n35)] .borrow)),(om n37 n36),(og n38 n37 true (.mv (.t n7))),(og n39 n37 true (.slarr n3 (.t n6) (some (.t n38)) none)),(og n40 n37 true (.call (.c (.fn n104 [] [])) [(k n0),(k n0),(.t n39)] .borrow)),(oq n41 (.pick (.t n37) (.t n40) (.c (.d (.bool false))))),(om n4 n41)])
 .ret)))))
def x105 : XFn := ⟨a105,n42,[(.t n4)],c105⟩
def a107 : Ann := ⟨[(n1,n2,n2)],[]⟩
def c107 : ICode :=
 (.seq (.ops [(oq n3 (.box (.t n1))),(oq n4 (.mv (.c (.d (.bool false)))))])
 (.seq (.ops [(om n5 n0),(oq n6 (.mkfn n148 [] [(.t n3)])),(oq n7 (.call (.c (.fn n143 [] [])) [(.t n5),(.t n6)] .raw)),(oq n8 (.un .not (.t n7))),(om n4 n8)])
 .ret))
def x107 : XFn := ⟨a107,n9,[(.t n4)],c107⟩
def a108 : Ann := ⟨[],[]⟩
def c108 : ICode :=
 (.seq (.ops [(oq n4 (.mv (.c (.d (.bool false)))))])
 (.seq (.ops [(om n5 n0),(ol n6 n1),(oq n7 (.bin .geq (.t n5) (.t n6))),(om n8 n7),(og n9 n8 true (.mv (.t n0))),(og n10 n8 true (.load none (.t n2))),(og n11 n8 true (.bin .leq (.t n9) (.t n10))),(oq n12 (.pick (.t n8) (.t n11) (.c (.d (.bool false))))),(om n4 n12)])
 .ret))
def x108 : XFn := ⟨a108,n13,[(.t n4)],c108⟩
def a109 : Ann := ⟨[(n3,n1,n0),(n13,n1,n2),(n14,n1,n2),(n15,n3,n1),(n15,n4,n0)],[]⟩
def c109 : ICode :=
 (.seq (.ops [(oq n4 (.mv (k n0)))])
 (.seq (.block n0 (.seq (.ops [(om n10 n0),(oq n11 (.len (.t n10))),(oq n12 (.bin .gtr (.t n11) (k n6))),(om n9 n12)])
 (.cond (.t n9) (.seq (.ops [(oq n4 (.mv (k n5)))])
 .ret)
 (.seq (.ops [(om n14 n0),(oq n15 (.call (.c (.fn n149 [] [])) [(k n1),(k n12),(.t n14)] .borrow)),(oq n16 (.un .not (.t n15))),(om n13 n16)])
 (.cond (.t n13) (.seq (.ops [(oq n4 (.mv (k n3)))])
 .ret)
 .skip)))))
 (.seq (.ops [(oq n5 (.mv (k n1)))])
 (.seq (.seq (.ops [(om n17 n0),(oq n18 (.len (.t n17))),(oq n19 (.mv (k n0)))])
 (.block n1 (.loop (.seq (.ops [(oq n20 (.bin .lss (.t n19) (.t n18)))])
 (.seq (.cond (.t n20) .skip
 (.exit n1))
 (.seq (.block n2 (.seq (.ops [(oq n21 (.iaddr n1 (.t n17) (.t n19))),(ol n22 n21),(om n7 n22)])
 (.ops [(om n23 n5),(om n24 n7),(oq n25 (.bin .mul (.t n23) (.t n24))),(om n5 n25)])))
 (.ops [(oq n26 (.bin .add (.t n19) (k n1))),(om n19 n26)])))))))
 (.seq (.seq (.ops [(om n27 n5),(oq n28 (.bin .gtr (.t n27) (k n2000)))])
 (.cond (.t n28) (.seq (.ops [(oq n4 (.mv (k n5)))])
 .ret)
 .skip))
 (.seq (.ops [(om n29 n1),(oq n30 (.call (.c (.fn n98 [] [])) [(.t n29)] .raw)),(om n8 n30)])
 (.seq (.ops [(om n31 n8),(oq n32 (.call (.c (.fn n150 [] [])) [(.t n31)] .raw))])
 (.seq (.seq (.ops [(om n33 n8),(om n34 n0),(oq n35 (.len (.t n34))),(oq n36 (.call (.c (.fn n151 [] [])) [(.t n35)] .share)),(oq n37 (.call (.c (.fn n122 [] [])) [(.t n33),(.t n36)] .borrow)),(oq n38 (.un .not (.t n37)))])
 (.cond (.t n38) (.seq (.ops [(oq n4 (.mv (k n4)))])
 .ret)
 .skip))
 (.seq (.ops [(oq n4 (.mv (k n0)))])
 .ret)))))))))
def x109 : XFn := ⟨a109,n39,[(.t n4)],c109⟩
def a112 : Ann := ⟨[],[]⟩
def c112 : ICode :=
 (.seq (.ops [(oq n4 (.mv (k n0)))])
 (.seq (.ops [(oq n5 (.mv (k n0)))])
 (.seq (.seq (.ops [(oq n6 (.mv (k n0)))])
 (.block n0 (.loop (.seq (.seq (.ops [(om n7 n6),(om n8 n0),(oq n9 (.len (.t n8))),(oq n10 (.bin .lss (.t n7) (.t n9)))])
 (.cond (.t n10) .skip
 (.exit n0)))
 (.seq (.block n1 (.draw n0 [(dz (om n13 n5) n0 n0),(dz (om n14 n0) n1 n0),(dz (om n15 n6) n2 n0),(dz (oq n16 (.iaddr n1 (.t n14) (.t n15))) n3 n0),(dz (om n19 n1) n6 n0),(dz (om n20 n6) n7 n0),(dz (oq n21 (.iaddr n1 (.t n19) (.t n20))) n8 n0),(dz (ol n17 n16) n4 n0),(dz (oq n18 (.bin .mul (.t n13) (.t n17))) n5 n0),(dz (ol n22 n21) n9 n0),(dz (oq n23 (.bin .add (.t n18) (.t n22))) n10 n0),(dz (om n5 n23) n11 n0)]))
 (.ops [(om n11 n6),(oq n12 (.bin .add (.t n11) (k n1))),(om n6 n12)]))))))
 (.seq (.ops [(om n24 n5),(om n4 n24)])
 .ret))))
def x112 : XFn := ⟨a112,n25,[(.t n4)],c112⟩
def a113 : Ann := ⟨[],[]⟩
def c113 : ICode :=
 (.seq (.ops [(oq n1 (.box (.t n0))),(oq n2 (.mv (.c (.d (.bool false)))))])
 (.seq (.seq (.ops [(oq n3 (.mv (k n1)))])
 (.block n0 (.loop (.seq (.seq (.ops [(om n4 n3),(of n5 n1 n1),(ol n6 n5),(oq n7 (.len (.t n6))),(oq n8 (.bin .lss (.t n4) (.t n7)))])
 (.cond (.t n8) .skip
 (.exit n0)))
 (.seq (.block n1 (.seq (.draw n0 [(dz (of n11 n1 n1) n0 n0),(dz (om n13 n3) n2 n0),(dz (of n16 n1 n1) n5 n0),(dz (ol n12 n11) n1 n0),(dz (oq n14 (.iaddr n1 (.t n12) (.t n13))) n3 n0),(dz (ol n15 n14) n4 n0),(dz (ol n17 n16) n6 n0),(dz (oq n18 (.iaddr n1 (.t n17) (k n0))) n7 n0),(dz (ol n19 n18) n8 n0),(dz (oq n20 (.bin .neq (.t n15) (.t n19))) n9 n0)])
 (.cond (.t n20) (.seq (.ops [(oq n2 (.mv (.c (.d (.bool false)))))])
 .ret)
 .skip)))
 (.ops [(om n9 n3),(oq n10 (.bin .add (.t n9) (k n1))),(om n3 n10)]))))))
 (.seq (.ops [(oq n2 (.mv (.c (.d (.bool true)))))])
 .ret)))
def x113 : XFn := ⟨a113,n21,[(.t n2)],c113⟩
def a118 : Ann := ⟨[(n1,n1,n1),(n2,n4,n1),(n2,n6,n0)],[]⟩
def c118 : ICode :=
 (.seq (.ops [(oq n1 (.box (.t n0))),(oq n2 (.alloc [.nil,.nil,.nil,.nil,.nil,.nil,(.int .i64 (.l (i n0)))])),(oq n3 (.mv (k n0)))])
 (.seq (.ops [(oq n5 (.load (some n5) (.t n1))),(oq n6 (.call (.c (.fn n156 [] [])) [(.t n5)] .share)),(om n4 n6),(oq n7 (.extract (.t n4) n0)),(oq n8 (.extract (.t n4) n1)),⟨none,none,.store n7 (.t n2) (.t n7)⟩,(om n3 n8)])
 (.seq (.seq (.draw n0 [(dz (om n9 n3) n0 n0),(dz (oq n10 (.bin .eql (.t n9) (k n0))) n1 n0),(dz (om n11 n10) n2 n0),(dz (og n12 n11 true (.load (some n7) (.t n2))) n3 n0),(dq (og n14 n11 true (.load (some n5) (.t n1))) n5 n0 [] [] false true),(dq (og n13 n11 true (.call (.c (.fn n158 [] [])) [(.t n12)] .share)) n4 n0 [] [n3,n2,n1,n0] false false),(dq (og n15 n11 true (.call (.c (.fn n157 [] [])) [(.t n13),(.t n14)] .borrow)) n6 n0 [] [n4,n5,n2,n3,n1,n0] true false),(dz (og n16 n11 true (.un .not (.t n15))) n7 n0),(dz (oq n17 (.pick (.t n11) (.t n16) (.c (.d (.bool false))))) n8 n0)])
 (.cond (.t n17) (.seq (.ops [(oq n18 (.load (some n7) (.t n2))),⟨none,none,.store n7 (.t n2) (.t n18)⟩,(oq n3 (.mv (k n4)))])
 .ret)
 .skip))
 (.seq (.ops [(oq n19 (.load (some n7) (.t n2))),(om n20 n3),⟨none,none,.store n7 (.t n2) (.t n19)⟩,(om n3 n20)])
 .ret))))
def x118 : XFn := ⟨a118,n21,[(.c n2 (some n7)),(.t n3)],c118⟩
def a119 : Ann := ⟨[(n3,n6,n0),(n3,n10,n3)],[]⟩
def c119 : ICode :=
 (.seq (.ops [(oq n1 (.box (.t n0))),(oq n2 (.alloc [.nil]))])
 (.seq (.seq (.ops [(of n5 n0 n1),(oq n6 (.load (some n2) (.t n5))),(oq n7 (.mkfn n159 [(.t n6)] []))])
 (.block n0 (.range (.t n7) [n8,n9] (.ops [(om n4 n9)]) (.block n1 (.draw n0 [(dq (of n11 n2 n1) n1 n0 [] [] false true),(dq (of n12 n2 n11) n2 n0 [] [] false true),(dz (om n15 n4) n5 n0),(dq (ol n10 n2) n0 n0 [] [] false true),(dq (ol n13 n12) n3 n0 [] [] false true),(dz (oq n14 (.load (some n7) (.t n1))) n4 n0),(dq (oq n16 (.call (.c (.fn n160 [] [])) [(.t n14),(.t n15),(.c (.fn n161 [] []))] .borrow)) n6 n0 [] [n4,n5] false false),(dz (oq n17 (.iaddr n2 (.t n13) (.t n16))) n7 n0),(dz (oq n18 (.load (some n2) (.t n17))) n8 n0),(dq (oq n19 (.bslice n2 n1 [(.int .u8 (.l (i n0))),(.int .i64 (.l (i n0)))] [(n0,(.t n18))] false)) n9 n0 [] [n8,n7,n3,n6,n2,n1,n4,n5] false false),(dq (oq n20 (.appendN n2 n16 (.t n10) (.t n19) true)) n10 n0 [] [n0,n9,n6,n8,n7,n3,n2,n1,n4,n5] true false),⟨⟨none,none,.store n1 (.t n2) (.t n20)⟩,n11,n0,[],[n10,n0,n1,n2,n3,n4,n5,n6,n7,n8,n9],true,false⟩])))))
 (.seq (.ops [(ol n21 n2),⟨none,none,.store n1 (.t n2) (.t n21)⟩])
 .ret)))
def x119 : XFn := ⟨a119,n22,[(.c n2 none)],c119⟩
def a120 : Ann := ⟨[(n1,n2,n2)],[]⟩
def c120 : ICode :=
 (.seq (.ops [(oq n4 (.mv (.c (.d (.bool false)))))])
 (.seq (.ops [(om n5 n0),(om n6 n1),(oq n7 (.call (.c (.fn n162 [] [])) [(.t n5),(.t n6)] .raw)),(oq n8 (.bin .geq (.t n7) (k n0))),(om n4 n8)])
 .ret))
def x120 : XFn := ⟨a120,n9,[(.t n4)],c120⟩
def a121 : Ann := ⟨[(n1,n2,n2)],[]⟩
def c121 : ICode :=
 (.seq (.ops [(oq n2 (.box (.t n0))),(oq n3 (.mv (.c (.d (.bool false)))))])
 (.seq (.ops [(ol n4 n1),(oq n5 (.load (some n5) (.t n2))),(oq n6 (.call (.t n4) [(.t n5)] .raw)),(oq n7 (.un .not (.t n6))),(om n3 n7)])
 .ret))
def x121 : XFn := ⟨a121,n8,[(.t n3)],c121⟩
def a122 : Ann := ⟨[],[]⟩
def c122 : ICode :=
 (.seq (.ops [(oq n4 (.mv (.c (.d (.bool false)))))])
 (.seq (.seq (.ops [(om n6 n0),(oq n7 (.len (.t n6))),(om n8 n1),(oq n9 (.len (.t n8))),(oq n10 (.bin .neq (.t n7) (.t n9)))])
 (.cond (.t n10) (.seq (.ops [(oq n4 (.mv (.c (.d (.bool false)))))])
 .ret)
 .skip))
 (.seq (.seq (.ops [(om n11 n0),(oq n12 (.len (.t n11))),(oq n13 (.mv (k n0)))])
 (.block n0 (.loop (.seq (.ops [(oq n14 (.bin .lss (.t n13) (.t n12)))])
 (.seq (.cond (.t n14) .skip
 (.exit n0))
 (.seq (.block n1 (.seq (.ops [(om n15 n13),(om n5 n15)])
 (.seq (.draw n0 [(dz (om n16 n0) n0 n0),(dz (om n17 n5) n1 n0),(dz (oq n18 (.iaddr n1 (.t n16) (.t n17))) n2 n0),(dz (om n20 n1) n4 n0),(dz (om n21 n5) n5 n0),(dz (oq n22 (.iaddr n1 (.t n20) (.t n21))) n6 n0),(dz (ol n19 n18) n3 n0),(dz (ol n23 n22) n7 n0),(dz (oq n24 (.bin .neq (.t n19) (.t n23))) n8 n0)])
 (.cond (.t n24) (.seq (.ops [(oq n4 (.mv (.c (.d (.bool false)))))])
 .ret)
 .skip))))
 (.ops [(oq n25 (.bin .add (.t n13) (k n1))),(om n13 n25)])))))))
 (.seq (.ops [(oq n4 (.mv (.c (.d (.bool true)))))])
 .ret))))
def x122 : XFn := ⟨a122,n26,[(.t n4)],c122⟩
def a123 : Ann := ⟨[(n4,n14,n2)],[]⟩
def c123 : ICode :=
 (.seq (.ops [(om n10 n1),(oq n11 (.bin .add (.t n10) (k n1))),(om n8 n11)])
 (.block n0 (.loop (.seq (.seq (.ops [(om n12 n8),(om n13 n2),(oq n14 (.bin .lss (.t n12) (.t n13)))])
 (.cond (.t n14) .skip
 (.exit n0)))
 (.seq (.block n1 (.seq (.ops [(om n17 n8),(om n9 n17)])
 (.block n2 (.loop (.seq (.seq (.draw n0 [(dz (om n18 n9) n0 n0),(dz (om n19 n1) n1 n0),(dz (oq n20 (.bin .gtr (.t n18) (.t n19))) n2 n0),(dz (om n21 n20) n3 n0),(dz (og n22 n21 true (.mv (.t n3))) n4 n0),(dz (og n23 n21 true (.mv (.t n0))) n5 n0),(dz (og n24 n21 true (.mv (.t n9))) n6 n0),(dz (og n25 n21 true (.iaddr n2 (.t n23) (.t n24))) n7 n0),(dz (og n27 n21 true (.mv (.t n0))) n9 n0),(dz (og n28 n21 true (.mv (.t n9))) n10 n0),(dz (og n29 n21 true (.bin .sub (.t n28) (k n1))) n11 n0),(dz (og n30 n21 true (.iaddr n2 (.t n27) (.t n29))) n12 n0),(dz (og n26 n21 true (.load (some n2) (.t n25))) n8 n0),(dz (og n31 n21 true (.load (some n2) (.t n30))) n13 n0),(dq (og n32 n21 true (.call (.t n22) [(.t n26),(.t n31)] .raw)) n14 n0 [] [n4,n8,n13,n3,n2,n0,n1,n7,n5,n6,n12,n9,n11,n10] true false),(dz (og n33 n21 true (.bin .lss (.t n32) (k n0))) n15 n0),(dz (oq n34 (.pick (.t n21) (.t n33) (.c (.d (.bool false))))) n16 n0)])
 (.cond (.t n34) .skip
 (.exit n2)))
 (.seq (.block n3 (.draw n0 [(dz (om n37 n0) n0 n0),(dz (om n38 n9) n1 n0),(dq (om n39 n0) n2 n0 [] [] false true),(dq (om n40 n9) n3 n0 [] [] false true),(dq (oq n41 (.bin .sub (.t n40) (k n1))) n4 n0 [] [] false true),(dz (om n42 n0) n5 n0),(dz (om n43 n9) n6 n0),(dz (oq n44 (.bin .sub (.t n43) (k n1))) n7 n0),(dz (oq n45 (.iaddr n2 (.t n42) (.t n44))) n8 n0),(dz (om n47 n0) n10 n0),(dz (om n48 n9) n11 n0),(dz (oq n49 (.iaddr n2 (.t n47) (.t n48))) n12 n0),(dz (oq n46 (.load (some n2) (.t n45))) n9 n0),(dz (oq n50 (.load (some n2) (.t n49))) n13 n0),(dz (oq n51 (.iaddr n2 (.t n37) (.t n38))) n14 n0),⟨⟨none,none,.store n2 (.t n51) (.t n46)⟩,n15,n0,[],[n14,n9,n0,n1,n5,n6,n7,n8,n13,n12,n10,n11],false,false⟩,(dz (oq n52 (.iaddr n2 (.t n39) (.t n41))) n16 n0),⟨⟨none,none,.store n2 (.t n52) (.t n50)⟩,n17,n0,[],[n16,n13,n15,n0,n1,n2,n3,n4,n5,n6,n7,n8,n9,n10,n11,n12,n14],true,false⟩]))
 (.ops [(om n35 n9),(oq n36 (.bin .sub (.t n35) (k n1))),(om n9 n36)])))))))
 (.ops [(om n15 n8),(oq n16 (.bin .add (.t n15) (k n1))),(om n8 n16)]))))))
def x123 : XFn := ⟨a123,n53,[],c123⟩
def a124 : Ann := ⟨[(n6,n5,n2),(n11,n5,n2)],[]⟩
def c124 : ICode :=
 (.seq (.ops [(om n13 n1),(om n8 n13)])
 (.seq (.ops [(oq n9 (.mv (k n0)))])
 (.seq (.ops [(om n14 n2),(om n15 n1),(oq n16 (.bin .sub (.t n14) (.t n15))),(om n10 n16)])
 (.seq (.seq (.ops [(om n17 n10),(oq n18 (.bin .sub (.t n17) (k n1))),(oq n19 (.bin .quo (.t n18) (k n2))),(om n11 n19)])
 (.block n0 (.loop (.seq (.seq (.ops [(om n20 n11),(oq n21 (.bin .geq (.t n20) (k n0)))])
 (.cond (.t n21) .skip
 (.exit n0)))
 (.seq (.block n1 (.ops [(om n24 n0),(om n25 n11),(om n26 n10),(om n27 n8),(om n28 n3),(oq n29 (.call (.c (.fn n163 [] [])) [(.t n24),(.t n25),(.t n26),(.t n27),(.t n28)] .raw))]))
 (.ops [(om n22 n11),(oq n23 (.bin .sub (.t n22) (k n1))),(om n11 n23)]))))))
 (.seq (.ops [(om n30 n10),(oq n31 (.bin .sub (.t n30) (k n1))),(om n12 n31)])
 (.block n2 (.loop (.seq (.seq (.ops [(om n32 n12),(oq n33 (.bin .geq (.t n32) (k n0)))])
 (.cond (.t n33) .skip
 (.exit n2)))
 (.seq (.block n3 (.seq (.draw n0 [(dz (om n36 n0) n0 n0),(dz (om n37 n8) n1 n0),(dq (om n38 n0) n2 n0 [] [] false true),(dq (om n39 n8) n3 n0 [] [] false true),(dq (om n40 n12) n4 n0 [] [] false true),(dq (oq n41 (.bin .add (.t n39) (.t n40))) n5 n0 [] [] false true),(dz (om n42 n0) n6 n0),(dz (om n43 n8) n7 n0),(dz (om n44 n12) n8 n0),(dz (oq n45 (.bin .add (.t n43) (.t n44))) n9 n0),(dz (oq n46 (.iaddr n2 (.t n42) (.t n45))) n10 n0),(dz (om n48 n0) n12 n0),(dz (om n49 n8) n13 n0),(dz (oq n50 (.iaddr n2 (.t n48) (.t n49))) n14 n0),(dz (oq n47 (.load (some n2) (.t n46))) n11 n0),(dz (oq n51 (.load (some n2) (.t n50))) n15 n0),(dz (oq n52 (.iaddr n2 (.t n36) (.t n37))) n16 n0),⟨⟨none,none,.store n2 (.t n52) (.t n47)⟩,n17,n0,[],[n16,n11,n0,n1,n6,n7,n8,n9,n10,n15,n14,n12,n13],false,false⟩,(dz (oq n53 (.iaddr n2 (.t n38) (.t n41))) n18 n0),⟨⟨none,none,.store n2 (.t n53) (.t n51)⟩,n19,n0,[],[n18,n15,n17,n0,n1,n2,n3,n4,n5,n6,n7,n8,n9,n10,n11,n12,n13,n14,n16],true,false⟩])
 (.ops [(om n54 n0),(om n55 n9),(om n56 n12),(om n57 n8),(om n58 n3),(oq n59 (.call (.c (.fn n163 [] [])) [(.t n54),(.t n55),(.t n56),(.t n57),(.t n58)] .raw))])))
 (.ops [(om n34 n12),(oq n35 (.bin .sub (.t n34) (k n1))),(om n12 n35)]))))))))))
def x124 : XFn := ⟨a124,n60,[],c124⟩
def a125 : Ann := ⟨[(n3,n1,n0),(n7,n0,n0)],[]⟩
def c125 : ICode :=
 (.seq (.ops [(om n13 n2),(om n14 n1),(oq n15 (.bin .sub (.t n13) (.t n14))),(om n8 n15)])
 (.seq (.ops [(om n16 n8),(oq n17 (.bin .geq (.t n16) (k n8)))])
 (.cond (.t n17) (.seq (.ops [(om n18 n8),(oq n19 (.conv .u64 (.t n18))),(oq n9 (.alloc [(.int .u64 (.l (i n0)))])),⟨none,none,.store n1 (.t n9) (.t n19)⟩])
 (.seq (.ops [(om n20 n8),(oq n21 (.call (.c (.fn n164 [] [])) [(.t n20)] .borrow)),(om n10 n21)])
 (.seq (.ops [(om n22 n1),(om n23 n8),(oq n24 (.bin .quo (.t n23) (k n4))),(oq n25 (.bin .mul (.t n24) (k n2))),(oq n26 (.bin .add (.t n22) (.t n25))),(oq n27 (.bin .sub (.t n26) (k n1))),(om n11 n27)])
 (.block n0 (.loop (.seq (.seq (.ops [(om n28 n11),(om n29 n1),(om n30 n8),(oq n31 (.bin .quo (.t n30) (k n4))),(oq n32 (.bin .mul (.t n31) (k n2))),(oq n33 (.bin .add (.t n29) (.t n32))),(oq n34 (.bin .add (.t n33) (k n1))),(oq n35 (.bin .leq (.t n28) (.t n34)))])
 (.cond (.t n35) .skip
 (.exit n0)))
 (.seq (.block n1 (.seq (.ops [(oq n38 (.call (.c (.fn n165 [] [])) [(.t n9)] .borrow)),(om n39 n10),(oq n40 (.bin .sub (.t n39) (.c (.d (.int .u64 (.l (i n1))))))),(oq n41 (.bin .and (.t n38) (.t n40))),(oq n42 (.conv .i64 (.t n41))),(om n12 n42)])
 (.seq (.seq (.ops [(om n43 n12),(om n44 n8),(oq n45 (.bin .geq (.t n43) (.t n44)))])
 (.cond (.t n45) (.ops [(om n46 n12),(om n47 n8),(oq n48 (.bin .sub (.t n46) (.t n47))),(om n12 n48)])
 .skip))
 (.draw n0 [(dz (om n49 n0) n0 n0),(dz (om n50 n11) n1 n0),(dq (om n51 n0) n2 n0 [] [] false true),(dq (om n52 n1) n3 n0 [] [] false true),(dq (om n53 n12) n4 n0 [] [] false true),(dq (oq n54 (.bin .add (.t n52) (.t n53))) n5 n0 [] [] false true),(dz (om n55 n0) n6 n0),(dz (om n56 n1) n7 n0),(dz (om n57 n12) n8 n0),(dz (oq n58 (.bin .add (.t n56) (.t n57))) n9 n0),(dz (oq n59 (.iaddr n2 (.t n55) (.t n58))) n10 n0),(dz (om n61 n0) n12 n0),(dz (om n62 n11) n13 n0),(dz (oq n63 (.iaddr n2 (.t n61) (.t n62))) n14 n0),(dz (oq n60 (.load (some n2) (.t n59))) n11 n0),(dz (oq n64 (.load (some n2) (.t n63))) n15 n0),(dz (oq n65 (.iaddr n2 (.t n49) (.t n50))) n16 n0),⟨⟨none,none,.store n2 (.t n65) (.t n60)⟩,n17,n0,[],[n16,n11,n0,n1,n6,n7,n8,n9,n10,n15,n14,n12,n13],false,false⟩,(dz (oq n66 (.iaddr n2 (.t n51) (.t n54))) n18 n0),⟨⟨none,none,.store n2 (.t n66) (.t n64)⟩,n19,n0,[],[n18,n15,n17,n0,n1,n2,n3,n4,n5,n6,n7,n8,n9,n10,n11,n12,n13,n14,n16],true,false⟩]))))
 (.ops [(om n36 n11),(oq n37 (.bin .add (.t n36) (k n1))),(om n11 n37)]))))))))
 .skip)))
def x125 : XFn := ⟨a125,n67,[],c125⟩
def a126 : Ann := ⟨[(n8,n3,n2),(n9,n3,n2),(n10,n3,n2),(n11,n5,n2)],[]⟩
def c126 : ICode :=
 (.seq (.ops [(oq n8 (.mv (k n0))),(oq n9 (.mv (k n0)))])
 (.seq (.ops [(om n15 n2),(om n16 n1),(oq n17 (.bin .sub (.t n15) (.t n16))),(om n10 n17)])
 (.seq (.ops [(oq n11 (.alloc [(.int .i64 (.l (i n0)))]))])
 (.seq (.ops [(om n18 n1),(om n19 n10),(oq n20 (.bin .quo (.t n19) (k n4))),(oq n21 (.bin .mul (.t n20) (k n1))),(oq n22 (.bin .add (.t n18) (.t n21))),(om n12 n22)])
 (.seq (.ops [(om n23 n1),(om n24 n10),(oq n25 (.bin .quo (.t n24) (k n4))),(oq n26 (.bin .mul (.t n25) (k n2))),(oq n27 (.bin .add (.t n23) (.t n26))),(om n13 n27)])
 (.seq (.ops [(om n28 n1),(om n29 n10),(oq n30 (.bin .quo (.t n29) (k n4))),(oq n31 (.bin .mul (.t n30) (k n3))),(oq n32 (.bin .add (.t n28) (.t n31))),(om n14 n32)])
 (.seq (.seq (.ops [(om n33 n10),(oq n34 (.bin .geq (.t n33) (k n8)))])
 (.cond (.t n34) (.seq (.seq (.ops [(om n35 n10),(oq n36 (.bin .geq (.t n35) (k n50)))])
 (.cond (.t n36) (.seq (.ops [(om n37 n0),(om n38 n12),(om n39 n3),(oq n40 (.call (.c (.fn n166 [] [])) [(.t n37),(.t n38),(.t n11),(.t n39)] .raw)),(om n12 n40)])
 (.seq (.ops [(om n41 n0),(om n42 n13),(om n43 n3),(oq n44 (.call (.c (.fn n166 [] [])) [(.t n41),(.t n42),(.t n11),(.t n43)] .raw)),(om n13 n44)])
 (.ops [(om n45 n0),(om n46 n14),(om n47 n3),(oq n48 (.call (.c (.fn n166 [] [])) [(.t n45),(.t n46),(.t n11),(.t n47)] .raw)),(om n14 n48)])))
 .skip))
 (.ops [(om n49 n0),(om n50 n12),(om n51 n13),(om n52 n14),(om n53 n3),(oq n54 (.call (.c (.fn n167 [] [])) [(.t n49),(.t n50),(.t n51),(.t n52),(.t n11),(.t n53)] .raw)),(om n13 n54)]))
 .skip))
 (.seq (.ops [(ol n55 n11)])
 (.block n0 (.seq (.ops [(oq n58 (.bin .eql (.t n55) (k n0))),(om n57 n58)])
 (.cond (.t n57) (.seq (.ops [(om n59 n13),(om n8 n59),(oq n9 (.mv (k n1)))])
 .ret)
 (.seq (.ops [(oq n61 (.bin .eql (.t n55) (k n12))),(om n60 n61)])
 (.cond (.t n60) (.seq (.ops [(om n62 n13),(om n8 n62),(oq n9 (.mv (k n2)))])
 .ret)
 (.seq (.ops [(om n56 n13),(om n8 n56),(oq n9 (.mv (k n0)))])
 .ret))))))))))))))
def x126 : XFn := ⟨a126,n63,[(.t n8),(.t n9)],c126⟩
def a127 : Ann := ⟨[],[]⟩
def c127 : ICode :=
 (.seq (.ops [(om n10 n1),(om n8 n10)])
 (.seq (.ops [(om n11 n2),(oq n12 (.bin .sub (.t n11) (k n1))),(om n9 n12)])
 (.block n0 (.loop (.seq (.seq (.ops [(om n13 n8),(om n14 n9),(oq n15 (.bin .lss (.t n13) (.t n14)))])
 (.cond (.t n15) .skip
 (.exit n0)))
 (.block n1 (.seq (.draw n0 [(dz (om n16 n0) n0 n0),(dz (om n17 n8) n1 n0),(dq (om n18 n0) n2 n0 [] [] false true),(dq (om n19 n9) n3 n0 [] [] false true),(dz (om n20 n0) n4 n0),(dz (om n21 n9) n5 n0),(dz (oq n22 (.iaddr n2 (.t n20) (.t n21))) n6 n0),(dz (om n24 n0) n8 n0),(dz (om n25 n8) n9 n0),(dz (oq n26 (.iaddr n2 (.t n24) (.t n25))) n10 n0),(dz (oq n23 (.load (some n2) (.t n22))) n7 n0),(dz (oq n27 (.load (some n2) (.t n26))) n11 n0),(dz (oq n28 (.iaddr n2 (.t n16) (.t n17))) n12 n0),⟨⟨none,none,.store n2 (.t n28) (.t n23)⟩,n13,n0,[],[n12,n7,n0,n1,n4,n5,n6,n11,n10,n8,n9],false,false⟩,(dz (oq n29 (.iaddr n2 (.t n18) (.t n19))) n14 n0),⟨⟨none,none,.store n2 (.t n29) (.t n27)⟩,n15,n0,[],[n14,n11,n13,n0,n1,n2,n3,n4,n5,n6,n7,n8,n9,n10,n12],true,false⟩])
 (.seq (.ops [(om n30 n8),(oq n31 (.bin .add (.t n30) (k n1))),(om n8 n31)])
 (.ops [(om n32 n9),(oq n33 (.bin .sub (.t n32) (k n1))),(om n9 n33)])))))))))
def x127 : XFn := ⟨a127,n34,[],c127⟩
def a128 : Ann := ⟨[(n5,n14,n2),(n16,n10,n2),(n22,n10,n2)],[]⟩
def c128 : ICode :=
 (.seq (.ops [(oq n8 (.mv (.c (.d (.bool false)))))])
 (.seq (.ops [(om n13 n1),(oq n14 (.bin .add (.t n13) (k n1))),(om n9 n14)])
 (.seq (.seq (.ops [(oq n10 (.mv (k n0)))])
 (.block n0 (.loop (.seq (.seq (.ops [(om n15 n10),(oq n16 (.bin .lss (.t n15) (k n5)))])
 (.cond (.t n16) .skip
 (.exit n0)))
 (.seq (.block n1 (.seq (.block n2 (.loop (.seq (.seq (.draw n0 [(dz (om n19 n9) n0 n0),(dz (om n20 n2) n1 n0),(dz (oq n21 (.bin .lss (.t n19) (.t n20))) n2 n0),(dz (om n22 n21) n3 n0),(dz (og n23 n22 true (.mv (.t n3))) n4 n0),(dz (og n24 n22 true (.mv (.t n0))) n5 n0),(dz (og n25 n22 true (.mv (.t n9))) n6 n0),(dz (og n26 n22 true (.iaddr n2 (.t n24) (.t n25))) n7 n0),(dz (og n28 n22 true (.mv (.t n0))) n9 n0),(dz (og n29 n22 true (.mv (.t n9))) n10 n0),(dz (og n30 n22 true (.bin .sub (.t n29) (k n1))) n11 n0),(dz (og n31 n22 true (.iaddr n2 (.t n28) (.t n30))) n12 n0),(dz (og n27 n22 true (.load (some n2) (.t n26))) n8 n0),(dz (og n32 n22 true (.load (some n2) (.t n31))) n13 n0),(dq (og n33 n22 true (.call (.t n23) [(.t n27),(.t n32)] .raw)) n14 n0 [] [n4,n8,n13,n3,n2,n0,n1,n7,n5,n6,n12,n9,n11,n10] true false),(dz (og n34 n22 true (.bin .lss (.t n33) (k n0))) n15 n0),(dz (og n35 n22 true (.un .not (.t n34))) n16 n0),(dz (oq n36 (.pick (.t n22) (.t n35) (.c (.d (.bool false))))) n17 n0)])
 (.cond (.t n36) .skip
 (.exit n2)))
 (.block n3 (.ops [(om n37 n9),(oq n38 (.bin .add (.t n37) (k n1))),(om n9 n38)])))))
 (.seq (.seq (.ops [(om n39 n9),(om n40 n2),(oq n41 (.bin .eql (.t n39) (.t n40)))])
 (.cond (.t n41) (.seq (.ops [(oq n8 (.mv (.c (.d (.bool true)))))])
 .ret)
 .skip))
 (.seq (.seq (.ops [(om n42 n2),(om n43 n1),(oq n44 (.bin .sub (.t n42) (.t n43))),(oq n45 (.bin .lss (.t n44) (k n50)))])
 (.cond (.t n45) (.seq (.ops [(oq n8 (.mv (.c (.d (.bool false)))))])
 .ret)
 .skip))
 (.seq (.draw n0 [(dz (om n46 n0) n0 n0),(dz (om n47 n9) n1 n0),(dq (om n48 n0) n2 n0 [] [] false true),(dq (om n49 n9) n3 n0 [] [] false true),(dq (oq n50 (.bin .sub (.t n49) (k n1))) n4 n0 [] [] false true),(dz (om n51 n0) n5 n0),(dz (om n52 n9) n6 n0),(dz (oq n53 (.bin .sub (.t n52) (k n1))) n7 n0),(dz (oq n54 (.iaddr n2 (.t n51) (.t n53))) n8 n0),(dz (om n56 n0) n10 n0),(dz (om n57 n9) n11 n0),(dz (oq n58 (.iaddr n2 (.t n56) (.t n57))) n12 n0),(dz (oq n55 (.load (some n2) (.t n54))) n9 n0),(dz (oq n59 (.load (some n2) (.t n58))) n13 n0),(dz (oq n60 (.iaddr n2 (.t n46) (.t n47))) n14 n0),⟨⟨none,none,.store n2 (.t n60) (.t n55)⟩,n15,n0,[],[n14,n9,n0,n1,n5,n6,n7,n8,n13,n12,n10,n11],false,false⟩,(dz (oq n61 (.iaddr n2 (.t n48) (.t n50))) n16 n0),⟨⟨none,none,.store n2 (.t n61) (.t n59)⟩,n17,n0,[],[n16,n13,n15,n0,n1,n2,n3,n4,n5,n6,n7,n8,n9,n10,n11,n12,n14],true,false⟩])
 (.seq (.seq (.ops [(om n62 n9),(om n63 n1),(oq n64 (.bin .sub (.t n62) (.t n63))),(oq n65 (.bin .geq (.t n64) (k n2)))])
 (.cond (.t n65) (.seq (.ops [(om n66 n9),(oq n67 (.bin .sub (.t n66) (k n1))),(om n11 n67)])
 (.block n4 (.loop (.seq (.seq (.ops [(om n68 n11),(oq n69 (.bin .geq (.t n68) (k n1)))])
 (.cond (.t n69) .skip
 (.exit n4)))
 (.seq (.block n5 (.seq (.seq (.draw n0 [(dz (om n72 n3) n0 n0),(dz (om n73 n0) n1 n0),(dz (om n74 n11) n2 n0),(dz (oq n75 (.iaddr n2 (.t n73) (.t n74))) n3 n0),(dz (om n77 n0) n5 n0),(dz (om n78 n11) n6 n0),(dz (oq n79 (.bin .sub (.t n78) (k n1))) n7 n0),(dz (oq n80 (.iaddr n2 (.t n77) (.t n79))) n8 n0),(dz (oq n76 (.load (some n2) (.t n75))) n4 n0),(dz (oq n81 (.load (some n2) (.t n80))) n9 n0),(dq (oq n82 (.call (.t n72) [(.t n76),(.t n81)] .raw)) n10 n0 [] [n0,n4,n9,n3,n1,n2,n8,n5,n7,n6] true false),(dz (oq n83 (.bin .lss (.t n82) (k n0))) n11 n0),(dz (oq n84 (.un .not (.t n83))) n12 n0)])
 (.cond (.t n84) (.exit n4)
 .skip))
 (.draw n0 [(dz (om n85 n0) n0 n0),(dz (om n86 n11) n1 n0),(dq (om n87 n0) n2 n0 [] [] false true),(dq (om n88 n11) n3 n0 [] [] false true),(dq (oq n89 (.bin .sub (.t n88) (k n1))) n4 n0 [] [] false true),(dz (om n90 n0) n5 n0),(dz (om n91 n11) n6 n0),(dz (oq n92 (.bin .sub (.t n91) (k n1))) n7 n0),(dz (oq n93 (.iaddr n2 (.t n90) (.t n92))) n8 n0),(dz (om n95 n0) n10 n0),(dz (om n96 n11) n11 n0),(dz (oq n97 (.iaddr n2 (.t n95) (.t n96))) n12 n0),(dz (oq n94 (.load (some n2) (.t n93))) n9 n0),(dz (oq n98 (.load (some n2) (.t n97))) n13 n0),(dz (oq n99 (.iaddr n2 (.t n85) (.t n86))) n14 n0),⟨⟨none,none,.store n2 (.t n99) (.t n94)⟩,n15,n0,[],[n14,n9,n0,n1,n5,n6,n7,n8,n13,n12,n10,n11],false,false⟩,(dz (oq n100 (.iaddr n2 (.t n87) (.t n89))) n16 n0),⟨⟨none,none,.store n2 (.t n100) (.t n98)⟩,n17,n0,[],[n16,n13,n15,n0,n1,n2,n3,n4,n5,n6,n7,n8,n9,n10,n11,n12,n14],true,false⟩])))
 (.ops [(om n70 n11),(oq n71 (.bin .sub (.t n70) (k n1))),(om n11 n71)]))))))
 .skip))
 (.seq (.ops [(om n101 n2),(om n102 n9),(oq n103 (.bin .sub (.t n101) (.t n102))),(oq n104 (.bin .geq (.t n103) (k n2)))])
 (.cond (.t n104) (.seq (.ops [(om n105 n9),(oq n106 (.bin .add (.t n105) (k n1))),(om n12 n106)])
 (.block n6 (.loop (.seq (.seq (.ops [(om n107 n12),(om n108 n2),(oq n109 (.bin .lss (.t n107) (.t n108)))])
 (.cond (.t n109) .skip
 (.exit n6)))
 (.seq (.block n7 (.seq (.seq (.draw n0 [(dz (om n112 n3) n0 n0),(dz (om n113 n0) n1 n0),(dz (om n114 n12) n2 n0),(dz (oq n115 (.iaddr n2 (.t n113) (.t n114))) n3 n0),(dz (om n117 n0) n5 n0),(dz (om n118 n12) n6 n0),(dz (oq n119 (.bin .sub (.t n118) (k n1))) n7 n0),(dz (oq n120 (.iaddr n2 (.t n117) (.t n119))) n8 n0),(dz (oq n116 (.load (some n2) (.t n115))) n4 n0),(dz (oq n121 (.load (some n2) (.t n120))) n9 n0),(dq (oq n122 (.call (.t n112) [(.t n116),(.t n121)] .raw)) n10 n0 [] [n0,n4,n9,n3,n1,n2,n8,n5,n7,n6] true false),(dz (oq n123 (.bin .lss (.t n122) (k n0))) n11 n0),(dz (oq n124 (.un .not (.t n123))) n12 n0)])
 (.cond (.t n124) (.exit n6)
 .skip))
 (.draw n0 [(dz (om n125 n0) n0 n0),(dz (om n126 n12) n1 n0),(dq (om n127 n0) n2 n0 [] [] false true),(dq (om n128 n12) n3 n0 [] [] false true),(dq (oq n129 (.bin .sub (.t n128) (k n1))) n4 n0 [] [] false true),(dz (om n130 n0) n5 n0),(dz (om n131 n12) n6 n0),(dz (oq n132 (.bin .sub (.t n131) (k n1))) n7 n0),(dz (oq n133 (.iaddr n2 (.t n130) (.t n132))) n8 n0),(dz (om n135 n0) n10 n0),(dz (om n136 n12) n11 n0),(dz (oq n137 (.iaddr n2 (.t n135) (.t n136))) n12 n0),(dz (oq n134 (.load (some n2) (.t n133))) n9 n0),(dz (oq n138 (.load (some n2) (.t n137))) n13 n0),(dz (oq n139 (.iaddr n2 (.t n125) (.t n126))) n14 n0),⟨⟨none,none,.store n2 (.t n139) (.t n134)⟩,n15,n0,[],[n14,n9,n0,n1,n5,n6,n7,n8,n13,n12,n10,n11],false,false⟩,(dz (oq n140 (.iaddr n2 (.t n127) (.t n129))) n16 n0),⟨⟨none,none,.store n2 (.t n140) (.t n138)⟩,n17,n0,[],[n16,n13,n15,n0,n1,n2,n3,n4,n5,n6,n7,n8,n9,n10,n11,n12,n14],true,false⟩])))
 (.ops [(om n110 n12),(oq n111 (.bin .add (.t n110) (k n1))),(om n12 n111)]))))))
 .skip))))))))
 (.ops [(om n17 n10),(oq n18 (.bin .add (.t n17) (k n1))),(om n10 n18)]))))))
 (.seq (.ops [(oq n8 (.mv (.c (.d (.bool false)))))])
 .ret))))
def x128 : XFn := ⟨a128,n141,[(.t n8)],c128⟩
def a129 : Ann := ⟨[(n3,n13,n2),(n5,n13,n2)],[]⟩
def c129 : ICode :=
 (.seq (.ops [(oq n10 (.mv (k n0)))])
 (.seq (.draw n0 [(dz (om n13 n0) n0 n0),(dz (om n14 n1) n1 n0),(dq (om n15 n0) n2 n0 [] [] false true),(dq (om n16 n3) n3 n0 [] [] false true),(dz (om n17 n0) n4 n0),(dz (om n18 n3) n5 n0),(dz (oq n19 (.iaddr n2 (.t n17) (.t n18))) n6 n0),(dz (om n21 n0) n8 n0),(dz (om n22 n1) n9 n0),(dz (oq n23 (.iaddr n2 (.t n21) (.t n22))) n10 n0),(dz (oq n20 (.load (some n2) (.t n19))) n7 n0),(dz (oq n24 (.load (some n2) (.t n23))) n11 n0),(dz (oq n25 (.iaddr n2 (.t n13) (.t n14))) n12 n0),⟨⟨none,none,.store n2 (.t n25) (.t n20)⟩,n13,n0,[],[n12,n7,n0,n1,n4,n5,n6,n11,n10,n8,n9],false,false⟩,(dz (oq n26 (.iaddr n2 (.t n15) (.t n16))) n14 n0),⟨⟨none,none,.store n2 (.t n26) (.t n24)⟩,n15,n0,[],[n14,n11,n13,n0,n1,n2,n3,n4,n5,n6,n7,n8,n9,n10,n12],true,false⟩])
 (.seq (.ops [(om n27 n1),(oq n28 (.bin .add (.t n27) (k n1))),(om n29 n2),(oq n30 (.bin .sub (.t n29) (k n1))),(om n11 n28),(om n12 n30)])
 (.seq (.block n0 (.loop (.block n1 (.seq (.block n2 (.loop (.seq (.seq (.draw n0 [(dz (om n31 n11) n0 n0),(dz (om n32 n12) n1 n0),(dz (oq n33 (.bin .leq (.t n31) (.t n32))) n2 n0),(dz (om n34 n33) n3 n0),(dz (og n35 n34 true (.mv (.t n4))) n4 n0),(dz (og n36 n34 true (.mv (.t n0))) n5 n0),(dz (og n37 n34 true (.mv (.t n1))) n6 n0),(dz (og n38 n34 true (.iaddr n2 (.t n36) (.t n37))) n7 n0),(dz (og n40 n34 true (.mv (.t n0))) n9 n0),(dz (og n41 n34 true (.mv (.t n11))) n10 n0),(dz (og n42 n34 true (.iaddr n2 (.t n40) (.t n41))) n11 n0),(dz (og n39 n34 true (.load (some n2) (.t n38))) n8 n0),(dz (og n43 n34 true (.load (some n2) (.t n42))) n12 n0),(dq (og n44 n34 true (.call (.t n35) [(.t n39),(.t n43)] .raw)) n13 n0 [] [n4,n8,n12,n3,n2,n0,n1,n7,n5,n6,n11,n9,n10] true false),(dz (og n45 n34 true (.bin .lss (.t n44) (k n0))) n14 n0),(dz (og n46 n34 true (.un .not (.t n45))) n15 n0),(dz (oq n47 (.pick (.t n34) (.t n46) (.c (.d (.bool false))))) n16 n0)])
 (.cond (.t n47) .skip
 (.exit n2)))
 (.block n3 (.ops [(om n48 n11),(oq n49 (.bin .add (.t n48) (k n1))),(om n11 n49)])))))
 (.seq (.block n4 (.loop (.seq (.seq (.draw n0 [(dz (om n50 n11) n0 n0),(dz (om n51 n12) n1 n0),(dz (oq n52 (.bin .leq (.t n50) (.t n51))) n2 n0),(dz (om n53 n52) n3 n0),(dz (og n54 n53 true (.mv (.t n4))) n4 n0),(dz (og n55 n53 true (.mv (.t n0))) n5 n0),(dz (og n56 n53 true (.mv (.t n1))) n6 n0),(dz (og n57 n53 true (.iaddr n2 (.t n55) (.t n56))) n7 n0),(dz (og n59 n53 true (.mv (.t n0))) n9 n0),(dz (og n60 n53 true (.mv (.t n12))) n10 n0),(dz (og n61 n53 true (.iaddr n2 (.t n59) (.t n60))) n11 n0),(dz (og n58 n53 true (.load (some n2) (.t n57))) n8 n0),(dz (og n62 n53 true (.load (some n2) (.t n61))) n12 n0),(dq (og n63 n53 true (.call (.t n54) [(.t n58),(.t n62)] .raw)) n13 n0 [] [n4,n8,n12,n3,n2,n0,n1,n7,n5,n6,n11,n9,n10] true false),(dz (og n64 n53 true (.bin .lss (.t n63) (k n0))) n14 n0),(dz (oq n65 (.pick (.t n53) (.t n64) (.c (.d (.bool false))))) n15 n0)])
 (.cond (.t n65) .skip
 (.exit n4)))
 (.block n5 (.ops [(om n66 n12),(oq n67 (.bin .sub (.t n66) (k n1))),(om n12 n67)])))))
 (.seq (.seq (.ops [(om n68 n11),(om n69 n12),(oq n70 (.bin .gtr (.t n68) (.t n69)))])
 (.cond (.t n70) (.exit n0)
 .skip))
 (.seq (.draw n0 [(dz (om n71 n0) n0 n0),(dz (om n72 n11) n1 n0),(dq (om n73 n0) n2 n0 [] [] false true),(dq (om n74 n12) n3 n0 [] [] false true),(dz (om n75 n0) n4 n0),(dz (om n76 n12) n5 n0),(dz (oq n77 (.iaddr n2 (.t n75) (.t n76))) n6 n0),(dz (om n79 n0) n8 n0),(dz (om n80 n11) n9 n0),(dz (oq n81 (.iaddr n2 (.t n79) (.t n80))) n10 n0),(dz (oq n78 (.load (some n2) (.t n77))) n7 n0),(dz (oq n82 (.load (some n2) (.t n81))) n11 n0),(dz (oq n83 (.iaddr n2 (.t n71) (.t n72))) n12 n0),⟨⟨none,none,.store n2 (.t n83) (.t n78)⟩,n13,n0,[],[n12,n7,n0,n1,n4,n5,n6,n11,n10,n8,n9],false,false⟩,(dz (oq n84 (.iaddr n2 (.t n73) (.t n74))) n14 n0),⟨⟨none,none,.store n2 (.t n84) (.t n82)⟩,n15,n0,[],[n14,n11,n13,n0,n1,n2,n3,n4,n5,n6,n7,n8,n9,n10,n12],true,false⟩])
 (.seq (.ops [(om n85 n11),(oq n86 (.bin .add (.t n85) (k n1))),(om n11 n86)])
 (.ops [(om n87 n12),(oq n88 (.bin .sub (.t n87) (k n1))),(om n12 n88)])))))))))
 (.seq (.ops [(om n89 n11),(om n10 n89)])
 .ret)))))
def x129 : XFn := ⟨a129,n90,[(.t n10)],c129⟩
def a130 : Ann := ⟨[(n3,n13,n2),(n5,n13,n2),(n13,n13,n2),(n15,n13,n2)],[]⟩
def c130 : ICode :=
 (.seq (.ops [(oq n10 (.mv (k n0))),(oq n11 (.mv (.c (.d (.bool false)))))])
 (.seq (.draw n0 [(dz (om n14 n0) n0 n0),(dz (om n15 n1) n1 n0),(dq (om n16 n0) n2 n0 [] [] false true),(dq (om n17 n3) n3 n0 [] [] false true),(dz (om n18 n0) n4 n0),(dz (om n19 n3) n5 n0),(dz (oq n20 (.iaddr n2 (.t n18) (.t n19))) n6 n0),(dz (om n22 n0) n8 n0),(dz (om n23 n1) n9 n0),(dz (oq n24 (.iaddr n2 (.t n22) (.t n23))) n10 n0),(dz (oq n21 (.load (some n2) (.t n20))) n7 n0),(dz (oq n25 (.load (some n2) (.t n24))) n11 n0),(dz (oq n26 (.iaddr n2 (.t n14) (.t n15))) n12 n0),⟨⟨none,none,.store n2 (.t n26) (.t n21)⟩,n13,n0,[],[n12,n7,n0,n1,n4,n5,n6,n11,n10,n8,n9],false,false⟩,(dz (oq n27 (.iaddr n2 (.t n16) (.t n17))) n14 n0),⟨⟨none,none,.store n2 (.t n27) (.t n25)⟩,n15,n0,[],[n14,n11,n13,n0,n1,n2,n3,n4,n5,n6,n7,n8,n9,n10,n12],true,false⟩])
 (.seq (.ops [(om n28 n1),(oq n29 (.bin .add (.t n28) (k n1))),(om n30 n2),(oq n31 (.bin .sub (.t n30) (k n1))),(om n12 n29),(om n13 n31)])
 (.seq (.block n0 (.loop (.seq (.seq (.draw n0 [(dz (om n32 n12) n0 n0),(dz (om n33 n13) n1 n0),(dz (oq n34 (.bin .leq (.t n32) (.t n33))) n2 n0),(dz (om n35 n34) n3 n0),(dz (og n36 n35 true (.mv (.t n4))) n4 n0),(dz (og n37 n35 true (.mv (.t n0))) n5 n0),(dz (og n38 n35 true (.mv (.t n12))) n6 n0),(dz (og n39 n35 true (.iaddr n2 (.t n37) (.t n38))) n7 n0),(dz (og n41 n35 true (.mv (.t n0))) n9 n0),(dz (og n42 n35 true (.mv (.t n1))) n10 n0),(dz (og n43 n35 true (.iaddr n2 (.t n41) (.t n42))) n11 n0),(dz (og n40 n35 true (.load (some n2) (.t n39))) n8 n0),(dz (og n44 n35 true (.load (some n2) (.t n43))) n12 n0),(dq (og n45 n35 true (.call (.t n36) [(.t n40),(.t n44)] .raw)) n13 n0 [] [n4,n8,n12,n3,n2,n0,n1,n7,n5,n6,n11,n9,n10] true false),(dz (og n46 n35 true (.bin .lss (.t n45) (k n0))) n14 n0),(dz (oq n47 (.pick (.t n35) (.t n46) (.c (.d (.bool false))))) n15 n0)])
 (.cond (.t n47) .skip
 (.exit n0)))
 (.block n1 (.ops [(om n48 n12),(oq n49 (.bin .add (.t n48) (k n1))),(om n12 n49)])))))
 (.seq (.block n2 (.loop (.seq (.seq (.draw n0 [(dz (om n50 n12) n0 n0),(dz (om n51 n13) n1 n0),(dz (oq n52 (.bin .leq (.t n50) (.t n51))) n2 n0),(dz (om n53 n52) n3 n0),(dz (og n54 n53 true (.mv (.t n4))) n4 n0),(dz (og n55 n53 true (.mv (.t n0))) n5 n0),(dz (og n56 n53 true (.mv (.t n13))) n6 n0),(dz (og n57 n53 true (.iaddr n2 (.t n55) (.t n56))) n7 n0),(dz (og n59 n53 true (.mv (.t n0))) n9 n0),(dz (og n60 n53 true (.mv (.t n1))) n10 n0),(dz (og n61 n53 true (.iaddr n2 (.t n59) (.t n60))) n11 n0),(dz (og n58 n53 true (.load (some n2) (.t n57))) n8 n0),(dz (og n62 n53 true (.load (some n2) (.t n61))) n12 n0),(dq (og n63 n53 true (.call (.t n54) [(.t n58),(.t n62)] .raw)) n13 n0 [] [n4,n8,n12,n3,n2,n0,n1,n7,n5,n6,n11,n9,n10] true false),(dz (og n64 n53 true (.bin .lss (.t n63) (k n0))) n14 n0),(dz (og n65 n53 true (.un .not (.t n64))) n15 n0),(dz (oq n66 (.pick (.t n53) (.t n65) (.c (.d (.bool false))))) n16 n0)])
 (.cond (.t n66) .skip
 (.exit n2)))
 (.block n3 (.ops [(om n67 n13),(oq n68 (.bin .sub (.t n67) (k n1))),(om n13 n68)])))))
 (.seq (.seq (.ops [(om n69 n12),(om n70 n13),(oq n71 (.bin .gtr (.t n69) (.t n70)))])
 (.cond (.t n71) (.seq (.draw n0 [(dz (om n72 n0) n0 n0),(dz (om n73 n13) n1 n0),(dq (om n74 n0) n2 n0 [] [] false true),(dq (om n75 n1) n3 n0 [] [] false true),(dz (om n76 n0) n4 n0),(dz (om n77 n1) n5 n0),(dz (oq n78 (.iaddr n2 (.t n76) (.t n77))) n6 n0),(dz (om n80 n0) n8 n0),(dz (om n81 n13) n9 n0),(dz (oq n82 (.iaddr n2 (.t n80) (.t n81))) n10 n0),(dz (oq n79 (.load (some n2) (.t n78))) n7 n0),(dz (oq n83 (.load (some n2) (.t n82))) n11 n0),(dz (oq n84 (.iaddr n2 (.t n72) (.t n73))) n12 n0),⟨⟨none,none,.store n2 (.t n84) (.t n79)⟩,n13,n0,[],[n12,n7,n0,n1,n4,n5,n6,n11,n10,n8,n9],false,false⟩,(dz (oq n85 (.iaddr n2 (.t n74) (.t n75))) n14 n0),⟨⟨none,none,.store n2 (.t n85) (.t n83)⟩,n15,n0,[],[n14,n11,n13,n0,n1,n2,n3,n4,n5,n6,n7,n8,n9,n10,n12],true,false⟩])
 (.seq (.ops [(om n86 n13),(om n10 n86),(oq n11 (.mv (.c (.d (.bool true)))))])
 .ret))
 .skip))
 (.seq (.draw n0 [(dz (om n87 n0) n0 n0),(dz (om n88 n12) n1 n0),(dq (om n89 n0) n2 n0 [] [] false true),(dq (om n90 n13) n3 n0 [] [] false true),(dz (om n91 n0) n4 n0),(dz (om n92 n13) n5 n0),(dz (oq n93 (.iaddr n2 (.t n91) (.t n92))) n6 n0),(dz (om n95 n0) n8 n0),(dz (om n96 n12) n9 n0),(dz (oq n97 (.iaddr n2 (.t n95) (.t n96))) n10 n0),(dz (oq n94 (.load (some n2) (.t n93))) n7 n0),(dz (oq n98 (.load (some n2) (.t n97))) n11 n0),(dz (oq n99 (.iaddr n2 (.t n87) (.t n88))) n12 n0),⟨⟨none,none,.store n2 (.t n99) (.t n94)⟩,n13,n0,[],[n12,n7,n0,n1,n4,n5,n6,n11,n10,n8,n9],false,false⟩,(dz (oq n100 (.iaddr n2 (.t n89) (.t n90))) n14 n0),⟨⟨none,none,.store n2 (.t n100) (.t n98)⟩,n15,n0,[],[n14,n11,n13,n0,n1,n2,n3,n4,n5,n6,n7,n8,n9,n10,n12],true,false⟩])
 (.seq (.ops [(om n101 n12),(oq n102 (.bin .add (.t n101) (k n1))),(om n12 n102)])
 (.seq (.ops [(om n103 n13),(oq n104 (.bin .sub (.t n103) (k n1))),(om n13 n104)])
 (.seq (.block n4 (.loop (.block n5 (.seq (.block n6 (.loop (.seq (.seq (.draw n0 [(dz (om n105 n12) n0 n0),(dz (om n106 n13) n1 n0),(dz (oq n107 (.bin .leq (.t n105) (.t n106))) n2 n0),(dz (om n108 n107) n3 n0),(dz (og n109 n108 true (.mv (.t n4))) n4 n0),(dz (og n110 n108 true (.mv (.t n0))) n5 n0),(dz (og n111 n108 true (.mv (.t n12))) n6 n0),(dz (og n112 n108 true (.iaddr n2 (.t n110) (.t n111))) n7 n0),(dz (og n114 n108 true (.mv (.t n0))) n9 n0),(dz (og n115 n108 true (.mv (.t n1))) n10 n0),(dz (og n116 n108 true (.iaddr n2 (.t n114) (.t n115))) n11 n0),(dz (og n113 n108 true (.load (some n2) (.t n112))) n8 n0),(dz (og n117 n108 true (.load (some n2) (.t n116))) n12 n0),(dq (og n118 n108 true (.call (.t n109) [(.t n113),(.t n117)] .raw)) n13 n0 [] [n4,n8,n12,n3,n2,n0,n1,n7,n5,n6,n11,n9,n10] true false),(dz (og n119 n108 true (.bin .lss (.t n118) (k n0))) n14 n0),(dz (oq n120 (.pick (.t n108) (.t n119) (.c (.d (.bool false))))) n15 n0)])
 (.cond (.t n120) .skip
 (.exit n6)))
 (.block n7 (.ops [(om n121 n12),(oq n122 (.bin .add (.t n121) (k n1))),(om n12 n122)])))))
 (.seq (.block n8 (.loop (.seq (.seq (.draw n0 [(dz (om n123 n12) n0 n0),(dz (om n124 n13) n1 n0),(dz (oq n125 (.bin .leq (.t n123) (.t n124))) n2 n0),(dz (om n126 n125) n3 n0),(dz (og n127 n126 true (.mv (.t n4))) n4 n0),(dz (og n128 n126 true (.mv (.t n0))) n5 n0),(dz (og n129 n126 true (.mv (.t n13))) n6 n0),(dz (og n130 n126 true (.iaddr n2 (.t n128) (.t n129))) n7 n0),(dz (og n132 n126 true (.mv (.t n0))) n9 n0),(dz (og n133 n126 true (.mv (.t n1))) n10 n0),(dz (og n134 n126 true (.iaddr n2 (.t n132) (.t n133))) n11 n0),(dz (og n131 n126 true (.load (some n2) (.t n130))) n8 n0),(dz (og n135 n126 true (.load (some n2) (.t n134))) n12 n0),(dq (og n136 n126 true (.call (.t n127) [(.t n131),(.t n135)] .raw)) n13 n0 [] [n4,n8,n12,n3,n2,n0,n1,n7,n5,n6,n11,n9,n10] true false),(dz (og n137 n126 true (.bin .lss (.t n136) (k n0))) n14 n0),(dz (og n138 n126 true (.un .not (.t n137))) n15 n0),(dz (oq n139 (.pick (.t n126) (.t n138) (.c (.d (.bool false))))) n16 n0)])
 (.cond (.t n139) .skip
 (.exit n8)))
 (.block n9 (.ops [(om n140 n13),(oq n141 (.bin .sub (.t n140) (k n1))),(om n13 n141)])))))
 (.seq (.seq (.ops [(om n142 n12),(om n143 n13),(oq n144 (.bin .gtr (.t n142) (.t n143)))])
 (.cond (.t n144) (.exit n4)
 .skip))
 (.seq (.draw n0 [(dz (om n145 n0) n0 n0),(dz (om n146 n12) n1 n0),(dq (om n147 n0) n2 n0 [] [] false true),(dq (om n148 n13) n3 n0 [] [] false true),(dz (om n149 n0) n4 n0),(dz (om n150 n13) n5 n0),(dz (oq n151 (.iaddr n2 (.t n149) (.t n150))) n6 n0),(dz (om n153 n0) n8 n0),(dz (om n154 n12) n9 n0),(dz (oq n155 (.iaddr n2 (.t n153) (.t n154))) n10 n0),(dz (oq n152 (.load (some n2) (.t n151))) n7 n0),(dz (oq n156 (.load (some n2) (.t n155))) n11 n0),(dz (oq n157 (.iaddr n2 (.t n145) (.t n146))) n12 n0),⟨⟨none,none,.store n2 (.t n157) (.t n152)⟩,n13,n0,[],[n12,n7,n0,n1,n4,n5,n6,n11,n10,n8,n9],false,false⟩,(dz (oq n158 (.iaddr n2 (.t n147) (.t n148))) n14 n0),⟨⟨none,none,.store n2 (.t n158) (.t n156)⟩,n15,n0,[],[n14,n11,n13,n0,n1,n2,n3,n4,n5,n6,n7,n8,n9,n10,n12],true,false⟩])
 (.seq (.ops [(om n159 n12),(oq n160 (.bin .add (.t n159) (k n1))),(om n12 n160)])
 (.ops [(om n161 n13),(oq n162 (.bin .sub (.t n161) (k n1))),(om n13 n162)])))))))))
 (.seq (.draw n0 [(dz (om n163 n0) n0 n0),(dz (om n164 n13) n1 n0),(dq (om n165 n0) n2 n0 [] [] false true),(dq (om n166 n1) n3 n0 [] [] false true),(dz (om n167 n0) n4 n0),(dz (om n168 n1) n5 n0),(dz (oq n169 (.iaddr n2 (.t n167) (.t n168))) n6 n0),(dz (om n171 n0) n8 n0),(dz (om n172 n13) n9 n0),(dz (oq n173 (.iaddr n2 (.t n171) (.t n172))) n10 n0),(dz (oq n170 (.load (some n2) (.t n169))) n7 n0),(dz (oq n174 (.load (some n2) (.t n173))) n11 n0),(dz (oq n175 (.iaddr n2 (.t n163) (.t n164))) n12 n0),⟨⟨none,none,.store n2 (.t n175) (.t n170)⟩,n13,n0,[],[n12,n7,n0,n1,n4,n5,n6,n11,n10,n8,n9],false,false⟩,(dz (oq n176 (.iaddr n2 (.t n165) (.t n166))) n14 n0),⟨⟨none,none,.store n2 (.t n176) (.t n174)⟩,n15,n0,[],[n14,n11,n13,n0,n1,n2,n3,n4,n5,n6,n7,n8,n9,n10,n12],true,false⟩])
 (.seq (.ops [(om n177 n13),(om n10 n177),(oq n11 (.mv (.c (.d (.bool false)))))])
 .ret))))))))))))
def x130 : XFn := ⟨a130,n178,[(.t n10),(.t n11)],c130⟩
def a131 : Ann := ⟨[],[]⟩
def c131 : ICode :=
 (.seq (.ops [(oq n2 (.mv (k n0)))])
 (.seq (.seq (.ops [(om n3 n0),(oq n4 (.bin .geq (.t n3) (.c (.d (.int .u32 (.l (i n65536)))))))])
 (.cond (.t n4) (.seq (.ops [(om n5 n0),(oq n6 (.bin .shr (.t n5) (.c (.d (.int .u64 (.l (i n16))))))),(om n0 n6)])
 (.ops [(oq n2 (.mv (k n16)))]))
 .skip))
 (.seq (.seq (.ops [(om n7 n0),(oq n8 (.bin .geq (.t n7) (.c (.d (.int .u32 (.l (i n256)))))))])
 (.cond (.t n8) (.seq (.ops [(om n9 n0),(oq n10 (.bin .shr (.t n9) (.c (.d (.int .u64 (.l (i n8))))))),(om n0 n10)])
 (.ops [(om n11 n2),(oq n12 (.bin .add (.t n11) (k n8))),(om n2 n12)]))
 .skip))
 (.seq (.ops [(om n13 n2),(om n14 n0),(oq n15 (.conv .u8 (.t n14))),(oq n16 (.idxs [0,1,2,2,3,3,3,3,4,4,4,4,4,4,4,4,5,5,5,5,5,5,5,5,5,5,5,5,5,5,5,5,6,6,6,6,6,6,6,6,6,6,6,6,6,6,6,6,6,6,6,6,6,6,6,6,6,6,6,6,6,6,6,6,7,7,7,7,7,7,7,7,7,7,7,7,7,7,7,7,7,7,7,7,7,7,7,7,7,7,7,7,7,7,7,7,7,7,7,7,7,7,7,7,7,7,7,7,7,7,7,7,7,7,7,7,7,7,7,7,7,7,7,7,7,7,7,7,8,8,8,8,8,8,8,8,8,8,8,8,8,8,8,8,8,8,8,8,8,8,8,8,8,8,8,8,8,8,8,8,8,8,8,8,8,8,8,8,8,8,8,8,8,8,8,8,8,8,8,8,8,8,8,8,8,8,8,8,8,8,8,8,8,8,8,8,8,8,8,8,8,8,8,8,8,8,8,8,8,8,8,8,8,8,8,8,8,8,8,8,8,8,8,8,8,8,8,8,8,8,8,8,8,8,8,8,8,8,8,8,8,8,8,8,8,8,8,8,8,8,8,8,8,8,8,8] (.t n15))),(oq n17 (.conv .i64 (.t n16))),(oq n18 (.bin .add (.t n13) (.t n17))),(om n2 n18)])
 .ret))))
def x131 : XFn := ⟨a131,n19,[(.t n2)],c131⟩
def a132 : Ann := ⟨[],[]⟩
def c132 : ICode :=
 (.seq (.ops [(oq n2 (.mv (k n0)))])
 (.seq (.seq (.ops [(om n3 n0),(oq n4 (.bin .geq (.t n3) (.c (.d (.int .u64 (.l (i n4294967296)))))))])
 (.cond (.t n4) (.seq (.ops [(om n5 n0),(oq n6 (.bin .shr (.t n5) (.c (.d (.int .u64 (.l (i n32))))))),(om n0 n6)])
 (.ops [(oq n2 (.mv (k n32)))]))
 .skip))
 (.seq (.seq (.ops [(om n7 n0),(oq n8 (.bin .geq (.t n7) (.c (.d (.int .u64 (.l (i n65536)))))))])
 (.cond (.t n8) (.seq (.ops [(om n9 n0),(oq n10 (.bin .shr (.t n9) (.c (.d (.int .u64 (.l (i n16))))))),(om n0 n10)])
 (.ops [(om n11 n2),(oq n12 (.bin .add (.t n11) (k n16))),(om n2 n12)]))
 .skip))
 (.seq (.seq (.ops [(om n13 n0),(oq n14 (.bin .geq (.t n13) (.c (.d (.int .u64 (.l (i n256)))))))])
 (.cond (.t n14) (.seq (.ops [(om n15 n0),(oq n16 (.bin .shr (.t n15) (.c (.d (.int .u64 (.l (i n8))))))),(om n0 n16)])
 (.ops [(om n17 n2),(oq n18 (.bin .add (.t n17) (k n8))),(om n2 n18)]))
 .skip))
 (.seq (.ops [(om n19 n2),(om n20 n0),(oq n21 (.conv .u8 (.t n20))),(oq n22 (.idxs [0,1,2,2,3,3,3,3,4,4,4,4,4,4,4,4,5,5,5,5,5,5,5,5,5,5,5,5,5,5,5,5,6,6,6,6,6,6,6,6,6,6,6,6,6,6,6,6,6,6,6,6,6,6,6,6,6,6,6,6,6,6,6,6,7,7,7,7,7,7,7,7,7,7,7,7,7,7,7,7,7,7,7,7,7,7,7,7,7,7,7,7,7,7,7,7,7,7,7,7,7,7,7,7,7,7,7,7,7,7,7,7,7,7,7,7,7,7,7,7,7,7,7,7,7,7,7,7,8,8,8,8,8,8,8,8,8,8,8,8,8,8,8,8,8,8,8,8,8,8,8,8,8,8,8,8,8,8,8,8,8,8,8,8,8,8,8,8,8,8,8,8,8,8,8,8,8,8,8,8,8,8,8,8,8,8,8,8,8,8,8,8,8,8,8,8,8,8,8,8,8,8,8,8,8,8,8,8,8,8,8,8,8,8,8,8,8,8,8,8,8,8,8,8,8,8,8,8,8,8,8,8,8,8,8,8,8,8,8,8,8,8,8,8,8,8,8,8,8,8,8,8,8,8,8,8] (.t n21))),(oq n23 (.conv .i64 (.t n22))),(oq n24 (.bin .add (.t n19) (.t n23))),(om n2 n24)])
 .ret)))))
def x132 : XFn := ⟨a132,n25,[(.t n2)],c132⟩
def a133 : Ann := ⟨[(n1,n3,n3),(n1,n6,n3)],[]⟩
def c133 : ICode :=
 (.seq (.ops [(oq n1 (.box (.t n0))),(oq n2 (.mv (.c (.d (.raw (.pointer none))))))])
 (.seq (.draw n3 [(dz (of n4 n0 n1) n1 n0),(dz (of n7 n1 n1) n4 n0),(dq (oq n3 (.load (some n2) (.t n1))) n0 n0 [n0,n1,n2] [] false false),(dq (ol n5 n4) n2 n0 [n0,n1,n2] [] false false),(dq (ol n8 n7) n5 n0 [n0,n1,n2] [] false false),(dz (oq n11 (.mkmap true [.u8,.i64])) n8 n0),(dz (oq n12 (.mkmap true [.i64,.i64,.i64,.i64,.i64,.i64,.i64,.i64,.i64,.i64,.i64,.i64,.i64])) n9 n1),(dz (oq n6 (.call (.c (.fn n98 [] [])) [(.t n5)] .data)) n3 n0),(dz (oq n9 (.call (.c (.fn n98 [] [])) [(.t n8)] .data)) n6 n0),(dz (oq n10 (.build [.nil,.nil,.nil,.nil,(.int .i64 (.l (i n0)))] [(n0,n1,(.t n6)),(n1,n1,(.t n9))])) n7 n0),(dz (oq n13 (.build [.nil,.nil,.nil,.nil,.nil,.nil,(.int .i64 (.l (i n0))),(.raw (.map none)),(.raw (.map none))] [(n0,n2,(.t n3)),(n2,n5,(.t n10)),(n7,n1,(.t n11)),(n8,n1,(.t n12))])) n10 n2),(dz (oq n14 (.box (.t n13))) n11 n2),(dz (om n2 n14) n12 n3)])
 .ret))
def x133 : XFn := ⟨a133,n15,[(.t n2)],c133⟩
def a134 : Ann := ⟨[],[]⟩
def c134 : ICode :=
 (.seq (.ops [(oq n1 (.box (.t n0))),(oq n2 (.mv (.c (.d (.raw .nilFunc)))))])
 (.seq (.ops [(oq n3 (.mkfn n168 [] [(.t n1)])),(om n2 n3)])
 .ret))
def x134 : XFn := ⟨a134,n4,[(.t n2)],c134⟩
def a135 : Ann := ⟨[(n1,n2,n2)],[]⟩
def c135 : ICode :=
 (.seq (.ops [(oq n3 (.box (.t n1))),(oq n4 (.mv (.c (.d (.bool false)))))])
 (.seq (.ops [(om n5 n0),(oq n6 (.mkfn n170 [] [(.t n3)])),(oq n7 (.call (.c (.fn n169 [] [])) [(.t n5),(.t n6)] .raw)),(oq n8 (.un .not (.t n7))),(om n4 n8)])
 .ret))
def x135 : XFn := ⟨a135,n9,[(.t n4)],c135⟩
def a136 : Ann := ⟨[(n3,n3,n0)],[]⟩
def c136 : ICode :=
 (.seq (.ops [(oq n1 (.box (.t n0))),(oq n2 (.mv (.c (.d (.bool false)))))])
 (.seq (.seq (.ops [(of n3 n0 n1),(ol n4 n3),(oq n5 (.bin .gtr (.t n4) (.c (.d (.int .u8 (.l (i n0)))))))])
 (.cond (.t n5) (.seq (.ops [(of n6 n0 n1),(ol n7 n6),(oq n8 (.bin .leq (.t n7) (.c (.d (.int .u8 (.l (i n4))))))),(om n9 n8),(og n10 n9 true (.faddr n1 (.t n1))),(og n11 n9 true (.load none (.t n10))),(og n12 n9 true (.bin .eql (.t n11) (k n0))),(oq n13 (.pick (.t n9) (.t n12) (.c (.d (.bool false))))),(om n2 n13)])
 .ret)
 .skip))
 (.seq (.ops [(of n14 n1 n1),(ol n15 n14),(oq n16 (.bslice n1 n1 [(.int .i64 (.l (i n0)))] [(n0,(.t n15))] false)),(oq n17 (.call (.c (.fn n149 [] [])) [(.c (.d (.int .i64 (.l (.negSucc n9998))))),(k n9999),(.t n16)] .borrow)),(om n2 n17)])
 .ret)))
def x136 : XFn := ⟨a136,n18,[(.t n2)],c136⟩
def a137 : Ann := ⟨[(n2,n5,n2),(n8,n13,n2),(n10,n3,n2)],[]⟩
def c137 : ICode :=
 (.seq (.ops [(oq n10 (.mv (k n0)))])
 (.seq (.seq (.ops [(om n14 n0),(ol n15 n2),(oq n16 (.len (.t n15))),(oq n17 (.bin .eql (.t n14) (.t n16)))])
 (.cond (.t n17) (.seq (.draw n0 [(dz (om n20 n1) n2 n0),(dz (ol n18 n3) n0 n0),(dz (ol n19 n4) n1 n0),(dz (oq n21 (.iaddr n2 (.t n19) (.t n20))) n3 n0),(dz (oq n22 (.load (some n2) (.t n21))) n4 n0),(dq (oq n23 (.call (.c (.fn n138 [] [])) [(.t n18),(.t n22)] .raw)) n5 n0 [] [n0,n4,n3,n1,n2] true false),(dz (om n10 n23) n6 n0)])
 .ret)
 .skip))
 (.seq (.ops [(ol n24 n2),(om n25 n0),(oq n26 (.iaddr n1 (.t n24) (.t n25))),(ol n27 n26),(om n11 n27)])
 (.seq (.ops [(ol n28 n5),(om n29 n11),(oq n30 (.iaddr n1 (.t n28) (.t n29))),(ol n31 n30),(oq n32 (.mkslice n1 [(.int .i64 (.l (i n0)))] n8 (.t n31))),(om n12 n32)])
 (.seq (.seq (.ops [(om n33 n12),(oq n34 (.len (.t n33))),(oq n35 (.mv (k n0)))])
 (.block n0 (.loop (.seq (.ops [(oq n36 (.bin .lss (.t n35) (.t n34)))])
 (.seq (.cond (.t n36) .skip
 (.exit n0))
 (.seq (.block n1 (.seq (.ops [(om n37 n35),(om n13 n37)])
 (.draw n0 [(dq (om n38 n12) n0 n0 [] [] false true),(dq (om n39 n13) n1 n0 [] [] false true),(dz (om n41 n0) n3 n0),(dz (oq n42 (.bin .add (.t n41) (k n1))) n4 n0),(dz (om n43 n1) n5 n0),(dz (om n44 n13) n6 n0),(dz (om n46 n11) n8 n0),(dz (ol n40 n6) n2 n0),(dz (ol n45 n7) n7 n0),(dz (oq n47 (.iaddr n1 (.t n45) (.t n46))) n9 n0),(dz (ol n48 n47) n10 n0),(dz (oq n49 (.bin .mul (.t n44) (.t n48))) n11 n0),(dz (oq n50 (.bin .add (.t n43) (.t n49))) n12 n0),(dq (oq n51 (.call (.t n40) [(.t n42),(.t n50)] .raw)) n13 n0 [] [n2,n4,n12,n3,n5,n11,n6,n10,n9,n7,n8] false false),(dz (oq n52 (.iaddr n1 (.t n38) (.t n39))) n14 n0),⟨⟨none,none,.store n1 (.t n52) (.t n51)⟩,n15,n0,[],[n14,n13,n0,n1,n2,n3,n4,n5,n6,n7,n8,n9,n10,n11,n12],true,false⟩])))
 (.ops [(oq n53 (.bin .add (.t n35) (k n1))),(om n35 n53)])))))))
 (.seq (.ops [(ol n54 n3),(om n55 n11),(om n56 n12),(oq n57 (.call (.c (.fn n139 [] [])) [(.t n54),(.t n55),(.t n56)] .raw)),(om n10 n57)])
 .ret))))))
def x137 : XFn := ⟨a137,n58,[(.t n10)],c137⟩
def a138 : Ann := ⟨[(n5,n8,n3),(n6,n1,n0)],[]⟩
def c138 : ICode :=
 (.seq (.ops [(oq n3 (.box (.t n1))),(oq n4 (.mv (k n0)))])
 (.seq (.draw n0 [(dz (om n8 n0) n0 n0),(dz (oq n9 (.nilchk (.t n8))) n1 n0),(dz (of n10 n7 n9) n2 n0),(dz (ol n11 n10) n3 n0),(dz (oq n12 (.load (some n2) (.t n3))) n4 n0),(dz (oq n13 (.lookup true [.u8,.i64] true (.t n11) (.t n12))) n5 n0),(dz (om n7 n13) n6 n0),(dz (oq n14 (.extract (.t n7) n0)) n7 n0),(dz (oq n15 (.extract (.t n7) n1)) n8 n0),(dz (om n5 n14) n9 n0),(dz (om n6 n15) n10 n0)])
 (.seq (.seq (.ops [(om n16 n6),(oq n17 (.un .not (.t n16)))])
 (.cond (.t n17) (.seq (.ops [(om n18 n0),(oq n19 (.nilchk (.t n18))),(of n20 n2 n19),(of n21 n2 n20),(ol n22 n21),(oq n23 (.len (.t n22))),(om n5 n23)])
 (.seq (.draw n0 [(dz (om n24 n0) n0 n0),(dz (oq n25 (.nilchk (.t n24))) n1 n0),(dz (of n26 n7 n25) n2 n0),(dz (om n29 n5) n5 n0),(dz (ol n27 n26) n3 n0),(dz (oq n28 (.load (some n2) (.t n3))) n4 n0),⟨⟨none,none,.mapupd true [.u8,.i64] (.t n27) (.t n28) (.t n29)⟩,n6,n0,[],[n3,n4,n5,n0,n1,n2],true,false⟩])
 (.draw n0 [(dq (om n30 n0) n0 n0 [] [] false true),(dq (om n31 n0) n1 n0 [] [] false true),(dq (oq n32 (.nilchk (.t n31))) n2 n0 [] [] false true),(dq (of n33 n2 n32) n3 n0 [] [] false true),(dq (of n34 n2 n33) n4 n0 [] [] false true),(dq (ol n35 n34) n5 n0 [] [] false true),(dz (oq n36 (.load (some n2) (.t n3))) n6 n0),(dq (oq n37 (.bslice n2 n1 [(.int .u8 (.l (i n0))),(.int .i64 (.l (i n0)))] [(n0,(.t n36))] false)) n7 n0 [] [n6] false false),(dq (oq n38 (.appendN n2 n16 (.t n35) (.t n37) true)) n8 n0 [] [n5,n7,n4,n3,n2,n1,n6] false false),(dz (oq n39 (.nilchk (.t n30))) n9 n0),(dz (of n40 n2 n39) n10 n0),(dz (of n41 n2 n40) n11 n0),⟨⟨none,none,.store n1 (.t n41) (.t n38)⟩,n12,n0,[],[n11,n8,n0,n1,n2,n3,n4,n5,n6,n7,n10,n9],true,false⟩])))
 .skip))
 (.seq (.ops [(om n42 n5),(oq n43 (.call (.c (.fn n171 [] [])) [(.t n42)] .borrow)),(om n4 n43)])
 .ret))))
def x138 : XFn := ⟨a138,n44,[(.t n4)],c138⟩
def a139 : Ann := ⟨[(n1,n2,n2),(n9,n10,n3)],[]⟩
def c139 : ICode :=
 (.seq (.ops [(oq n5 (.box (.t n2))),(oq n6 (.mv (k n0)))])
 (.seq (.seq (.ops [(ol n10 n5),(oq n11 (.mkfn n173 [] [(.t n5)])),(oq n12 (.call (.c (.fn n172 [] [])) [(.t n10),(.t n11)] .raw))])
 (.cond (.t n12) (.seq (.ops [(ol n13 n5),(oq n14 (.iaddr n1 (.t n13) (k n0))),(ol n15 n14),(om n6 n15)])
 .ret)
 .skip))
 (.seq (.ops [(om n16 n1),(oq n17 (.build [(.int .i64 (.l (i n0))),(.int .i64 (.l (i n0))),(.int .i64 (.l (i n0))),(.int .i64 (.l (i n0))),(.int .i64 (.l (i n0))),(.int .i64 (.l (i n0))),(.int .i64 (.l (i n0))),(.int .i64 (.l (i n0))),(.int .i64 (.l (i n0))),(.int .i64 (.l (i n0))),(.int .i64 (.l (i n0))),(.int .i64 (.l (i n0))),(.int .i64 (.l (i n0)))] [(n0,n1,(.t n16))])),(oq n7 (.alloc [(.int .i64 (.l (i n0))),(.int .i64 (.l (i n0))),(.int .i64 (.l (i n0))),(.int .i64 (.l (i n0))),(.int .i64 (.l (i n0))),(.int .i64 (.l (i n0))),(.int .i64 (.l (i n0))),(.int .i64 (.l (i n0))),(.int .i64 (.l (i n0))),(.int .i64 (.l (i n0))),(.int .i64 (.l (i n0))),(.int .i64 (.l (i n0))),(.int .i64 (.l (i n0)))])),⟨none,none,.store n13 (.t n7) (.t n17)⟩])
 (.seq (.draw n0 [(dz (of n18 n1 n7) n0 n0),(dz (oq n19 (.slarr n12 (.t n18) none none)) n1 n0),(dz (ol n20 n5) n2 n0),(dq (oq n21 (.copy n1 (.t n19) (.t n20))) n3 n0 [] [n1,n2,n0] true false)])
 (.seq (.draw n0 [(dz (om n23 n0) n0 n0),(dz (oq n24 (.nilchk (.t n23))) n1 n0),(dz (of n25 n8 n24) n2 n0),(dz (ol n26 n25) n3 n0),(dz (oq n27 (.load (some n13) (.t n7))) n4 n0),(dz (oq n28 (.lookup true [.i64,.i64,.i64,.i64,.i64,.i64,.i64,.i64,.i64,.i64,.i64,.i64,.i64] true (.t n26) (.t n27))) n5 n0),(dz (om n22 n28) n6 n0),(dz (oq n29 (.extract (.t n22) n0)) n7 n0),(dz (oq n30 (.extract (.t n22) n1)) n8 n0),(dz (om n8 n29) n9 n0),(dz (om n9 n30) n10 n0)])
 (.seq (.seq (.ops [(om n31 n9),(oq n32 (.un .not (.t n31)))])
 (.cond (.t n32) (.seq (.ops [(om n33 n0),(oq n34 (.nilchk (.t n33))),(of n35 n2 n34),(of n36 n3 n35),(ol n37 n36),(oq n38 (.len (.t n37))),(om n8 n38)])
 (.seq (.draw n0 [(dz (om n39 n0) n0 n0),(dz (oq n40 (.nilchk (.t n39))) n1 n0),(dz (of n41 n8 n40) n2 n0),(dz (om n44 n8) n5 n0),(dz (ol n42 n41) n3 n0),(dz (oq n43 (.load (some n13) (.t n7))) n4 n0),⟨⟨none,none,.mapupd true [.i64,.i64,.i64,.i64,.i64,.i64,.i64,.i64,.i64,.i64,.i64,.i64,.i64] (.t n42) (.t n43) (.t n44)⟩,n6,n0,[],[n3,n4,n5,n0,n1,n2],true,false⟩])
 (.draw n0 [(dq (om n45 n0) n0 n0 [] [] false true),(dq (om n46 n0) n1 n0 [] [] false true),(dq (oq n47 (.nilchk (.t n46))) n2 n0 [] [] false true),(dq (of n48 n2 n47) n3 n0 [] [] false true),(dq (of n49 n3 n48) n4 n0 [] [] false true),(dz (om n51 n1) n6 n0),(dq (ol n50 n49) n5 n0 [] [] false true),(dz (ol n52 n5) n7 n0),(dz (oq n53 (.build [(.int .i64 (.l (i n0))),.nil] [(n0,n1,(.t n51)),(n1,n1,(.t n52))])) n8 n0),(dq (oq n54 (.bslice n2 n1 [(.int .i64 (.l (i n0))),.nil] [(n0,(.t n53))] false)) n9 n0 [] [n8,n6,n7] false false),(dq (oq n55 (.appendN n2 n32 (.t n50) (.t n54) true)) n10 n0 [] [n5,n9,n4,n3,n2,n1,n8,n6,n7] false false),(dz (oq n56 (.nilchk (.t n45))) n11 n0),(dz (of n57 n2 n56) n12 n0),(dz (of n58 n3 n57) n13 n0),⟨⟨none,none,.store n1 (.t n58) (.t n55)⟩,n14,n0,[],[n13,n10,n0,n1,n2,n3,n4,n5,n6,n7,n8,n9,n12,n11],true,false⟩])))
 .skip))
 (.seq (.ops [(om n59 n8),(om n6 n59)])
 .ret)))))))
def x139 : XFn := ⟨a139,n60,[(.t n6)],c139⟩
def a141 : Ann := ⟨[(n0,n5,n2)],[]⟩
def c141 : ICode :=
 (.ops [(om n4 n0),(om n5 n0),(oq n6 (.len (.t n5))),(om n7 n1),(oq n8 (.bin .sub (.t n6) (.t n7))),(oq n9 (.call (.c (.fn n174 [] [])) [(.t n4),(.t n8)] .raw))])
def x141 : XFn := ⟨a141,n10,[],c141⟩
def a142 : Ann := ⟨[(n4,n5,n2)],[]⟩
def c142 : ICode :=
 (.seq (.ops [(oq n4 (.mv (k n0)))])
 (.seq (.seq (.ops [(om n6 n0),(oq n7 (.len (.t n6))),(oq n8 (.mv (k n0)))])
 (.block n0 (.loop (.seq (.ops [(oq n9 (.bin .lss (.t n8) (.t n7)))])
 (.seq (.cond (.t n9) .skip
 (.exit n0))
 (.seq (.block n1 (.seq (.ops [(om n10 n8),(om n5 n10)])
 (.seq (.ops [(om n11 n1),(om n12 n0),(om n13 n5),(oq n14 (.iaddr n3 (.t n12) (.t n13))),(oq n15 (.load (some n3) (.t n14))),(oq n16 (.call (.t n11) [(.t n15)] .raw))])
 (.cond (.t n16) (.seq (.ops [(om n17 n5),(om n4 n17)])
 .ret)
 .skip))))
 (.ops [(oq n18 (.bin .add (.t n8) (k n1))),(om n8 n18)])))))))
 (.seq (.ops [(oq n4 (.mv (.c (.d (.int .i64 (.l (.negSucc n0)))))))])
 .ret)))
def x142 : XFn := ⟨a142,n19,[(.t n4)],c142⟩
def a143 : Ann := ⟨[(n1,n2,n2)],[]⟩
def c143 : ICode :=
 (.seq (.ops [(oq n4 (.mv (.c (.d (.bool false)))))])
 (.seq (.ops [(om n5 n0),(om n6 n1),(oq n7 (.call (.c (.fn n175 [] [])) [(.t n5),(.t n6)] .raw)),(oq n8 (.bin .geq (.t n7) (k n0))),(om n4 n8)])
 .ret))
def x143 : XFn := ⟨a143,n9,[(.t n4)],c143⟩
def a144 : Ann := ⟨[],[]⟩
def c144 : ICode :=
 (.seq (.ops [(oq n4 (.mv (.c (.d (.bool false)))))])
 (.seq (.ops [(om n5 n0),(ol n6 n1),(oq n7 (.bin .lss (.t n5) (.t n6))),(om n8 n7),(og n9 n8 false (.mv (.t n0))),(og n10 n8 false (.load none (.t n2))),(og n11 n8 false (.bin .gtr (.t n9) (.t n10))),(oq n12 (.pick (.t n8) (.c (.d (.bool true))) (.t n11))),(om n4 n12)])
 .ret))
def x144 : XFn := ⟨a144,n13,[(.t n4)],c144⟩
def a145 : Ann := ⟨[(n3,n3,n0),(n5,n3,n0),(n7,n7,n0),(n9,n3,n0)],[]⟩
def c145 : ICode :=
 (.seq (.ops [(oq n2 (.box (.t n0))),(oq n3 (.box (.t n1))),(oq n4 (.mv (.c (.d (.bool false)))))])
 (.seq (.seq (.ops [(of n5 n0 n3),(ol n6 n5)])
 (.block n0 (.seq (.ops [(oq n8 (.bin .eql (.t n6) (.c (.d (.int .u8 (.l (i n1))))))),(om n7 n8)])
 (.cond (.t n7) (.seq (.ops [(of n9 n4 n3),(ol n10 n9),(oq n11 (.bslice n1 n1 [(.int .i64 (.l (i n0)))] [(n0,(.t n10))] false)),(oq n12 (.call (.c (.fn n104 [] [])) [(.c (.d (.int .i64 (.l (.negSucc n9998))))),(k n9999),(.t n11)] .borrow)),(om n4 n12)])
 .ret)
 (.seq (.ops [(oq n14 (.bin .eql (.t n6) (.c (.d (.int .u8 (.l (i n2))))))),(om n13 n14)])
 (.cond (.t n13) (.seq (.ops [(of n15 n4 n3),(ol n16 n15),(oq n17 (.bslice n1 n1 [(.int .i64 (.l (i n0)))] [(n0,(.t n16))] false)),(oq n18 (.call (.c (.fn n104 [] [])) [(k n1),(k n4),(.t n17)] .borrow)),(om n4 n18)])
 .ret)
 (.seq (.ops [(oq n20 (.bin .eql (.t n6) (.c (.d (.int .u8 (.l (i n3))))))),(om n19 n20)])
 (.cond (.t n19) (.seq (.ops [(of n21 n0 n2),(ol n22 n21),(oq n23 (.len (.t n22))),(oq n24 (.bin .sub (.t n23) (k n1))),(of n25 n4 n3),(ol n26 n25),(oq n27 (.bslice n1 n1 [(.int .i64 (.l (i n0)))] [(n0,(.t n26))] false)),(oq n28 (.call (.c (.fn n104 [] [])) [(k n0),(.t n24),(.t n27)] .borrow)),(om n4 n28)])
 .ret)
 (.seq (.ops [(oq n30 (.bin .eql (.t n6) (.c (.d (.int .u8 (.l (i n4))))))),(om n29 n30)])
 (.cond (.t n29) (.seq (.ops [(of n31 n4 n3),(ol n32 n31),(oq n33 (.bslice n1 n1 [(.int .i64 (.l (i n0)))] [(n0,(.t n32))] false)),(oq n34 (.call (.c (.fn n104 [] [])) [(k n0),(k n31),(.t n33)] .borrow)),(om n4 n34)])
 .ret)
 .skip))))))))))
 (.seq (.ops [(of n35 n4 n3),(ol n36 n35),(oq n37 (.bin .eql (.t n36) (k n0))),(om n4 n37)])
 .ret)))
def x145 : XFn := ⟨a145,n38,[(.t n4)],c145⟩
def a146 : Ann := ⟨[],[]⟩
def c146 : ICode :=
 (.seq (.ops [(oq n1 (.box (.t n0))),(oq n2 (.alloc [(.int .i64 (.l (i n0))),(.int .i64 (.l (i n0))),(.int .i64 (.l (i n0)))]))])
 (.seq (.ops [(of n3 n1 n1),(ol n4 n3),(of n5 n2 n1),(ol n6 n5),(of n7 n3 n1),(ol n8 n7),(oq n9 (.build [(.int .i64 (.l (i n0))),(.int .i64 (.l (i n0))),(.int .i64 (.l (i n0)))] [(n0,n1,(.t n4)),(n1,n1,(.t n6)),(n2,n1,(.t n8))])),⟨none,none,.store n3 (.t n2) (.t n9)⟩])
 .ret))
def x146 : XFn := ⟨a146,n10,[(.c n2 (some n3))],c146⟩
def a147 : Ann := ⟨[],[]⟩
def c147 : ICode :=
 (.seq (.ops [(oq n2 (.mv (k n0)))])
 (.seq (.block n0 (.seq (.ops [(om n4 n0),(oq n5 (.bin .leq (.t n4) (.c (.d (.int .u8 (.l (i n4))))))),(om n3 n5)])
 (.cond (.t n3) (.seq (.ops [(oq n2 (.mv (k n0)))])
 .ret)
 (.seq (.ops [(om n7 n0),(oq n8 (.bin .leq (.t n7) (.c (.d (.int .u8 (.l (i n6))))))),(om n6 n8)])
 (.cond (.t n6) (.seq (.ops [(oq n2 (.mv (k n1)))])
 .ret)
 (.seq (.ops [(om n10 n0),(oq n11 (.bin .leq (.t n10) (.c (.d (.int .u8 (.l (i n16))))))),(om n9 n11)])
 (.cond (.t n9) (.seq (.ops [(oq n2 (.mv (k n2)))])
 .ret)
 .skip)))))))
 (.seq (.ops [(oq n2 (.mv (k n3)))])
 .ret)))
def x147 : XFn := ⟨a147,n12,[(.t n2)],c147⟩
def a148 : Ann := ⟨[(n1,n2,n2)],[]⟩
def c148 : ICode :=
 (.seq (.ops [(oq n3 (.mv (.c (.d (.bool false)))))])
 (.seq (.ops [(ol n4 n1),(om n5 n0),(oq n6 (.call (.t n4) [(.t n5)] .raw)),(oq n7 (.un .not (.t n6))),(om n3 n7)])
 .ret))
def x148 : XFn := ⟨a148,n8,[(.t n3)],c148⟩
def a149 : Ann := ⟨[(n1,n2,n2)],[]⟩
def c149 : ICode :=
 (.seq (.ops [(oq n3 (.box (.t n0))),(oq n4 (.box (.t n1))),(oq n6 (.mv (.c (.d (.bool false)))))])
 (.seq (.ops [(om n7 n2),(oq n8 (.mkfn n176 [] [(.t n3),(.t n4)])),(oq n9 (.call (.c (.fn n143 [] [])) [(.t n7),(.t n8)] .raw)),(oq n10 (.un .not (.t n9))),(om n6 n10)])
 .ret))
def x149 : XFn := ⟨a149,n11,[(.t n6)],c149⟩
def a150 : Ann := ⟨[(n1,n4,n0),(n1,n5,n2)],[]⟩
def c150 : ICode :=
 (.seq (.ops [(om n3 n0),(oq n4 (.len (.t n3))),(om n2 n4)])
 (.ops [(om n5 n0),(om n6 n2),(om n7 n2),(oq n8 (.conv .u64 (.t n7))),(oq n9 (.call (.c (.fn n93 [] [])) [(.t n8)] .borrow)),(oq n10 (.call (.c (.fn n177 [] [])) [(.t n5),(k n0),(.t n6),(.t n9)] .raw))]))
def x150 : XFn := ⟨a150,n11,[],c150⟩
def a151 : Ann := ⟨[],[]⟩
def c151 : ICode :=
 (.seq (.ops [(oq n2 (.mv (.c (.d .nil))))])
 (.seq (.ops [(om n5 n0),(oq n6 (.mkslice n1 [(.int .i64 (.l (i n0)))] n8 (.t n5))),(om n3 n6)])
 (.seq (.seq (.ops [(om n7 n0),(oq n8 (.mv (k n0)))])
 (.block n0 (.loop (.seq (.ops [(oq n9 (.bin .lss (.t n8) (.t n7)))])
 (.seq (.cond (.t n9) .skip
 (.exit n0))
 (.seq (.block n1 (.seq (.ops [(om n10 n8),(om n4 n10)])
 (.ops [(om n11 n3),(om n12 n4),(om n13 n4),(oq n14 (.iaddr n1 (.t n11) (.t n12))),⟨none,none,.store n1 (.t n14) (.t n13)⟩])))
 (.ops [(oq n15 (.bin .add (.t n8) (k n1))),(om n8 n15)])))))))
 (.seq (.ops [(om n16 n3),(om n2 n16)])
 .ret))))
def x151 : XFn := ⟨a151,n17,[(.t n2)],c151⟩
def a156 : Ann := ⟨[(n1,n4,n0),(n7,n2,n0),(n8,n3,n1),(n8,n6,n2),(n9,n6,n0)],[]⟩
def c156 : ICode :=
 (.seq (.ops [(oq n1 (.box (.t n0))),(oq n2 (.alloc [.nil,.nil,.nil,.nil,.nil,.nil,(.int .i64 (.l (i n0)))])),(oq n3 (.mv (k n0)))])
 (.seq (.seq (.ops [(of n5 n0 n1),(ol n6 n5),(of n7 n1 n1),(ol n8 n7),(oq n9 (.call (.c (.fn n109 [] [])) [(.t n6),(.t n8)] .borrow)),(om n4 n9)])
 (.seq (.ops [(om n10 n4),(oq n11 (.bin .neq (.t n10) (k n0)))])
 (.cond (.t n11) (.seq (.ops [(oq n12 (.load (some n7) (.t n2))),(om n13 n4),⟨none,none,.store n7 (.t n2) (.t n12)⟩,(om n3 n13)])
 .ret)
 .skip)))
 (.seq (.ops [(of n14 n0 n1),(ol n15 n14),(of n16 n1 n1),(ol n17 n16),(oq n18 (.build [.nil,.nil] [(n0,n1,(.t n15)),(n1,n1,(.t n17))])),(oq n19 (.load (some n5) (.t n1))),(oq n20 (.build [.nil,.nil,.nil,.nil,.nil,.nil,(.int .i64 (.l (i n0)))] [(n0,n2,(.t n18)),(n2,n5,(.t n19))])),⟨none,none,.store n7 (.t n2) (.t n20)⟩])
 (.seq (.block n0 (.seq (.ops [(of n22 n3 n1),(ol n23 n22),(oq n24 (.len (.t n23))),(oq n25 (.bin .gtr (.t n24) (k n6000))),(om n21 n25)])
 (.cond (.t n21) (.seq (.ops [(oq n26 (.load (some n7) (.t n2))),⟨none,none,.store n7 (.t n2) (.t n26)⟩,(oq n3 (.mv (k n5)))])
 .ret)
 (.seq (.seq (.ops [(of n28 n2 n1),(ol n29 n28),(oq n30 (.call (.c (.fn n135 [] [])) [(.t n29),(.c (.fn n136 [] []))] .borrow)),(oq n31 (.un .not (.t n30))),(om n27 n31)])
 (.cond (.t n27) .skip
 (.seq (.draw n0 [(dz (of n32 n3 n1) n0 n0),(dz (ol n33 n32) n1 n0),(dz (oq n34 (.len (.t n33))) n2 n0),(dq (oq n36 (.load (some n7) (.t n2))) n4 n0 [] [] false true),(dq (oq n37 (.mkfn n178 [(.t n36)] [])) n5 n0 [] [] false true),(dq (oq n35 (.call (.c (.fn n151 [] [])) [(.t n34)] .share)) n3 n0 [] [n2,n1,n0] false false),(dq (oq n38 (.call (.c (.fn n172 [] [])) [(.t n35),(.t n37)] .raw)) n6 n0 [] [n3,n5,n2,n1,n0,n4] true false),(dz (oq n39 (.un .not (.t n38))) n7 n0),(dz (om n27 n39) n8 n0)])
 (.cond (.t n27) .skip
 (.ops [(oq n40 (.load (some n7) (.t n2))),(of n41 n4 n1),(ol n42 n41),(of n43 n3 n1),(ol n44 n43),(oq n45 (.len (.t n44))),(oq n46 (.call (.c (.fn n179 [] [])) [(.t n40),(.t n42),(.t n45),(.c (.d (.int .i64 (.l (.negSucc n0)))))] .borrow)),(oq n47 (.un .not (.t n46))),(om n27 n47)])))))
 (.cond (.t n27) (.seq (.ops [(oq n48 (.load (some n7) (.t n2))),⟨none,none,.store n7 (.t n2) (.t n48)⟩,(oq n3 (.mv (k n4)))])
 .ret)
 .skip)))))
 (.seq (.ops [(oq n49 (.load (some n7) (.t n2))),⟨none,none,.store n7 (.t n2) (.t n49)⟩,(oq n3 (.mv (k n0)))])
 .ret)))))
def x156 : XFn := ⟨a156,n50,[(.c n2 (some n7)),(.t n3)],c156⟩
def a157 : Ann := ⟨[(n2,n4,n0),(n2,n10,n0),(n2,n17,n0),(n2,n25,n2)],[]⟩
def c157 : ICode :=
 (.seq (.ops [(oq n2 (.box (.t n0))),(oq n3 (.box (.t n1))),(oq n4 (.mv (.c (.d (.bool false)))))])
 (.seq (.ops [(oq n5 (.mv (.c (.fn n180 [] []))))])
 (.seq (.ops [(of n6 n0 n2),(ol n7 n6),(of n8 n0 n3),(ol n9 n8),(oq n10 (.call (.c (.fn n122 [] [])) [(.t n7),(.t n9)] .borrow)),(om n11 n10),(og n12 n11 true (.faddr n1 (.t n2))),(og n13 n11 true (.load none (.t n12))),(og n14 n11 true (.faddr n1 (.t n3))),(og n15 n11 true (.load none (.t n14))),(og n16 n11 true (.call (.c (.fn n122 [] [])) [(.t n13),(.t n15)] .borrow)),(oq n17 (.pick (.t n11) (.t n16) (.c (.d (.bool false))))),(om n18 n17),(og n19 n18 true (.faddr n2 (.t n2))),(og n20 n18 true (.load none (.t n19))),(og n21 n18 true (.faddr n2 (.t n3))),(og n22 n18 true (.load none (.t n21))),(og n23 n18 true (.call (.c (.fn n181 [] [])) [(.t n20),(.t n22)] .borrow)),(oq n24 (.pick (.t n18) (.t n23) (.c (.d (.bool false))))),(om n25 n24),(og n26 n25 true (.faddr n3 (.t n2))),(og n27 n25 true (.load none (.t n26))),(og n28 n25 true (.faddr n3 (.t n3))),(og n29 n25 true (.load none (.t n28))),(og n30 n25 true (.mv (.t n5))),(og n31 n25 true (.call (.c (.fn n182 [] [])) [(.t n27),(.t n29),(.t n30)] .raw)),(oq n32 (.pick (.t n25) (.t n31) (.c (.d (.bool false))))),(om n33 n32),(og n34 n33 true (.faddr n4 (.t n2))),(og n35 n33 true (.load none (.t n34))),(og n36 n33 true (.faddr n4 (.t n3))),(og n37 n33 true (.load none (.t n36))),(og n38 n33 true (.bin .eql (.t n35) (.t n37))),(oq n39 (.pick (.t n33) (.t n38) (.c (.d (.bool false))))),(om n4 n39)])
 .ret)))
def x157 : XFn := ⟨a157,n40,[(.t n4)],c157⟩
def a158 : Ann := ⟨[(n1,n2,n2),(n5,n5,n2)],[]⟩
def c158 : ICode :=
 (.seq (.ops [(oq n1 (.box (.t n0))),(oq n2 (.alloc [.nil,.nil,.nil,.nil,(.int .i64 (.l (i n0)))]))])
 (.seq (.ops [(of n6 n0 n1),(oq n7 (.load (some n2) (.t n6))),(oq n8 (.call (.c (.fn n133 [] [])) [(.t n7)] .raw)),(oq n3 (.alloc [(.raw (.pointer none))])),⟨none,none,.store n1 (.t n3) (.t n8)⟩])
 (.seq (.ops [(oq n9 (.mkmap false [.i64])),(oq n4 (.alloc [(.raw (.map none))])),⟨none,none,.store n1 (.t n4) (.t n9)⟩])
 (.seq (.ops [(oq n5 (.alloc [(.raw .nilFunc)]))])
 (.seq (.ops [(oq n10 (.mkfn n183 [] [(.t n3),(.t n1),(.t n4),(.t n5)])),⟨none,none,.store n1 (.t n5) (.t n10)⟩])
 (.seq (.draw n0 [(dz (of n13 n2 n1) n2 n0),(dz (of n14 n4 n13) n3 n0),(dq (ol n11 n3) n0 n0 [] [] false true),(dz (ol n12 n5) n1 n0),(dz (ol n15 n14) n4 n0),(dq (oq n16 (.call (.t n12) [(.t n15)] .raw)) n5 n0 [] [n1,n4,n3,n2] false false),(dz (oq n17 (.nilchk (.t n11))) n6 n0),(dz (of n18 n2 n17) n7 n0),(dz (of n19 n4 n18) n8 n0),⟨⟨none,none,.store n1 (.t n19) (.t n16)⟩,n9,n0,[],[n8,n5,n0,n1,n2,n3,n4,n7,n6],true,false⟩])
 (.seq (.ops [(ol n20 n3),(oq n21 (.nilchk (.t n20))),(of n22 n2 n21),(oq n23 (.load (some n5) (.t n22))),⟨none,none,.store n5 (.t n2) (.t n23)⟩])
 .ret)))))))
def x158 : XFn := ⟨a158,n24,[(.c n2 (some n5))],c158⟩
def a159 : Ann := ⟨[(n4,n3,n2)],[]⟩
def c159 : ICode :=
 (.seq (.ops [(oq n2 (.box (.t n0)))])
 (.seq (.ops [(of n7 n0 n2),(ol n8 n7),(oq n9 (.len (.t n8))),(oq n10 (.mkslice n1 [(.int .i64 (.l (i n0)))] n8 (.t n9))),(om n4 n10)])
 (.seq (.ops [(oq n5 (.mv (k n0)))])
 (.block n0 (.loop (.seq (.block n1 (.seq (.seq (.ops [(om n13 n1),(om n14 n5),(om n15 n4),(oq n16 (.call (.t n13) [(.t n14),(.t n15)] .raw)),(oq n17 (.un .not (.t n16)))])
 (.cond (.t n17) .ret
 .skip))
 (.seq (.ops [(om n18 n4),(oq n19 (.len (.t n18))),(oq n20 (.bin .sub (.t n19) (k n1))),(om n6 n20)])
 (.seq (.block n2 (.loop (.seq (.seq (.draw n0 [(dz (om n21 n6) n0 n0),(dz (oq n22 (.bin .geq (.t n21) (k n0))) n1 n0),(dz (om n23 n22) n2 n0),(dz (og n24 n23 true (.mv (.t n4))) n3 n0),(dz (og n25 n23 true (.mv (.t n6))) n4 n0),(dz (og n26 n23 true (.iaddr n1 (.t n24) (.t n25))) n5 n0),(dz (og n28 n23 true (.faddr n0 (.t n2))) n7 n0),(dz (og n30 n23 true (.mv (.t n6))) n9 n0),(dz (og n27 n23 true (.load none (.t n26))) n6 n0),(dz (og n29 n23 true (.load none (.t n28))) n8 n0),(dz (og n31 n23 true (.iaddr n1 (.t n29) (.t n30))) n10 n0),(dz (og n32 n23 true (.load none (.t n31))) n11 n0),(dz (og n33 n23 true (.bin .sub (.t n32) (k n1))) n12 n0),(dz (og n34 n23 true (.bin .eql (.t n27) (.t n33))) n13 n0),(dz (oq n35 (.pick (.t n23) (.t n34) (.c (.d (.bool false))))) n14 n0)])
 (.cond (.t n35) .skip
 (.exit n2)))
 (.block n3 (.seq (.ops [(om n36 n4),(om n37 n6),(oq n38 (.iaddr n1 (.t n36) (.t n37))),⟨none,none,.store n1 (.t n38) (k n0)⟩])
 (.ops [(om n39 n6),(oq n40 (.bin .sub (.t n39) (k n1))),(om n6 n40)]))))))
 (.seq (.seq (.ops [(om n41 n6),(oq n42 (.bin .lss (.t n41) (k n0)))])
 (.cond (.t n42) .ret
 .skip))
 (.ops [(om n43 n4),(om n44 n6),(oq n45 (.iaddr n1 (.t n43) (.t n44))),(ol n46 n45),(oq n47 (.bin .add (.t n46) (k n1))),(oq n48 (.iaddr n1 (.t n43) (.t n44))),⟨none,none,.store n1 (.t n48) (.t n47)⟩]))))))
 (.ops [(om n11 n5),(oq n12 (.bin .add (.t n11) (k n1))),(om n5 n12)])))))))
def x159 : XFn := ⟨a159,n49,[],c159⟩
def a160 : Ann := ⟨[(n3,n2,n2),(n5,n1,n0)],[]⟩
def c160 : ICode :=
 (.seq (.ops [(oq n3 (.box (.t n0))),(oq n6 (.mv (k n0)))])
 (.seq (.ops [(of n8 n2 n3),(of n9 n4 n8),(ol n10 n9),(om n7 n10)])
 (.seq (.block n0 (.loop (.seq (.seq (.ops [(om n11 n7),(oq n12 (.bin .geq (.t n11) (k n0)))])
 (.cond (.t n12) .skip
 (.exit n0)))
 (.block n1 (.seq (.ops [(om n13 n2),(om n14 n7),(oq n15 (.call (.t n13) [(.t n14)] .raw))])
 (.draw n0 [(dz (of n16 n2 n3) n0 n0),(dz (of n17 n3 n16) n1 n0),(dz (om n19 n7) n3 n0),(dz (om n23 n1) n7 n0),(dz (of n24 n2 n3) n8 n0),(dz (of n25 n3 n24) n9 n0),(dz (om n27 n7) n11 n0),(dz (ol n18 n17) n2 n0),(dz (oq n20 (.iaddr n2 (.t n18) (.t n19))) n4 n0),(dz (of n21 n1 n20) n5 n0),(dz (ol n22 n21) n6 n0),(dz (ol n26 n25) n10 n0),(dz (oq n28 (.iaddr n2 (.t n26) (.t n27))) n12 n0),(dz (of n29 n0 n28) n13 n0),(dz (ol n30 n29) n14 n0),(dz (oq n31 (.iaddr n1 (.t n23) (.t n30))) n15 n0),(dz (ol n32 n31) n16 n0),(dz (oq n33 (.iaddr n1 (.t n22) (.t n32))) n17 n0),(dz (ol n34 n33) n18 n0),(dz (om n7 n34) n19 n0)]))))))
 (.seq (.ops [(om n35 n7),(oq n36 (.call (.c (.fn n171 [] [])) [(.t n35)] .borrow)),(om n6 n36)])
 .ret))))
def x160 : XFn := ⟨a160,n37,[(.t n6)],c160⟩
def a161 : Ann := ⟨[],[]⟩
def c161 : ICode :=
 .skip
def x161 : XFn := ⟨a161,n2,[],c161⟩
def a162 : Ann := ⟨[(n4,n5,n2)],[]⟩
def c162 : ICode :=
 (.seq (.ops [(oq n4 (.mv (k n0)))])
 (.seq (.seq (.ops [(om n6 n0),(oq n7 (.len (.t n6))),(oq n8 (.mv (k n0)))])
 (.block n0 (.loop (.seq (.ops [(oq n9 (.bin .lss (.t n8) (.t n7)))])
 (.seq (.cond (.t n9) .skip
 (.exit n0))
 (.seq (.block n1 (.seq (.ops [(om n10 n8),(om n5 n10)])
 (.seq (.ops [(om n11 n1),(om n12 n0),(om n13 n5),(oq n14 (.iaddr n5 (.t n12) (.t n13))),(oq n15 (.load (some n5) (.t n14))),(oq n16 (.call (.t n11) [(.t n15)] .raw))])
 (.cond (.t n16) (.seq (.ops [(om n17 n5),(om n4 n17)])
 .ret)
 .skip))))
 (.ops [(oq n18 (.bin .add (.t n8) (k n1))),(om n8 n18)])))))))
 (.seq (.ops [(oq n4 (.mv (.c (.d (.int .i64 (.l (.negSucc n0)))))))])
 .ret)))
def x162 : XFn := ⟨a162,n19,[(.t n4)],c162⟩
def a163 : Ann := ⟨[(n3,n19,n2),(n5,n13,n2)],[]⟩
def c163 : ICode :=
 (.seq (.ops [(om n12 n1),(om n10 n12)])
 (.block n0 (.loop (.block n1 (.seq (.ops [(om n13 n10),(oq n14 (.bin .mul (k n2) (.t n13))),(oq n15 (.bin .add (.t n14) (k n1))),(om n11 n15)])
 (.seq (.seq (.ops [(om n16 n11),(om n17 n2),(oq n18 (.bin .geq (.t n16) (.t n17)))])
 (.cond (.t n18) (.exit n0)
 .skip))
 (.seq (.seq (.draw n0 [(dz (om n19 n11) n0 n0),(dz (oq n20 (.bin .add (.t n19) (k n1))) n1 n0),(dz (om n21 n2) n2 n0),(dz (oq n22 (.bin .lss (.t n20) (.t n21))) n3 n0),(dz (om n23 n22) n4 n0),(dz (og n24 n23 true (.mv (.t n4))) n5 n0),(dz (og n25 n23 true (.mv (.t n0))) n6 n0),(dz (og n26 n23 true (.mv (.t n3))) n7 n0),(dz (og n27 n23 true (.mv (.t n11))) n8 n0),(dz (og n28 n23 true (.bin .add (.t n26) (.t n27))) n9 n0),(dz (og n29 n23 true (.iaddr n2 (.t n25) (.t n28))) n10 n0),(dz (og n31 n23 true (.mv (.t n0))) n12 n0),(dz (og n32 n23 true (.mv (.t n3))) n13 n0),(dz (og n33 n23 true (.mv (.t n11))) n14 n0),(dz (og n34 n23 true (.bin .add (.t n32) (.t n33))) n15 n0),(dz (og n35 n23 true (.bin .add (.t n34) (k n1))) n16 n0),(dz (og n36 n23 true (.iaddr n2 (.t n31) (.t n35))) n17 n0),(dz (og n30 n23 true (.load (some n2) (.t n29))) n11 n0),(dz (og n37 n23 true (.load (some n2) (.t n36))) n18 n0),(dq (og n38 n23 true (.call (.t n24) [(.t n30),(.t n37)] .raw)) n19 n0 [] [n5,n11,n18,n4,n3,n1,n2,n0,n10,n6,n9,n7,n8,n17,n12,n16,n15,n13,n14] true false),(dz (og n39 n23 true (.bin .lss (.t n38) (k n0))) n20 n0),(dz (oq n40 (.pick (.t n23) (.t n39) (.c (.d (.bool false))))) n21 n0)])
 (.cond (.t n40) (.ops [(om n41 n11),(oq n42 (.bin .add (.t n41) (k n1))),(om n11 n42)])
 .skip))
 (.seq (.seq (.draw n0 [(dz (om n43 n4) n0 n0),(dz (om n44 n0) n1 n0),(dz (om n45 n3) n2 n0),(dz (om n46 n10) n3 n0),(dz (oq n47 (.bin .add (.t n45) (.t n46))) n4 n0),(dz (oq n48 (.iaddr n2 (.t n44) (.t n47))) n5 n0),(dz (om n50 n0) n7 n0),(dz (om n51 n3) n8 n0),(dz (om n52 n11) n9 n0),(dz (oq n53 (.bin .add (.t n51) (.t n52))) n10 n0),(dz (oq n54 (.iaddr n2 (.t n50) (.t n53))) n11 n0),(dz (oq n49 (.load (some n2) (.t n48))) n6 n0),(dz (oq n55 (.load (some n2) (.t n54))) n12 n0),(dq (oq n56 (.call (.t n43) [(.t n49),(.t n55)] .raw)) n13 n0 [] [n0,n6,n12,n5,n1,n4,n2,n3,n11,n7,n10,n8,n9] true false),(dz (oq n57 (.bin .lss (.t n56) (k n0))) n14 n0),(dz (oq n58 (.un .not (.t n57))) n15 n0)])
 (.cond (.t n58) .ret
 .skip))
 (.seq (.draw n0 [(dz (om n59 n0) n0 n0),(dz (om n60 n3) n1 n0),(dz (om n61 n10) n2 n0),(dz (oq n62 (.bin .add (.t n60) (.t n61))) n3 n0),(dq (om n63 n0) n4 n0 [] [] false true),(dq (om n64 n3) n5 n0 [] [] false true),(dq (om n65 n11) n6 n0 [] [] false true),(dq (oq n66 (.bin .add (.t n64) (.t n65))) n7 n0 [] [] false true),(dz (om n67 n0) n8 n0),(dz (om n68 n3) n9 n0),(dz (om n69 n11) n10 n0),(dz (oq n70 (.bin .add (.t n68) (.t n69))) n11 n0),(dz (oq n71 (.iaddr n2 (.t n67) (.t n70))) n12 n0),(dz (om n73 n0) n14 n0),(dz (om n74 n3) n15 n0),(dz (om n75 n10) n16 n0),(dz (oq n76 (.bin .add (.t n74) (.t n75))) n17 n0),(dz (oq n77 (.iaddr n2 (.t n73) (.t n76))) n18 n0),(dz (oq n72 (.load (some n2) (.t n71))) n13 n0),(dz (oq n78 (.load (some n2) (.t n77))) n19 n0),(dz (oq n79 (.iaddr n2 (.t n59) (.t n62))) n20 n0),⟨⟨none,none,.store n2 (.t n79) (.t n72)⟩,n21,n0,[],[n20,n13,n0,n1,n2,n3,n8,n9,n10,n11,n12,n19,n18,n14,n17,n15,n16],false,false⟩,(dz (oq n80 (.iaddr n2 (.t n63) (.t n66))) n22 n0),⟨⟨none,none,.store n2 (.t n80) (.t n78)⟩,n23,n0,[],[n22,n19,n21,n0,n1,n2,n3,n4,n5,n6,n7,n8,n9,n10,n11,n12,n13,n14,n15,n16,n17,n18,n20],true,false⟩])
 (.ops [(om n81 n11),(om n10 n81)]))))))))))
def x163 : XFn := ⟨a163,n82,[],c163⟩
def a164 : Ann := ⟨[(n1,n2,n0)],[]⟩
def c164 : ICode :=
 (.seq (.ops [(oq n2 (.mv (.c (.d (.int .u64 (.l (i n0)))))))])
 (.seq (.ops [(om n3 n0),(oq n4 (.conv .u64 (.t n3))),(oq n5 (.call (.c (.fn n93 [] [])) [(.t n4)] .borrow)),(oq n6 (.bin .shl (.c (.d (.int .u64 (.l (i n1))))) (.t n5))),(om n2 n6)])
 .ret))
def x164 : XFn := ⟨a164,n7,[(.t n2)],c164⟩
def a165 : Ann := ⟨[],[]⟩
def c165 : ICode :=
 (.seq (.ops [(oq n2 (.mv (.c (.d (.int .u64 (.l (i n0)))))))])
 (.seq (.draw n0 [(dz (om n3 n0) n0 n0),(dz (oq n4 (.nilchk (.t n3))) n1 n0),(dz (om n6 n0) n3 n0),(dz (oq n7 (.nilchk (.t n6))) n4 n0),(dz (ol n5 n4) n2 n0),(dz (ol n8 n7) n5 n0),(dz (oq n9 (.bin .shl (.t n8) (.c (.d (.int .u64 (.l (i n13))))))) n6 n0),(dz (oq n10 (.bin .xor (.t n5) (.t n9))) n7 n0),(dz (oq n11 (.nilchk (.t n3))) n8 n0),⟨⟨none,none,.store n1 (.t n11) (.t n10)⟩,n9,n0,[],[n8,n7,n0,n1,n2,n3,n4,n5,n6],true,false⟩])
 (.seq (.draw n0 [(dz (om n12 n0) n0 n0),(dz (oq n13 (.nilchk (.t n12))) n1 n0),(dz (om n15 n0) n3 n0),(dz (oq n16 (.nilchk (.t n15))) n4 n0),(dz (ol n14 n13) n2 n0),(dz (ol n17 n16) n5 n0),(dz (oq n18 (.bin .shr (.t n17) (.c (.d (.int .u64 (.l (i n7))))))) n6 n0),(dz (oq n19 (.bin .xor (.t n14) (.t n18))) n7 n0),(dz (oq n20 (.nilchk (.t n12))) n8 n0),⟨⟨none,none,.store n1 (.t n20) (.t n19)⟩,n9,n0,[],[n8,n7,n0,n1,n2,n3,n4,n5,n6],true,false⟩])
 (.seq (.draw n0 [(dz (om n21 n0) n0 n0),(dz (oq n22 (.nilchk (.t n21))) n1 n0),(dz (om n24 n0) n3 n0),(dz (oq n25 (.nilchk (.t n24))) n4 n0),(dz (ol n23 n22) n2 n0),(dz (ol n26 n25) n5 n0),(dz (oq n27 (.bin .shl (.t n26) (.c (.d (.int .u64 (.l (i n17))))))) n6 n0),(dz (oq n28 (.bin .xor (.t n23) (.t n27))) n7 n0),(dz (oq n29 (.nilchk (.t n21))) n8 n0),⟨⟨none,none,.store n1 (.t n29) (.t n28)⟩,n9,n0,[],[n8,n7,n0,n1,n2,n3,n4,n5,n6],true,false⟩])
 (.seq (.ops [(om n30 n0),(oq n31 (.nilchk (.t n30))),(ol n32 n31),(om n2 n32)])
 .ret)))))
def x165 : XFn := ⟨a165,n33,[(.t n2)],c165⟩
def a166 : Ann := ⟨[(n1,n8,n2)],[]⟩
def c166 : ICode :=
 (.seq (.ops [(oq n8 (.mv (k n0)))])
 (.seq (.ops [(om n9 n0),(om n10 n1),(oq n11 (.bin .sub (.t n10) (k n1))),(om n12 n1),(om n13 n1),(oq n14 (.bin .add (.t n13) (k n1))),(om n15 n2),(om n16 n3),(oq n17 (.call (.c (.fn n167 [] [])) [(.t n9),(.t n11),(.t n12),(.t n14),(.t n15),(.t n16)] .raw)),(om n8 n17)])
 .ret))
def x166 : XFn := ⟨a166,n18,[(.t n8)],c166⟩
def a167 : Ann := ⟨[(n1,n5,n2),(n2,n5,n2),(n3,n5,n2)],[]⟩
def c167 : ICode :=
 (.seq (.ops [(oq n12 (.mv (k n0)))])
 (.seq (.ops [(om n14 n0),(om n15 n1),(om n16 n2),(om n17 n4),(om n18 n5),(oq n19 (.call (.c (.fn n184 [] [])) [(.t n14),(.t n15),(.t n16),(.t n17),(.t n18)] .raw)),(om n13 n19),(oq n20 (.extract (.t n13) n0)),(oq n21 (.extract (.t n13) n1)),(om n1 n20),(om n2 n21)])
 (.seq (.ops [(om n23 n0),(om n24 n2),(om n25 n3),(om n26 n4),(om n27 n5),(oq n28 (.call (.c (.fn n184 [] [])) [(.t n23),(.t n24),(.t n25),(.t n26),(.t n27)] .raw)),(om n22 n28),(oq n29 (.extract (.t n22) n0)),(oq n30 (.extract (.t n22) n1)),(om n2 n29),(om n3 n30)])
 (.seq (.ops [(om n32 n0),(om n33 n1),(om n34 n2),(om n35 n4),(om n36 n5),(oq n37 (.call (.c (.fn n184 [] [])) [(.t n32),(.t n33),(.t n34),(.t n35),(.t n36)] .raw)),(om n31 n37),(oq n38 (.extract (.t n31) n0)),(oq n39 (.extract (.t n31) n1)),(om n1 n38),(om n2 n39)])
 (.seq (.ops [(om n40 n2),(om n12 n40)])
 .ret)))))
def x167 : XFn := ⟨a167,n41,[(.t n12)],c167⟩
def a168 : Ann := ⟨[(n3,n6,n2)],[]⟩
def c168 : ICode :=
 (.seq (.ops [(ol n4 n1),(oq n5 (.len (.t n4))),(oq n6 (.bin .sub (.t n5) (k n1))),(om n3 n6)])
 (.block n0 (.loop (.seq (.seq (.ops [(om n7 n3),(oq n8 (.bin .geq (.t n7) (k n0)))])
 (.cond (.t n8) .skip
 (.exit n0)))
 (.seq (.block n1 (.seq (.ops [(om n11 n0),(om n12 n3),(ol n13 n1),(om n14 n3),(oq n15 (.iaddr n1 (.t n13) (.t n14))),(ol n16 n15),(oq n17 (.call (.t n11) [(.t n12),(.t n16)] .raw)),(oq n18 (.un .not (.t n17)))])
 (.cond (.t n18) .ret
 .skip)))
 (.ops [(om n9 n3),(oq n10 (.bin .sub (.t n9) (k n1))),(om n3 n10)]))))))
def x168 : XFn := ⟨a168,n19,[],c168⟩
def a169 : Ann := ⟨[(n1,n2,n2)],[]⟩
def c169 : ICode :=
 (.seq (.ops [(oq n4 (.mv (.c (.d (.bool false)))))])
 (.seq (.ops [(om n5 n0),(om n6 n1),(oq n7 (.call (.c (.fn n185 [] [])) [(.t n5),(.t n6)] .raw)),(oq n8 (.bin .geq (.t n7) (k n0))),(om n4 n8)])
 .ret))
def x169 : XFn := ⟨a169,n9,[(.t n4)],c169⟩
def a170 : Ann := ⟨[(n1,n2,n2)],[]⟩
def c170 : ICode :=
 (.seq (.ops [(oq n2 (.box (.t n0))),(oq n3 (.mv (.c (.d (.bool false)))))])
 (.seq (.ops [(ol n4 n1),(oq n5 (.load (some n2) (.t n2))),(oq n6 (.call (.t n4) [(.t n5)] .raw)),(oq n7 (.un .not (.t n6))),(om n3 n7)])
 .ret))
def x170 : XFn := ⟨a170,n8,[(.t n3)],c170⟩
def a171 : Ann := ⟨[],[]⟩
def c171 : ICode :=
 (.seq (.ops [(oq n2 (.mv (k n0)))])
 (.seq (.ops [(om n3 n0),(oq n4 (.bin .sub (.c (.d (.int .i64 (.l (.negSucc n0))))) (.t n3))),(om n2 n4)])
 .ret))
def x171 : XFn := ⟨a171,n5,[(.t n2)],c171⟩
def a172 : Ann := ⟨[(n1,n2,n2)],[]⟩
def c172 : ICode :=
 (.seq (.ops [(oq n3 (.box (.t n1))),(oq n4 (.mv (.c (.d (.bool false)))))])
 (.seq (.ops [(om n5 n0),(oq n6 (.mkfn n186 [] [(.t n3)])),(oq n7 (.call (.c (.fn n143 [] [])) [(.t n5),(.t n6)] .raw)),(oq n8 (.un .not (.t n7))),(om n4 n8)])
 .ret))
def x172 : XFn := ⟨a172,n9,[(.t n4)],c172⟩
def a173 : Ann := ⟨[],[]⟩
def c173 : ICode :=
 (.seq (.ops [(oq n3 (.mv (.c (.d (.bool false)))))])
 (.seq (.ops [(om n4 n0),(ol n5 n1),(oq n6 (.iaddr n1 (.t n5) (k n0))),(ol n7 n6),(oq n8 (.bin .eql (.t n4) (.t n7))),(om n3 n8)])
 .ret))
def x173 : XFn := ⟨a173,n9,[(.t n3)],c173⟩
def a174 : Ann := ⟨[(n0,n3,n2),(n1,n3,n2),(n2,n1,n2)],[]⟩
def c174 : ICode :=
 (.seq (.ops [(om n4 n0),(om n5 n1),(oq n6 (.slice n1 (.t n4) none (some (.t n5)) none)),(oq n7 (.call (.c (.fn n187 [] [])) [(.t n6)] .raw))])
 (.seq (.ops [(om n8 n0),(om n9 n1),(oq n10 (.slice n1 (.t n8) (some (.t n9)) none none)),(oq n11 (.call (.c (.fn n187 [] [])) [(.t n10)] .raw))])
 (.ops [(om n12 n0),(oq n13 (.call (.c (.fn n187 [] [])) [(.t n12)] .raw))])))
def x174 : XFn := ⟨a174,n14,[],c174⟩
def a175 : Ann := ⟨[(n4,n5,n2)],[]⟩
def c175 : ICode :=
 (.seq (.ops [(oq n4 (.mv (k n0)))])
 (.seq (.seq (.ops [(om n6 n0),(oq n7 (.len (.t n6))),(oq n8 (.mv (k n0)))])
 (.block n0 (.loop (.seq (.ops [(oq n9 (.bin .lss (.t n8) (.t n7)))])
 (.seq (.cond (.t n9) .skip
 (.exit n0))
 (.seq (.block n1 (.seq (.ops [(om n10 n8),(om n5 n10)])
 (.seq (.ops [(om n11 n1),(om n12 n0),(om n13 n5),(oq n14 (.iaddr n1 (.t n12) (.t n13))),(ol n15 n14),(oq n16 (.call (.t n11) [(.t n15)] .raw))])
 (.cond (.t n16) (.seq (.ops [(om n17 n5),(om n4 n17)])
 .ret)
 .skip))))
 (.ops [(oq n18 (.bin .add (.t n8) (k n1))),(om n8 n18)])))))))
 (.seq (.ops [(oq n4 (.mv (.c (.d (.int .i64 (.l (.negSucc n0)))))))])
 .ret)))
def x175 : XFn := ⟨a175,n19,[(.t n4)],c175⟩
def a176 : Ann := ⟨[],[]⟩
def c176 : ICode :=
 (.seq (.ops [(oq n4 (.mv (.c (.d (.bool false)))))])
 (.seq (.ops [(om n5 n0),(ol n6 n1),(oq n7 (.bin .lss (.t n5) (.t n6))),(om n8 n7),(og n9 n8 false (.mv (.t n0))),(og n10 n8 false (.load none (.t n2))),(og n11 n8 false (.bin .gtr (.t n9) (.t n10))),(oq n12 (.pick (.t n8) (.c (.d (.bool true))) (.t n11))),(om n4 n12)])
 .ret))
def x176 : XFn := ⟨a176,n13,[(.t n4)],c176⟩
def a177 : Ann := ⟨[(n4,n3,n2),(n6,n3,n2),(n8,n3,n2),(n10,n3,n2),(n12,n3,n2),(n16,n3,n2),(n17,n12,n0),(n18,n4,n2),(n20,n4,n2),(n26,n4,n2),(n29,n5,n2)],[]⟩
def c177 : ICode :=
 (.seq (.ops [(oq n8 (.mv (.c (.d (.bool true)))))])
 (.seq (.ops [(oq n9 (.mv (.c (.d (.bool true)))))])
 (.block n0 (.loop (.block n1 (.seq (.ops [(om n19 n2),(om n20 n1),(oq n21 (.bin .sub (.t n19) (.t n20))),(om n10 n21)])
 (.seq (.seq (.ops [(om n22 n10),(oq n23 (.bin .leq (.t n22) (k n12)))])
 (.cond (.t n23) (.seq (.ops [(om n24 n0),(om n25 n1),(om n26 n2),(oq n27 (.call (.c (.fn n188 [] [])) [(.t n24),(.t n25),(.t n26)] .raw))])
 .ret)
 .skip))
 (.seq (.seq (.ops [(om n28 n3),(oq n29 (.bin .eql (.t n28) (k n0)))])
 (.cond (.t n29) (.seq (.ops [(om n30 n0),(om n31 n1),(om n32 n2),(oq n33 (.call (.c (.fn n189 [] [])) [(.t n30),(.t n31),(.t n32)] .raw))])
 .ret)
 .skip))
 (.seq (.seq (.ops [(om n34 n8),(oq n35 (.un .not (.t n34)))])
 (.cond (.t n35) (.seq (.ops [(om n36 n0),(om n37 n1),(om n38 n2),(oq n39 (.call (.c (.fn n190 [] [])) [(.t n36),(.t n37),(.t n38)] .raw))])
 (.ops [(om n40 n3),(oq n41 (.bin .sub (.t n40) (k n1))),(om n3 n41)]))
 .skip))
 (.seq (.ops [(om n43 n0),(om n44 n1),(om n45 n2),(oq n46 (.call (.c (.fn n191 [] [])) [(.t n43),(.t n44),(.t n45)] .raw)),(om n42 n46),(oq n47 (.extract (.t n42) n0)),(oq n48 (.extract (.t n42) n1)),(om n11 n47),(om n12 n48)])
 (.seq (.seq (.ops [(om n49 n12),(oq n50 (.bin .eql (.t n49) (k n2)))])
 (.cond (.t n50) (.seq (.ops [(om n51 n0),(om n52 n1),(om n53 n2),(oq n54 (.call (.c (.fn n192 [] [])) [(.t n51),(.t n52),(.t n53)] .raw))])
 (.seq (.ops [(om n55 n2),(oq n56 (.bin .sub (.t n55) (k n1))),(om n57 n11),(om n58 n1),(oq n59 (.bin .sub (.t n57) (.t n58))),(oq n60 (.bin .sub (.t n56) (.t n59))),(om n11 n60)])
 (.ops [(oq n12 (.mv (k n1)))])))
 .skip))
 (.seq (.seq (.ops [(om n61 n8),(om n62 n61),(og n63 n62 true (.mv (.t n9))),(oq n64 (.pick (.t n62) (.t n63) (.c (.d (.bool false))))),(om n65 n64),(og n66 n65 true (.mv (.t n12))),(og n67 n65 true (.bin .eql (.t n66) (k n1))),(oq n68 (.pick (.t n65) (.t n67) (.c (.d (.bool false)))))])
 (.cond (.t n68) (.seq (.ops [(om n69 n0),(om n70 n1),(om n71 n2),(oq n72 (.call (.c (.fn n193 [] [])) [(.t n69),(.t n70),(.t n71)] .raw))])
 (.cond (.t n72) .ret
 .skip))
 .skip))
 (.seq (.seq (.draw n0 [(dz (om n73 n1) n0 n0),(dz (oq n74 (.bin .gtr (.t n73) (k n0))) n1 n0),(dz (om n75 n74) n2 n0),(dz (og n76 n75 true (.mv (.t n0))) n3 n0),(dz (og n77 n75 true (.mv (.t n1))) n4 n0),(dz (og n78 n75 true (.bin .sub (.t n77) (k n1))) n5 n0),(dz (og n79 n75 true (.iaddr n1 (.t n76) (.t n78))) n6 n0),(dz (og n81 n75 true (.mv (.t n0))) n8 n0),(dz (og n82 n75 true (.mv (.t n11))) n9 n0),(dz (og n83 n75 true (.iaddr n1 (.t n81) (.t n82))) n10 n0),(dz (og n80 n75 true (.load none (.t n79))) n7 n0),(dz (og n84 n75 true (.load none (.t n83))) n11 n0),(dq (og n85 n75 true (.call (.c (.fn n194 [] [])) [(.t n80),(.t n84)] .borrow)) n12 n0 [] [n7,n11,n2,n6,n3,n5,n1,n0,n4,n10,n8,n9] true false),(dz (og n86 n75 true (.un .not (.t n85))) n13 n0),(dz (oq n87 (.pick (.t n75) (.t n86) (.c (.d (.bool false))))) n14 n0)])
 (.cond (.t n87) (.seq (.ops [(om n88 n0),(om n89 n1),(om n90 n2),(om n91 n11),(oq n92 (.call (.c (.fn n195 [] [])) [(.t n88),(.t n89),(.t n90),(.t n91)] .raw)),(om n13 n92)])
 (.seq (.ops [(om n93 n13),(om n1 n93)])
 (.exit n1)))
 .skip))
 (.seq (.ops [(om n95 n0),(om n96 n1),(om n97 n2),(om n98 n11),(oq n99 (.call (.c (.fn n196 [] [])) [(.t n95),(.t n96),(.t n97),(.t n98)] .raw)),(om n94 n99),(oq n100 (.extract (.t n94) n0)),(oq n101 (.extract (.t n94) n1)),(om n14 n100),(om n15 n101)])
 (.seq (.ops [(om n102 n15),(om n9 n102)])
 (.seq (.ops [(om n103 n14),(om n104 n1),(oq n105 (.bin .sub (.t n103) (.t n104))),(om n106 n2),(om n107 n14),(oq n108 (.bin .sub (.t n106) (.t n107))),(om n16 n105),(om n17 n108)])
 (.seq (.ops [(om n109 n10),(oq n110 (.bin .quo (.t n109) (k n8))),(om n18 n110)])
 (.seq (.ops [(om n111 n16),(om n112 n17),(oq n113 (.bin .lss (.t n111) (.t n112)))])
 (.cond (.t n113) (.seq (.ops [(om n114 n16),(om n115 n18),(oq n116 (.bin .geq (.t n114) (.t n115))),(om n8 n116)])
 (.seq (.ops [(om n117 n0),(om n118 n1),(om n119 n14),(om n120 n3),(oq n121 (.call (.c (.fn n177 [] [])) [(.t n117),(.t n118),(.t n119),(.t n120)] .raw))])
 (.ops [(om n122 n14),(oq n123 (.bin .add (.t n122) (k n1))),(om n1 n123)])))
 (.seq (.ops [(om n124 n17),(om n125 n18),(oq n126 (.bin .geq (.t n124) (.t n125))),(om n8 n126)])
 (.seq (.ops [(om n127 n0),(om n128 n14),(oq n129 (.bin .add (.t n128) (k n1))),(om n130 n2),(om n131 n3),(oq n132 (.call (.c (.fn n177 [] [])) [(.t n127),(.t n129),(.t n130),(.t n131)] .raw))])
 (.ops [(om n133 n14),(om n2 n133)]))))))))))))))))))))))
def x177 : XFn := ⟨a177,n134,[],c177⟩
def a178 : Ann := ⟨[(n2,n8,n0),(n4,n3,n2)],[]⟩
def c178 : ICode :=
 (.seq (.ops [(oq n2 (.box (.t n0))),(oq n3 (.box (.t n1))),(oq n4 (.mv (.c (.d (.bool false)))))])
 (.seq (.ops [(of n6 n2 n2),(of n7 n3 n6),(ol n8 n7),(ol n9 n3),(oq n10 (.iaddr n2 (.t n8) (.t n9))),(oq n11 (.load (some n2) (.t n10))),(oq n5 (.alloc [(.int .i64 (.l (i n0))),.nil])),⟨none,none,.store n2 (.t n5) (.t n11)⟩])
 (.seq (.seq (.draw n0 [(dq (of n12 n0 n2) n0 n0 [] [] false true),(dq (of n13 n0 n12) n1 n0 [] [] false true),(dz (of n17 n0 n5) n5 n0),(dq (ol n14 n13) n2 n0 [] [] false true),(dq (oq n15 (.len (.t n14))) n3 n0 [] [] false true),(dq (oq n16 (.bin .sub (.t n15) (k n1))) n4 n0 [] [] false true),(dz (ol n18 n17) n6 n0),(dq (oq n19 (.bslice n1 n1 [(.int .i64 (.l (i n0)))] [(n0,(.t n18))] false)) n7 n0 [] [n6,n5] false false),(dq (oq n20 (.call (.c (.fn n149 [] [])) [(k n0),(.t n16),(.t n19)] .borrow)) n8 n0 [] [n4,n7,n3,n2,n1,n0,n6,n5] true false),(dz (oq n21 (.un .not (.t n20))) n9 n0),(dz (om n22 n21) n10 n0),(dz (og n23 n22 false (.faddr n1 (.t n5))) n11 n0),(dz (og n26 n22 false (.faddr n0 (.t n2))) n14 n0),(dz (og n27 n22 false (.faddr n0 (.t n26))) n15 n0),(dz (og n29 n22 false (.faddr n0 (.t n5))) n17 n0),(dz (og n24 n22 false (.load none (.t n23))) n12 n0),(dz (og n25 n22 false (.len (.t n24))) n13 n0),(dz (og n28 n22 false (.load none (.t n27))) n16 n0),(dz (og n30 n22 false (.load none (.t n29))) n18 n0),(dz (og n31 n22 false (.iaddr n1 (.t n28) (.t n30))) n19 n0),(dz (og n32 n22 false (.load none (.t n31))) n20 n0),(dz (og n33 n22 false (.bin .neq (.t n25) (.t n32))) n21 n0),(dz (oq n34 (.pick (.t n22) (.c (.d (.bool true))) (.t n33))) n22 n0)])
 (.cond (.t n34) (.seq (.ops [(oq n4 (.mv (.c (.d (.bool false)))))])
 .ret)
 .skip))
 (.seq (.ops [(of n35 n1 n5),(ol n36 n35),(oq n37 (.mkfn n197 [] [(.t n2),(.t n3),(.t n5)])),(oq n38 (.call (.c (.fn n172 [] [])) [(.t n36),(.t n37)] .raw)),(om n4 n38)])
 .ret))))
def x178 : XFn := ⟨a178,n39,[(.t n4)],c178⟩
def a179 : Ann := ⟨[(n2,n1,n0),(n3,n13,n0)],[]⟩
def c179 : ICode :=
 (.seq (.ops [(oq n4 (.box (.t n0))),(oq n8 (.mv (.c (.d (.bool false)))))])
 (.seq (.seq (.ops [(om n9 n1),(oq n10 (.bin .lss (.t n9) (k n0)))])
 (.cond (.t n10) (.seq (.draw n0 [(dz (om n11 n1) n0 n0),(dq (of n13 n2 n4) n2 n0 [] [] false true),(dq (of n14 n2 n13) n3 n0 [] [] false true),(dq (ol n15 n14) n4 n0 [] [] false true),(dq (oq n16 (.len (.t n15))) n5 n0 [] [] false true),(dq (oq n12 (.call (.c (.fn n171 [] [])) [(.t n11)] .borrow)) n1 n0 [] [n0] false false),(dz (oq n17 (.bin .lss (.t n12) (.t n16))) n6 n0),(dz (om n8 n17) n7 n0)])
 .ret)
 .skip))
 (.seq (.draw n0 [(dz (om n18 n1) n0 n0),(dz (om n19 n2) n1 n0),(dz (oq n20 (.bin .lss (.t n18) (.t n19))) n2 n0),(dz (om n21 n20) n3 n0),(dz (og n22 n21 true (.faddr n0 (.t n4))) n4 n0),(dz (og n24 n21 true (.faddr n2 (.t n4))) n6 n0),(dz (og n25 n21 true (.faddr n3 (.t n24))) n7 n0),(dz (og n27 n21 true (.mv (.t n1))) n9 n0),(dq (og n32 n21 true (.mv (.t n3))) n14 n0 [] [] false true),(dz (og n23 n21 true (.load (some n2) (.t n22))) n5 n0),(dz (og n26 n21 true (.load none (.t n25))) n8 n0),(dz (og n28 n21 true (.iaddr n2 (.t n26) (.t n27))) n10 n0),(dz (og n29 n21 true (.faddr n0 (.t n28))) n11 n0),(dz (og n30 n21 true (.load none (.t n29))) n12 n0),(dq (og n31 n21 true (.call (.c (.fn n198 [] [])) [(.t n23),(.t n30)] .borrow)) n13 n0 [] [n5,n12,n3,n4,n2,n0,n1,n11,n10,n8,n9,n7,n6] false false),(dz (og n33 n21 true (.bin .gtr (.t n31) (.t n32))) n15 n0),(dz (oq n34 (.pick (.t n21) (.t n33) (.c (.d (.bool false))))) n16 n0),(dz (om n8 n34) n17 n0)])
 .ret)))
def x179 : XFn := ⟨a179,n35,[(.t n8)],c179⟩
def a180 : Ann := ⟨[(n1,n10,n0)],[]⟩
def c180 : ICode :=
 (.seq (.ops [(oq n2 (.box (.t n0))),(oq n3 (.box (.t n1))),(oq n4 (.mv (.c (.d (.bool false)))))])
 (.seq (.ops [(of n5 n0 n2),(ol n6 n5),(of n7 n0 n3),(ol n8 n7),(oq n9 (.bin .eql (.t n6) (.t n8))),(om n10 n9),(og n11 n10 true (.faddr n1 (.t n2))),(og n12 n10 true (.load none (.t n11))),(og n13 n10 true (.faddr n1 (.t n3))),(og n14 n10 true (.load none (.t n13))),(og n15 n10 true (.call (.c (.fn n122 [] [])) [(.t n12),(.t n14)] .borrow)),(oq n16 (.pick (.t n10) (.t n15) (.c (.d (.bool false))))),(om n4 n16)])
 .ret))
def x180 : XFn := ⟨a180,n17,[(.t n4)],c180⟩
def a181 : Ann := ⟨[],[]⟩
def c181 : ICode :=
 (.seq (.ops [(oq n4 (.mv (.c (.d (.bool false)))))])
 (.seq (.seq (.ops [(om n6 n0),(oq n7 (.len (.t n6))),(om n8 n1),(oq n9 (.len (.t n8))),(oq n10 (.bin .neq (.t n7) (.t n9)))])
 (.cond (.t n10) (.seq (.ops [(oq n4 (.mv (.c (.d (.bool false)))))])
 .ret)
 .skip))
 (.seq (.seq (.ops [(om n11 n0),(oq n12 (.len (.t n11))),(oq n13 (.mv (k n0)))])
 (.block n0 (.loop (.seq (.ops [(oq n14 (.bin .lss (.t n13) (.t n12)))])
 (.seq (.cond (.t n14) .skip
 (.exit n0))
 (.seq (.block n1 (.seq (.ops [(om n15 n13),(om n5 n15)])
 (.seq (.draw n0 [(dz (om n16 n0) n0 n0),(dz (om n17 n5) n1 n0),(dz (oq n18 (.iaddr n2 (.t n16) (.t n17))) n2 n0),(dz (om n20 n1) n4 n0),(dz (om n21 n5) n5 n0),(dz (oq n22 (.iaddr n2 (.t n20) (.t n21))) n6 n0),(dz (oq n19 (.load (some n2) (.t n18))) n3 n0),(dz (oq n23 (.load (some n2) (.t n22))) n7 n0),(dz (oq n24 (.aeq true [.u8,.i64] (.t n19) (.t n23))) n8 n0)])
 (.cond (.t n24) (.seq (.ops [(oq n4 (.mv (.c (.d (.bool false)))))])
 .ret)
 .skip))))
 (.ops [(oq n25 (.bin .add (.t n13) (k n1))),(om n13 n25)])))))))
 (.seq (.ops [(oq n4 (.mv (.c (.d (.bool true)))))])
 .ret))))
def x181 : XFn := ⟨a181,n26,[(.t n4)],c181⟩
def a182 : Ann := ⟨[(n7,n3,n2)],[]⟩
def c182 : ICode :=
 (.seq (.ops [(oq n6 (.mv (.c (.d (.bool false)))))])
 (.seq (.seq (.ops [(om n10 n0),(oq n11 (.len (.t n10))),(om n12 n1),(oq n13 (.len (.t n12))),(oq n14 (.bin .neq (.t n11) (.t n13)))])
 (.cond (.t n14) (.seq (.ops [(oq n6 (.mv (.c (.d (.bool false)))))])
 .ret)
 .skip))
 (.seq (.seq (.ops [(om n15 n0),(oq n16 (.len (.t n15))),(oq n17 (.mv (k n0)))])
 (.block n0 (.loop (.seq (.ops [(oq n18 (.bin .lss (.t n17) (.t n16)))])
 (.seq (.cond (.t n18) .skip
 (.exit n0))
 (.seq (.block n1 (.seq (.ops [(om n19 n17),(oq n20 (.iaddr n2 (.t n15) (.t n17))),(oq n21 (.load (some n2) (.t n20))),(oq n8 (.alloc [(.int .i64 (.l (i n0))),.nil])),(om n7 n19),⟨none,none,.store n2 (.t n8) (.t n21)⟩])
 (.seq (.ops [(om n22 n1),(om n23 n7),(oq n24 (.iaddr n2 (.t n22) (.t n23))),(oq n25 (.load (some n2) (.t n24))),(oq n9 (.alloc [(.int .i64 (.l (i n0))),.nil])),⟨none,none,.store n2 (.t n9) (.t n25)⟩])
 (.seq (.ops [(om n26 n2),(oq n27 (.load (some n2) (.t n8))),(oq n28 (.load (some n2) (.t n9))),(oq n29 (.call (.t n26) [(.t n27),(.t n28)] .raw)),(oq n30 (.un .not (.t n29)))])
 (.cond (.t n30) (.seq (.ops [(oq n6 (.mv (.c (.d (.bool false)))))])
 .ret)
 .skip)))))
 (.ops [(oq n31 (.bin .add (.t n17) (k n1))),(om n17 n31)])))))))
 (.seq (.ops [(oq n6 (.mv (.c (.d (.bool true)))))])
 .ret))))
def x182 : XFn := ⟨a182,n32,[(.t n6)],c182⟩
def a183 : Ann := ⟨[(n2,n5,n0),(n2,n8,n2),(n11,n4,n2),(n13,n6,n2)],[]⟩
def c183 : ICode :=
 (.seq (.ops [(oq n6 (.mv (k n0)))])
 (.seq (.seq (.ops [(om n13 n0),(oq n14 (.bin .lss (.t n13) (k n0)))])
 (.cond (.t n14) (.seq (.draw n0 [(dq (of n16 n2 n2) n1 n0 [] [] false true),(dq (of n17 n2 n16) n2 n0 [] [] false true),(dz (om n19 n0) n4 n0),(dq (ol n15 n1) n0 n0 [] [] false true),(dq (ol n18 n17) n3 n0 [] [] false true),(dq (oq n20 (.call (.c (.fn n171 [] [])) [(.t n19)] .borrow)) n5 n0 [] [n4] false false),(dz (oq n21 (.iaddr n2 (.t n18) (.t n20))) n6 n0),(dz (oq n22 (.load (some n2) (.t n21))) n7 n0),(dq (oq n23 (.call (.c (.fn n138 [] [])) [(.t n15),(.t n22)] .raw)) n8 n0 [] [n0,n7,n5,n6,n3,n2,n1,n4] true false),(dz (om n6 n23) n9 n0)])
 .ret)
 .skip))
 (.seq (.seq (.ops [(ol n25 n3),(om n26 n0),(oq n27 (.lookup false [.i64] true (.t n25) (.t n26))),(om n24 n27),(oq n28 (.extract (.t n24) n0)),(oq n29 (.extract (.t n24) n1)),(om n7 n28),(om n8 n29)])
 (.seq (.ops [(om n30 n8)])
 (.cond (.t n30) (.seq (.ops [(om n31 n7),(om n6 n31)])
 .ret)
 .skip)))
 (.seq (.ops [(of n32 n2 n2),(of n33 n3 n32),(ol n34 n33),(om n35 n0),(oq n36 (.iaddr n2 (.t n34) (.t n35))),(oq n37 (.load (some n2) (.t n36))),(oq n9 (.alloc [(.int .i64 (.l (i n0))),.nil])),⟨none,none,.store n2 (.t n9) (.t n37)⟩])
 (.seq (.ops [(of n38 n1 n9),(ol n39 n38),(oq n40 (.len (.t n39))),(oq n41 (.mkslice n1 [(.int .i64 (.l (i n0)))] n8 (.t n40))),(om n10 n41)])
 (.seq (.seq (.ops [(of n42 n1 n9),(ol n43 n42),(oq n44 (.len (.t n43))),(oq n45 (.mv (k n0)))])
 (.block n0 (.loop (.seq (.ops [(oq n46 (.bin .lss (.t n45) (.t n44)))])
 (.seq (.cond (.t n46) .skip
 (.exit n0))
 (.seq (.block n1 (.seq (.ops [(om n47 n45),(oq n48 (.iaddr n1 (.t n43) (.t n45))),(ol n49 n48),(om n11 n47),(om n12 n49)])
 (.ops [(om n50 n10),(om n51 n11),(ol n52 n4),(om n53 n12),(oq n54 (.call (.t n52) [(.t n53)] .raw)),(oq n55 (.iaddr n1 (.t n50) (.t n51))),⟨none,none,.store n1 (.t n55) (.t n54)⟩])))
 (.ops [(oq n56 (.bin .add (.t n45) (k n1))),(om n45 n56)])))))))
 (.seq (.draw n0 [(dq (om n58 n0) n1 n0 [] [] false true),(dz (of n60 n0 n9) n3 n0),(dz (om n62 n10) n5 n0),(dq (ol n57 n3) n0 n0 [] [] false true),(dz (ol n59 n1) n2 n0),(dz (ol n61 n60) n4 n0),(dq (oq n63 (.call (.c (.fn n139 [] [])) [(.t n59),(.t n61),(.t n62)] .raw)) n6 n0 [] [n2,n4,n5,n3] false false),⟨⟨none,none,.mapupd false [.i64] (.t n57) (.t n58) (.t n63)⟩,n7,n0,[],[n0,n1,n6,n2,n3,n4,n5],true,false⟩])
 (.seq (.ops [(ol n64 n3),(om n65 n0),(oq n66 (.lookup false [.i64] false (.t n64) (.t n65))),(om n6 n66)])
 .ret))))))))
def x183 : XFn := ⟨a183,n67,[(.t n6)],c183⟩
def a184 : Ann := ⟨[(n1,n9,n2)],[]⟩
def c184 : ICode :=
 (.seq (.ops [(oq n10 (.mv (k n0))),(oq n11 (.mv (k n0)))])
 (.seq (.seq (.draw n0 [(dz (om n12 n4) n0 n0),(dz (om n13 n0) n1 n0),(dz (om n14 n2) n2 n0),(dz (oq n15 (.iaddr n2 (.t n13) (.t n14))) n3 n0),(dz (om n17 n0) n5 n0),(dz (om n18 n1) n6 n0),(dz (oq n19 (.iaddr n2 (.t n17) (.t n18))) n7 n0),(dz (oq n16 (.load (some n2) (.t n15))) n4 n0),(dz (oq n20 (.load (some n2) (.t n19))) n8 n0),(dq (oq n21 (.call (.t n12) [(.t n16),(.t n20)] .raw)) n9 n0 [] [n0,n4,n8,n3,n1,n2,n7,n5,n6] true false),(dz (oq n22 (.bin .lss (.t n21) (k n0))) n10 n0)])
 (.cond (.t n22) (.seq (.ops [(om n23 n3),(oq n24 (.nilchk (.t n23))),(ol n25 n24),(oq n26 (.bin .add (.t n25) (k n1))),(oq n27 (.nilchk (.t n23))),⟨none,none,.store n1 (.t n27) (.t n26)⟩])
 (.seq (.ops [(om n28 n2),(om n29 n1),(om n10 n28),(om n11 n29)])
 .ret))
 .skip))
 (.seq (.ops [(om n30 n1),(om n31 n2),(om n10 n30),(om n11 n31)])
 .ret)))
def x184 : XFn := ⟨a184,n32,[(.t n10),(.t n11)],c184⟩
def a185 : Ann := ⟨[(n4,n5,n2)],[]⟩
def c185 : ICode :=
 (.seq (.ops [(oq n4 (.mv (k n0)))])
 (.seq (.seq (.ops [(om n6 n0),(oq n7 (.len (.t n6))),(oq n8 (.mv (k n0)))])
 (.block n0 (.loop (.seq (.ops [(oq n9 (.bin .lss (.t n8) (.t n7)))])
 (.seq (.cond (.t n9) .skip
 (.exit n0))
 (.seq (.block n1 (.seq (.ops [(om n10 n8),(om n5 n10)])
 (.seq (.ops [(om n11 n1),(om n12 n0),(om n13 n5),(oq n14 (.iaddr n2 (.t n12) (.t n13))),(oq n15 (.load (some n2) (.t n14))),(oq n16 (.call (.t n11) [(.t n15)] .raw))])
 (.cond (.t n16) (.seq (.ops [(om n17 n5),(om n4 n17)])
 .ret)
 .skip))))
 (.ops [(oq n18 (.bin .add (.t n8) (k n1))),(om n8 n18)])))))))
 (.seq (.ops [(oq n4 (.mv (.c (.d (.int .i64 (.l (.negSucc n0)))))))])
 .ret)))
def x185 : XFn := ⟨a185,n19,[(.t n4)],c185⟩
def a186 : Ann := ⟨[(n1,n2,n2)],[]⟩
def c186 : ICode :=
 (.seq (.ops [(oq n3 (.mv (.c (.d (.bool false)))))])
 (.seq (.ops [(ol n4 n1),(om n5 n0),(oq n6 (.call (.t n4) [(.t n5)] .raw)),(oq n7 (.un .not (.t n6))),(om n3 n7)])
 .ret))
def x186 : XFn := ⟨a186,n8,[(.t n3)],c186⟩
def a187 : Ann := ⟨[],[]⟩
def c187 : ICode :=
 (.seq (.ops [(om n4 n0),(oq n5 (.len (.t n4))),(oq n6 (.bin .sub (.t n5) (k n1))),(oq n2 (.mv (k n0))),(om n3 n6)])
 (.block n0 (.loop (.seq (.seq (.ops [(om n7 n2),(om n8 n3),(oq n9 (.bin .lss (.t n7) (.t n8)))])
 (.cond (.t n9) .skip
 (.exit n0)))
 (.seq (.block n1 (.draw n0 [(dz (om n14 n0) n0 n0),(dz (om n15 n2) n1 n0),(dq (om n16 n0) n2 n0 [] [] false true),(dq (om n17 n3) n3 n0 [] [] false true),(dz (om n18 n0) n4 n0),(dz (om n19 n3) n5 n0),(dz (oq n20 (.iaddr n1 (.t n18) (.t n19))) n6 n0),(dz (om n22 n0) n8 n0),(dz (om n23 n2) n9 n0),(dz (oq n24 (.iaddr n1 (.t n22) (.t n23))) n10 n0),(dz (ol n21 n20) n7 n0),(dz (ol n25 n24) n11 n0),(dz (oq n26 (.iaddr n1 (.t n14) (.t n15))) n12 n0),⟨⟨none,none,.store n1 (.t n26) (.t n21)⟩,n13,n0,[],[n12,n7,n0,n1,n4,n5,n6,n11,n10,n8,n9],false,false⟩,(dz (oq n27 (.iaddr n1 (.t n16) (.t n17))) n14 n0),⟨⟨none,none,.store n1 (.t n27) (.t n25)⟩,n15,n0,[],[n14,n11,n13,n0,n1,n2,n3,n4,n5,n6,n7,n8,n9,n10,n12],true,false⟩]))
 (.ops [(om n10 n2),(oq n11 (.bin .add (.t n10) (k n1))),(om n12 n3),(oq n13 (.bin .sub (.t n12) (k n1))),(om n2 n11),(om n3 n13)]))))))
def x187 : XFn := ⟨a187,n28,[],c187⟩
def a188 : Ann := ⟨[(n4,n13,n0)],[]⟩
def c188 : ICode :=
 (.seq (.ops [(om n8 n1),(oq n9 (.bin .add (.t n8) (k n1))),(om n6 n9)])
 (.block n0 (.loop (.seq (.seq (.ops [(om n10 n6),(om n11 n2),(oq n12 (.bin .lss (.t n10) (.t n11)))])
 (.cond (.t n12) .skip
 (.exit n0)))
 (.seq (.block n1 (.seq (.ops [(om n15 n6),(om n7 n15)])
 (.block n2 (.loop (.seq (.seq (.draw n0 [(dz (om n16 n7) n0 n0),(dz (om n17 n1) n1 n0),(dz (oq n18 (.bin .gtr (.t n16) (.t n17))) n2 n0),(dz (om n19 n18) n3 n0),(dz (og n20 n19 true (.mv (.t n0))) n4 n0),(dz (og n21 n19 true (.mv (.t n7))) n5 n0),(dz (og n22 n19 true (.iaddr n1 (.t n20) (.t n21))) n6 n0),(dz (og n24 n19 true (.mv (.t n0))) n8 n0),(dz (og n25 n19 true (.mv (.t n7))) n9 n0),(dz (og n26 n19 true (.bin .sub (.t n25) (k n1))) n10 n0),(dz (og n27 n19 true (.iaddr n1 (.t n24) (.t n26))) n11 n0),(dz (og n23 n19 true (.load none (.t n22))) n7 n0),(dz (og n28 n19 true (.load none (.t n27))) n12 n0),(dq (og n29 n19 true (.call (.c (.fn n194 [] [])) [(.t n23),(.t n28)] .borrow)) n13 n0 [] [n7,n12,n3,n6,n4,n5,n2,n0,n1,n11,n8,n10,n9] true false),(dz (oq n30 (.pick (.t n19) (.t n29) (.c (.d (.bool false))))) n14 n0)])
 (.cond (.t n30) .skip
 (.exit n2)))
 (.seq (.block n3 (.draw n0 [(dz (om n33 n0) n0 n0),(dz (om n34 n7) n1 n0),(dq (om n35 n0) n2 n0 [] [] false true),(dq (om n36 n7) n3 n0 [] [] false true),(dq (oq n37 (.bin .sub (.t n36) (k n1))) n4 n0 [] [] false true),(dz (om n38 n0) n5 n0),(dz (om n39 n7) n6 n0),(dz (oq n40 (.bin .sub (.t n39) (k n1))) n7 n0),(dz (oq n41 (.iaddr n1 (.t n38) (.t n40))) n8 n0),(dz (om n43 n0) n10 n0),(dz (om n44 n7) n11 n0),(dz (oq n45 (.iaddr n1 (.t n43) (.t n44))) n12 n0),(dz (ol n42 n41) n9 n0),(dz (ol n46 n45) n13 n0),(dz (oq n47 (.iaddr n1 (.t n33) (.t n34))) n14 n0),⟨⟨none,none,.store n1 (.t n47) (.t n42)⟩,n15,n0,[],[n14,n9,n0,n1,n5,n6,n7,n8,n13,n12,n10,n11],false,false⟩,(dz (oq n48 (.iaddr n1 (.t n35) (.t n37))) n16 n0),⟨⟨none,none,.store n1 (.t n48) (.t n46)⟩,n17,n0,[],[n16,n13,n15,n0,n1,n2,n3,n4,n5,n6,n7,n8,n9,n10,n11,n12,n14],true,false⟩]))
 (.ops [(om n31 n7),(oq n32 (.bin .sub (.t n31) (k n1))),(om n7 n32)])))))))
 (.ops [(om n13 n6),(oq n14 (.bin .add (.t n13) (k n1))),(om n6 n14)]))))))
def x188 : XFn := ⟨a188,n49,[],c188⟩
def a189 : Ann := ⟨[(n6,n4,n2),(n11,n4,n2)],[]⟩
def c189 : ICode :=
 (.seq (.ops [(om n11 n1),(om n6 n11)])
 (.seq (.ops [(oq n7 (.mv (k n0)))])
 (.seq (.ops [(om n12 n2),(om n13 n1),(oq n14 (.bin .sub (.t n12) (.t n13))),(om n8 n14)])
 (.seq (.seq (.ops [(om n15 n8),(oq n16 (.bin .sub (.t n15) (k n1))),(oq n17 (.bin .quo (.t n16) (k n2))),(om n9 n17)])
 (.block n0 (.loop (.seq (.seq (.ops [(om n18 n9),(oq n19 (.bin .geq (.t n18) (k n0)))])
 (.cond (.t n19) .skip
 (.exit n0)))
 (.seq (.block n1 (.ops [(om n22 n0),(om n23 n9),(om n24 n8),(om n25 n6),(oq n26 (.call (.c (.fn n199 [] [])) [(.t n22),(.t n23),(.t n24),(.t n25)] .raw))]))
 (.ops [(om n20 n9),(oq n21 (.bin .sub (.t n20) (k n1))),(om n9 n21)]))))))
 (.seq (.ops [(om n27 n8),(oq n28 (.bin .sub (.t n27) (k n1))),(om n10 n28)])
 (.block n2 (.loop (.seq (.seq (.ops [(om n29 n10),(oq n30 (.bin .geq (.t n29) (k n0)))])
 (.cond (.t n30) .skip
 (.exit n2)))
 (.seq (.block n3 (.seq (.draw n0 [(dz (om n33 n0) n0 n0),(dz (om n34 n6) n1 n0),(dq (om n35 n0) n2 n0 [] [] false true),(dq (om n36 n6) n3 n0 [] [] false true),(dq (om n37 n10) n4 n0 [] [] false true),(dq (oq n38 (.bin .add (.t n36) (.t n37))) n5 n0 [] [] false true),(dz (om n39 n0) n6 n0),(dz (om n40 n6) n7 n0),(dz (om n41 n10) n8 n0),(dz (oq n42 (.bin .add (.t n40) (.t n41))) n9 n0),(dz (oq n43 (.iaddr n1 (.t n39) (.t n42))) n10 n0),(dz (om n45 n0) n12 n0),(dz (om n46 n6) n13 n0),(dz (oq n47 (.iaddr n1 (.t n45) (.t n46))) n14 n0),(dz (ol n44 n43) n11 n0),(dz (ol n48 n47) n15 n0),(dz (oq n49 (.iaddr n1 (.t n33) (.t n34))) n16 n0),⟨⟨none,none,.store n1 (.t n49) (.t n44)⟩,n17,n0,[],[n16,n11,n0,n1,n6,n7,n8,n9,n10,n15,n14,n12,n13],false,false⟩,(dz (oq n50 (.iaddr n1 (.t n35) (.t n38))) n18 n0),⟨⟨none,none,.store n1 (.t n50) (.t n48)⟩,n19,n0,[],[n18,n15,n17,n0,n1,n2,n3,n4,n5,n6,n7,n8,n9,n10,n11,n12,n13,n14,n16],true,false⟩])
 (.ops [(om n51 n0),(om n52 n7),(om n53 n10),(om n54 n6),(oq n55 (.call (.c (.fn n199 [] [])) [(.t n51),(.t n52),(.t n53),(.t n54)] .raw))])))
 (.ops [(om n31 n10),(oq n32 (.bin .sub (.t n31) (k n1))),(om n10 n32)]))))))))))
def x189 : XFn := ⟨a189,n56,[],c189⟩
def a190 : Ann := ⟨[(n3,n1,n0),(n7,n0,n0)],[]⟩
def c190 : ICode :=
 (.seq (.ops [(om n11 n2),(om n12 n1),(oq n13 (.bin .sub (.t n11) (.t n12))),(om n6 n13)])
 (.seq (.ops [(om n14 n6),(oq n15 (.bin .geq (.t n14) (k n8)))])
 (.cond (.t n15) (.seq (.ops [(om n16 n6),(oq n17 (.conv .u64 (.t n16))),(oq n7 (.alloc [(.int .u64 (.l (i n0)))])),⟨none,none,.store n1 (.t n7) (.t n17)⟩])
 (.seq (.ops [(om n18 n6),(oq n19 (.call (.c (.fn n164 [] [])) [(.t n18)] .borrow)),(om n8 n19)])
 (.seq (.ops [(om n20 n1),(om n21 n6),(oq n22 (.bin .quo (.t n21) (k n4))),(oq n23 (.bin .mul (.t n22) (k n2))),(oq n24 (.bin .add (.t n20) (.t n23))),(oq n25 (.bin .sub (.t n24) (k n1))),(om n9 n25)])
 (.block n0 (.loop (.seq (.seq (.ops [(om n26 n9),(om n27 n1),(om n28 n6),(oq n29 (.bin .quo (.t n28) (k n4))),(oq n30 (.bin .mul (.t n29) (k n2))),(oq n31 (.bin .add (.t n27) (.t n30))),(oq n32 (.bin .add (.t n31) (k n1))),(oq n33 (.bin .leq (.t n26) (.t n32)))])
 (.cond (.t n33) .skip
 (.exit n0)))
 (.seq (.block n1 (.seq (.ops [(oq n36 (.call (.c (.fn n165 [] [])) [(.t n7)] .borrow)),(om n37 n8),(oq n38 (.bin .sub (.t n37) (.c (.d (.int .u64 (.l (i n1))))))),(oq n39 (.bin .and (.t n36) (.t n38))),(oq n40 (.conv .i64 (.t n39))),(om n10 n40)])
 (.seq (.seq (.ops [(om n41 n10),(om n42 n6),(oq n43 (.bin .geq (.t n41) (.t n42)))])
 (.cond (.t n43) (.ops [(om n44 n10),(om n45 n6),(oq n46 (.bin .sub (.t n44) (.t n45))),(om n10 n46)])
 .skip))
 (.draw n0 [(dz (om n47 n0) n0 n0),(dz (om n48 n9) n1 n0),(dq (om n49 n0) n2 n0 [] [] false true),(dq (om n50 n1) n3 n0 [] [] false true),(dq (om n51 n10) n4 n0 [] [] false true),(dq (oq n52 (.bin .add (.t n50) (.t n51))) n5 n0 [] [] false true),(dz (om n53 n0) n6 n0),(dz (om n54 n1) n7 n0),(dz (om n55 n10) n8 n0),(dz (oq n56 (.bin .add (.t n54) (.t n55))) n9 n0),(dz (oq n57 (.iaddr n1 (.t n53) (.t n56))) n10 n0),(dz (om n59 n0) n12 n0),(dz (om n60 n9) n13 n0),(dz (oq n61 (.iaddr n1 (.t n59) (.t n60))) n14 n0),(dz (ol n58 n57) n11 n0),(dz (ol n62 n61) n15 n0),(dz (oq n63 (.iaddr n1 (.t n47) (.t n48))) n16 n0),⟨⟨none,none,.store n1 (.t n63) (.t n58)⟩,n17,n0,[],[n16,n11,n0,n1,n6,n7,n8,n9,n10,n15,n14,n12,n13],false,false⟩,(dz (oq n64 (.iaddr n1 (.t n49) (.t n52))) n18 n0),⟨⟨none,none,.store n1 (.t n64) (.t n62)⟩,n19,n0,[],[n18,n15,n17,n0,n1,n2,n3,n4,n5,n6,n7,n8,n9,n10,n11,n12,n13,n14,n16],true,false⟩]))))
 (.ops [(om n34 n9),(oq n35 (.bin .add (.t n34) (k n1))),(om n9 n35)]))))))))
 .skip)))
def x190 : XFn := ⟨a190,n65,[],c190⟩
end
end Go.Proofs.Tryz.Run
