/- The functions of the table, and the table. Conditions: none. -/
import Derived.Test.YtpcokdalcafgdaaGreatMk
namespace Go.Proofs.Tryz.Run
open Go Go.Vf
noncomputable section
def n0 : Nat := nat_lit 0
def n1 : Nat := nat_lit 1
def n2 : Nat := nat_lit 2
def n3 : Nat := nat_lit 3
def n4 : Nat := nat_lit 4
def n5 : Nat := nat_lit 5
def n6 : Nat := nat_lit 6
def n7 : Nat := nat_lit 7
def n8 : Nat := nat_lit 8
def n9 : Nat := nat_lit 9
def n10 : Nat := nat_lit 10
def n11 : Nat := nat_lit 11
def n12 : Nat := nat_lit 12
def n13 : Nat := nat_lit 13
def n14 : Nat := nat_lit 14
def n15 : Nat := nat_lit 15
def n16 : Nat := nat_lit 16
def n17 : Nat := nat_lit 17
def n18 : Nat := nat_lit 18
def n19 : Nat := nat_lit 19
def n20 : Nat := nat_lit 20
def n21 : Nat := nat_lit 21
def n22 : Nat := nat_lit 22
def n23 : Nat := nat_lit 23
def n24 : Nat := nat_lit 24
def n25 : Nat := nat_lit 25
def n26 : Nat := nat_lit 26
def n27 : Nat := nat_lit 27
def n28 : Nat := nat_lit 28
def n29 : Nat := nat_lit 29
def n30 : Nat := nat_lit 30
def n31 : Nat := nat_lit 31
def n32 : Nat := nat_lit 32
def n33 : Nat := nat_lit 33
def n34 : Nat := nat_lit 34
def n35 : Nat := nat_lit 35
def n36 : Nat := nat_lit 36
def n37 : Nat := nat_lit 37
def n38 : Nat := nat_lit 38
def n39 : Nat := nat_lit 39
def n40 : Nat := nat_lit 40
def n41 : Nat := nat_lit 41
def n42 : Nat := nat_lit 42
def n43 : Nat := nat_lit 43
def n44 : Nat := nat_lit 44
def n45 : Nat := nat_lit 45
def n46 : Nat := nat_lit 46
def n47 : Nat := nat_lit 47
def n48 : Nat := nat_lit 48
def n49 : Nat := nat_lit 49
def n50 : Nat := nat_lit 50
def n51 : Nat := nat_lit 51
def n52 : Nat := nat_lit 52
def n53 : Nat := nat_lit 53
def n54 : Nat := nat_lit 54
def n55 : Nat := nat_lit 55
def n56 : Nat := nat_lit 56
def n57 : Nat := nat_lit 57
def n58 : Nat := nat_lit 58
def n59 : Nat := nat_lit 59
def n60 : Nat := nat_lit 60
def n61 : Nat := nat_lit 61
def n62 : Nat := nat_lit 62
def n63 : Nat := nat_lit 63
def n64 : Nat := nat_lit 64
def n65 : Nat := nat_lit 65
def n66 : Nat := nat_lit 66
def n67 : Nat := nat_lit 67
def n68 : Nat := nat_lit 68
def n69 : Nat := nat_lit 69
def n70 : Nat := nat_lit 70
def n71 : Nat := nat_lit 71
def n72 : Nat := nat_lit 72
def n73 : Nat := nat_lit 73
def n74 : Nat := nat_lit 74
def n75 : Nat := nat_lit 75
def n76 : Nat := nat_lit 76
def n77 : Nat := nat_lit 77
def n78 : Nat := nat_lit 78
def n79 : Nat := nat_lit 79
def n80 : Nat := nat_lit 80
def n81 : Nat := nat_lit 81
def n82 : Nat := nat_lit 82
def n83 : Nat := nat_lit 83
def n84 : Nat := nat_lit 84
def n85 : Nat := nat_lit 85
def n86 : Nat := nat_lit 86
def n87 : Nat := nat_lit 87
def n88 : Nat := nat_lit 88
def n89 : Nat := nat_lit 89
def n90 : Nat := nat_lit 90
def n91 : Nat := nat_lit 91
def n92 : Nat := nat_lit 92
def n93 : Nat := nat_lit 93
def n94 : Nat := nat_lit 94
def n95 : Nat := nat_lit 95
def n96 : Nat := nat_lit 96
def n97 : Nat := nat_lit 97
def n98 : Nat := nat_lit 98
def n99 : Nat := nat_lit 99
def n100 : Nat := nat_lit 100
def n101 : Nat := nat_lit 101
def n102 : Nat := nat_lit 102
def n103 : Nat := nat_lit 103
def n104 : Nat := nat_lit 104
def n105 : Nat := nat_lit 105
def n106 : Nat := nat_lit 106
def n107 : Nat := nat_lit 107
def n108 : Nat := nat_lit 108
def n109 : Nat := nat_lit 109
def n110 : Nat := nat_lit 110
def n111 : Nat := nat_lit 111
def n112 : Nat := nat_lit 112
def n113 : Nat := nat_lit 113
def n114 : Nat := nat_lit 114
def n115 : Nat := nat_lit 115
def n116 : Nat := nat_lit 116
def n117 : Nat := nat_lit 117
def n118 : Nat := nat_lit 118
def n119 : Nat := nat_lit 119
def n120 : Nat := nat_lit 120
def n121 : Nat := nat_lit 121
def n122 : Nat := nat_lit 122
def n123 : Nat := nat_lit 123
def n124 : Nat := nat_lit 124
def n125 : Nat := nat_lit 125
def n126 : Nat := nat_lit 126
def n127 : Nat := nat_lit 127
def n128 : Nat := nat_lit 128
def n129 : Nat := nat_lit 129
def n130 : Nat := nat_lit 130
def n131 : Nat := nat_lit 131
def n132 : Nat := nat_lit 132
def n133 : Nat := nat_lit 133
def n134 : Nat := nat_lit 134
def n135 : Nat := nat_lit 135
def n136 : Nat := nat_lit 136
def n137 : Nat := nat_lit 137
def n138 : Nat := nat_lit 138
def n139 : Nat := nat_lit 139
def n140 : Nat := nat_lit 140
def n141 : Nat := nat_lit 141
def n142 : Nat := nat_lit 142
def n143 : Nat := nat_lit 143
def n144 : Nat := nat_lit 144
def n145 : Nat := nat_lit 145
def n146 : Nat := nat_lit 146
def n147 : Nat := nat_lit 147
def n148 : Nat := nat_lit 148
def n149 : Nat := nat_lit 149
def n150 : Nat := nat_lit 150
def n151 : Nat := nat_lit 151
def n152 : Nat := nat_lit 152
def n153 : Nat := nat_lit 153
def n154 : Nat := nat_lit 154
def n155 : Nat := nat_lit 155
def n156 : Nat := nat_lit 156
def n157 : Nat := nat_lit 157
def n158 : Nat := nat_lit 158
def n159 : Nat := nat_lit 159
def n160 : Nat := nat_lit 160
def n161 : Nat := nat_lit 161
def n162 : Nat := nat_lit 162
def n163 : Nat := nat_lit 163
def n164 : Nat := nat_lit 164
def n165 : Nat := nat_lit 165
def n166 : Nat := nat_lit 166
def n167 : Nat := nat_lit 167
def n168 : Nat := nat_lit 168
def n169 : Nat := nat_lit 169
def n170 : Nat := nat_lit 170
def n171 : Nat := nat_lit 171
def n172 : Nat := nat_lit 172
def n173 : Nat := nat_lit 173
def n174 : Nat := nat_lit 174
def n175 : Nat := nat_lit 175
def n176 : Nat := nat_lit 176
def n177 : Nat := nat_lit 177
def n178 : Nat := nat_lit 178
def n179 : Nat := nat_lit 179
def n180 : Nat := nat_lit 180
def n181 : Nat := nat_lit 181
def n182 : Nat := nat_lit 182
def n183 : Nat := nat_lit 183
def n184 : Nat := nat_lit 184
def n185 : Nat := nat_lit 185
def n186 : Nat := nat_lit 186
def n187 : Nat := nat_lit 187
def n188 : Nat := nat_lit 188
def n189 : Nat := nat_lit 189
def n190 : Nat := nat_lit 190
def n191 : Nat := nat_lit 191
def n192 : Nat := nat_lit 192
def n193 : Nat := nat_lit 193
def n194 : Nat := nat_lit 194
def n195 : Nat := nat_lit 195
def n196 : Nat := nat_lit 196
def n197 : Nat := nat_lit 197
def n198 : Nat := nat_lit 198
def n199 : Nat := nat_lit 199
def n200 : Nat := nat_lit 200
def n201 : Nat := nat_lit 201
def n202 : Nat := nat_lit 202
def n203 : Nat := nat_lit 203
def n204 : Nat := nat_lit 204
def n205 : Nat := nat_lit 205
def n206 : Nat := nat_lit 206
def n207 : Nat := nat_lit 207
def n208 : Nat := nat_lit 208
def n209 : Nat := nat_lit 209
def n210 : Nat := nat_lit 210
def n211 : Nat := nat_lit 211
def n212 : Nat := nat_lit 212
def n213 : Nat := nat_lit 213
def n214 : Nat := nat_lit 214
def n215 : Nat := nat_lit 215
def n216 : Nat := nat_lit 216
def n217 : Nat := nat_lit 217
def n218 : Nat := nat_lit 218
def n219 : Nat := nat_lit 219
def n220 : Nat := nat_lit 220
def n221 : Nat := nat_lit 221
def n222 : Nat := nat_lit 222
def n223 : Nat := nat_lit 223
def n224 : Nat := nat_lit 224
def n225 : Nat := nat_lit 225
def n226 : Nat := nat_lit 226
def n227 : Nat := nat_lit 227
def n228 : Nat := nat_lit 228
def n229 : Nat := nat_lit 229
def n230 : Nat := nat_lit 230
def n231 : Nat := nat_lit 231
def n232 : Nat := nat_lit 232
def n233 : Nat := nat_lit 233
def n234 : Nat := nat_lit 234
def n235 : Nat := nat_lit 235
def n236 : Nat := nat_lit 236
def n237 : Nat := nat_lit 237
def n238 : Nat := nat_lit 238
def n239 : Nat := nat_lit 239
def n240 : Nat := nat_lit 240
def n241 : Nat := nat_lit 241
def n242 : Nat := nat_lit 242
def n243 : Nat := nat_lit 243
def n244 : Nat := nat_lit 244
def n245 : Nat := nat_lit 245
def n246 : Nat := nat_lit 246
def n247 : Nat := nat_lit 247
def n248 : Nat := nat_lit 248
def n256 : Nat := nat_lit 256
def n2000 : Nat := nat_lit 2000
def n3000 : Nat := nat_lit 3000
def n6000 : Nat := nat_lit 6000
def n9998 : Nat := nat_lit 9998
def n9999 : Nat := nat_lit 9999
def n65536 : Nat := nat_lit 65536
def n4294967296 : Nat := nat_lit 4294967296
def i (n : Nat) : Int := .ofNat n
def k (n : Nat) : IOpd := .c (.d (.int .i64 (.l (.ofNat n))))
def a13 : Ann := ⟨[(n1, n1, n1), (n2, n1, n0), (n3, n1, n1), (n4, n1, n1), (n5, n1, n0), (n6, n13, n0), (n8, n7, n0), (n9, n1, n1), (n10, n0, n0), (n11, n7, n1), (n12, n2, n1), (n13, n1, n1), (n14, n1, n1), (n15, n1, n1), (n16, n1, n1), (n17, n2, n1), (n18, n5, n1), (n19, n2, n1), (n20, n2, n1), (n21, n2, n1), (n22, n2, n1), (n23, n65, n0), (n23, n68, n0)], []⟩
def c13 : ICode :=
 (.seq (.ops [⟨some n0, none, .mv (.c (.d (.bool false)))⟩])
 (.seq (.ops [⟨some n34, none, .bslice n1 n4 [(.int .i64 (.l (i n0)))] [(n0, (k n0)), (n1, (k n1)), (n2, (k n2)), (n3, (k n3))] false⟩, ⟨some n35, none, .call (.c (.fn n45 [] [])) [(.t n34)] .share⟩, ⟨some n33, none, .mv (.t n35)⟩, ⟨some n36, none, .extract (.t n33) n0⟩, ⟨some n37, none, .extract (.t n33) n1⟩, ⟨some n1, none, .mv (.t n36)⟩, ⟨some n2, none, .mv (.t n37)⟩])
 (.seq (.ops [⟨some n39, none, .mv (.t n1)⟩, ⟨some n40, none, .call (.c (.fn n18 [] [])) [(.t n39)] .borrow⟩, ⟨some n38, none, .mv (.t n40)⟩, ⟨some n41, none, .extract (.t n38) n0⟩, ⟨some n42, none, .extract (.t n38) n1⟩, ⟨some n3, none, .mv (.t n41)⟩, ⟨some n4, none, .mv (.t n42)⟩])
 (.seq (.ops [⟨some n44, none, .mv (.t n1)⟩, ⟨some n45, none, .call (.c (.fn n20 [] [])) [(.t n44)] .share⟩, ⟨some n43, none, .mv (.t n45)⟩, ⟨some n46, none, .extract (.t n43) n0⟩, ⟨some n47, none, .extract (.t n43) n1⟩, ⟨some n5, none, .mv (.t n46)⟩, ⟨some n6, none, .mv (.t n47)⟩])
 (.seq (.ops [⟨some n49, none, .mv (.t n1)⟩, ⟨some n50, none, .call (.c (.fn n37 [] [])) [(.t n49), (k n2), (k n0)] .share⟩, ⟨some n48, none, .mv (.t n50)⟩, ⟨some n51, none, .extract (.t n48) n0⟩, ⟨some n52, none, .extract (.t n48) n1⟩, ⟨some n7, none, .mv (.t n51)⟩, ⟨some n8, none, .mv (.t n52)⟩])
 (.seq (.ops [⟨some n54, none, .mv (.t n7)⟩, ⟨some n55, none, .call (.c (.fn n18 [] [])) [(.t n54)] .borrow⟩, ⟨some n53, none, .mv (.t n55)⟩, ⟨some n56, none, .extract (.t n53) n0⟩, ⟨some n57, none, .extract (.t n53) n1⟩, ⟨some n9, none, .mv (.t n56)⟩, ⟨some n10, none, .mv (.t n57)⟩])
 (.seq (.seq (.ops [⟨some n58, none, .mv (.t n4)⟩, ⟨some n59, none, .bin .neq (.t n58) (k n0)⟩, ⟨some n60, none, .mv (.t n59)⟩, ⟨some n61, (some (n60, false)), .mv (.t n3)⟩, ⟨some n62, (some (n60, false)), .bin .neq (.t n61) (k n6)⟩, ⟨some n63, none, .pick (.t n60) (.c (.d (.bool true))) (.t n62)⟩, ⟨some n64, none, .mv (.t n63)⟩, ⟨some n65, (some (n64, false)), .mv (.t n6)⟩, ⟨some n66, (some (n64, false)), .bin .neq (.t n65) (k n0)⟩, ⟨some n67, none, .pick (.t n64) (.c (.d (.bool true))) (.t n66)⟩, ⟨some n68, none, .mv (.t n67)⟩, ⟨some n69, (some (n68, false)), .mv (.t n5)⟩, ⟨some n70, (some (n68, false)), .bslice n1 n4 [(.int .i64 (.l (i n0)))] [(n0, (k n1)), (n1, (k n2)), (n2, (k n1)), (n3, (k n2))] false⟩, ⟨some n71, (some (n68, false)), .call (.c (.fn n23 [] [])) [(.t n69), (.t n70)] .borrow⟩, ⟨some n72, (some (n68, false)), .un .not (.t n71)⟩, ⟨some n73, none, .pick (.t n68) (.c (.d (.bool true))) (.t n72)⟩, ⟨some n74, none, .mv (.t n73)⟩, ⟨some n75, (some (n74, false)), .mv (.t n8)⟩, ⟨some n76, (some (n74, false)), .bin .neq (.t n75) (k n0)⟩, ⟨some n77, none, .pick (.t n74) (.c (.d (.bool true))) (.t n76)⟩, ⟨some n78, none, .mv (.t n77)⟩, ⟨some n79, (some (n78, false)), .mv (.t n10)⟩, ⟨some n80, (some (n78, false)), .bin .neq (.t n79) (k n0)⟩, ⟨some n81, none, .pick (.t n78) (.c (.d (.bool true))) (.t n80)⟩, ⟨some n82, none, .mv (.t n81)⟩, ⟨some n83, (some (n82, false)), .mv (.t n9)⟩, ⟨some n84, (some (n82, false)), .bin .neq (.t n83) (k n9)⟩, ⟨some n85, none, .pick (.t n82) (.c (.d (.bool true))) (.t n84)⟩])
 (.cond (.t n85) (.seq (.ops [⟨some n0, none, .mv (.c (.d (.bool false)))⟩])
 .ret)
 .skip))
 (.seq (.draw n0 [⟨⟨some n87, none, .mv (.t n1)⟩, n0, n0, [], [], false, false⟩, ⟨⟨some n88, none, .iaddr n5 (.t n87) (k n0)⟩, n1, n0, [], [], false, false⟩, ⟨⟨some n90, none, .mv (.t n1)⟩, n3, n0, [], [], false, false⟩, ⟨⟨some n91, none, .iaddr n5 (.t n90) (k n0)⟩, n4, n0, [], [], false, false⟩, ⟨⟨some n89, none, .load (some n5) (.t n88)⟩, n2, n0, [], [], false, false⟩, ⟨⟨some n92, none, .load (some n5) (.t n91)⟩, n5, n0, [], [], false, false⟩, ⟨⟨some n93, none, .bslice n5 n2 [.nil, .nil, .nil, .nil, (.int .i64 (.l (i n0)))] [(n0, (.t n89)), (n1, (.t n92))] false⟩, n6, n0, [], [n2, n5, n1, n0, n4, n3], true, false⟩, ⟨⟨some n94, none, .call (.c (.fn n18 [] [])) [(.t n93)] .borrow⟩, n7, n0, [], [n6, n2, n5, n1, n0, n4, n3], true, false⟩, ⟨⟨some n86, none, .mv (.t n94)⟩, n8, n0, [], [], false, false⟩, ⟨⟨some n95, none, .extract (.t n86) n0⟩, n9, n0, [], [], false, false⟩, ⟨⟨some n96, none, .extract (.t n86) n1⟩, n10, n0, [], [], false, false⟩, ⟨⟨some n11, none, .mv (.t n95)⟩, n11, n0, [], [], false, false⟩, ⟨⟨some n12, none, .mv (.t n96)⟩, n12, n0, [], [], false, false⟩])
 (.seq (.ops [⟨some n98, none, .bslice n1 n4 [(.int .i64 (.l (i n0)))] [(n0, (k n0)), (n1, (k n2)), (n2, (k n1)), (n3, (k n3))] false⟩, ⟨some n99, none, .call (.c (.fn n45 [] [])) [(.t n98)] .share⟩, ⟨some n97, none, .mv (.t n99)⟩, ⟨some n100, none, .extract (.t n97) n0⟩, ⟨some n101, none, .extract (.t n97) n1⟩, ⟨some n13, none, .mv (.t n100)⟩, ⟨some n14, none, .mv (.t n101)⟩])
 (.seq (.ops [⟨some n103, none, .call (.c (.fn n18 [] [])) [(.c (.d .nil))] .borrow⟩, ⟨some n102, none, .mv (.t n103)⟩, ⟨some n104, none, .extract (.t n102) n0⟩, ⟨some n105, none, .extract (.t n102) n1⟩, ⟨some n4, none, .mv (.t n105)⟩])
 (.seq (.draw n0 [⟨⟨some n107, none, .mv (.t n1)⟩, n0, n0, [], [], false, false⟩, ⟨⟨some n108, none, .iaddr n5 (.t n107) (k n0)⟩, n1, n0, [], [], false, false⟩, ⟨⟨some n110, none, .mv (.t n13)⟩, n3, n0, [], [], false, false⟩, ⟨⟨some n111, none, .iaddr n5 (.t n110) (k n0)⟩, n4, n0, [], [], false, false⟩, ⟨⟨some n109, none, .load (some n5) (.t n108)⟩, n2, n0, [], [], false, false⟩, ⟨⟨some n112, none, .load (some n5) (.t n111)⟩, n5, n0, [], [], false, false⟩, ⟨⟨some n113, none, .bslice n5 n2 [.nil, .nil, .nil, .nil, (.int .i64 (.l (i n0)))] [(n0, (.t n109)), (n1, (.t n112))] false⟩, n6, n0, [], [n2, n5, n1, n0, n4, n3], true, false⟩, ⟨⟨some n114, none, .call (.c (.fn n20 [] [])) [(.t n113)] .share⟩, n7, n0, [], [n6, n2, n5, n1, n0, n4, n3], true, false⟩, ⟨⟨some n106, none, .mv (.t n114)⟩, n8, n0, [], [], false, false⟩, ⟨⟨some n115, none, .extract (.t n106) n0⟩, n9, n0, [], [], false, false⟩, ⟨⟨some n116, none, .extract (.t n106) n1⟩, n10, n0, [], [], false, false⟩, ⟨⟨some n6, none, .mv (.t n116)⟩, n11, n0, [], [], false, false⟩])
 (.seq (.ops [⟨some n118, none, .mv (.t n1)⟩, ⟨some n119, none, .bslice n1 n3 [(.int .i64 (.l (i n0)))] [(n0, (k n0)), (n1, (k n1)), (n2, (k n2))] false⟩, ⟨some n120, none, .call (.c (.fn n40 [] [])) [(.t n118), (.t n119)] .share⟩, ⟨some n117, none, .mv (.t n120)⟩, ⟨some n121, none, .extract (.t n117) n0⟩, ⟨some n122, none, .extract (.t n117) n1⟩, ⟨some n8, none, .mv (.t n122)⟩])
 (.seq (.ops [⟨some n124, none, .mv (.t n1)⟩, ⟨some n125, none, .call (.c (.fn n36 [] [])) [(.t n124), (k n3)] .share⟩, ⟨some n123, none, .mv (.t n125)⟩, ⟨some n126, none, .extract (.t n123) n0⟩, ⟨some n127, none, .extract (.t n123) n1⟩, ⟨some n10, none, .mv (.t n127)⟩])
 (.seq (.ops [⟨some n129, none, .mv (.t n1)⟩, ⟨some n130, none, .call (.c (.fn n36 [] [])) [(.t n129), (.c (.d (.int .i64 (.l (.negSucc n0)))))] .share⟩, ⟨some n128, none, .mv (.t n130)⟩, ⟨some n131, none, .extract (.t n128) n0⟩, ⟨some n132, none, .extract (.t n128) n1⟩, ⟨some n15, none, .mv (.t n131)⟩, ⟨some n16, none, .mv (.t n132)⟩])
 (.seq (.ops [⟨some n134, none, .mv (.t n1)⟩, ⟨some n135, none, .call (.c (.fn n37 [] [])) [(.t n134), (k n4), (k n0)] .share⟩, ⟨some n133, none, .mv (.t n135)⟩, ⟨some n136, none, .extract (.t n133) n0⟩, ⟨some n137, none, .extract (.t n133) n1⟩, ⟨some n17, none, .mv (.t n136)⟩, ⟨some n18, none, .mv (.t n137)⟩])
 (.seq (.ops [⟨some n139, none, .mv (.t n1)⟩, ⟨some n140, none, .call (.c (.fn n37 [] [])) [(.t n139), (k n0), (k n4)] .share⟩, ⟨some n138, none, .mv (.t n140)⟩, ⟨some n141, none, .extract (.t n138) n0⟩, ⟨some n142, none, .extract (.t n138) n1⟩, ⟨some n19, none, .mv (.t n141)⟩, ⟨some n20, none, .mv (.t n142)⟩])
 (.seq (.ops [⟨some n144, none, .build [.nil, .nil, .nil, .nil, (.int .i64 (.l (i n0)))] []⟩, ⟨some n145, none, .bslice n5 n1 [.nil, .nil, .nil, .nil, (.int .i64 (.l (i n0)))] [(n0, (.t n144))] false⟩, ⟨some n146, none, .call (.c (.fn n25 [] [])) [(.t n145)] .share⟩, ⟨some n143, none, .mv (.t n146)⟩, ⟨some n147, none, .extract (.t n143) n0⟩, ⟨some n148, none, .extract (.t n143) n1⟩, ⟨some n149, none, .extract (.t n143) n2⟩, ⟨some n21, none, .mv (.t n147)⟩, ⟨some n22, none, .mv (.t n148)⟩, ⟨some n23, none, .mv (.t n149)⟩])
 (.seq (.ops [⟨some n150, none, .bslice n1 n6 [(.int .i64 (.l (i n0)))] [(n0, (k n2)), (n1, (k n1)), (n2, (k n1)), (n3, (k n1)), (n4, (k n1)), (n5, (k n1))] false⟩, ⟨some n151, none, .bslice n1 n6 [(.int .i64 (.l (i n0)))] [(n0, (k n0)), (n1, (k n1)), (n2, (k n2)), (n3, (k n3)), (n4, (k n4)), (n5, (k n5))] false⟩, ⟨some n152, none, .build [(.int .u8 (.l (i n0))), (.int .i64 (.l (i n0)))] []⟩, ⟨some n153, none, .build [(.int .u8 (.l (i n0))), (.int .i64 (.l (i n0)))] [(n1, n1, (k n1))]⟩, ⟨some n154, none, .bslice n2 n2 [(.int .u8 (.l (i n0))), (.int .i64 (.l (i n0)))] [(n0, (.t n152)), (n1, (.t n153))] false⟩, ⟨some n155, none, .call (.c (.fn n46 [] [])) [(.t n150), (.t n151), (.t n154)] .share⟩, ⟨some n24, none, .alloc [.nil, .nil, .nil, .nil, (.int .i64 (.l (i n0)))]⟩, ⟨none, none, .store n5 (.t n24) (.t n155)⟩])
 (.seq (.ops [⟨some n157, none, .load (some n5) (.t n24)⟩, ⟨some n158, none, .bslice n5 n1 [.nil, .nil, .nil, .nil, (.int .i64 (.l (i n0)))] [(n0, (.t n157))] false⟩, ⟨some n159, none, .call (.c (.fn n28 [] [])) [(.t n158)] .share⟩, ⟨some n156, none, .mv (.t n159)⟩, ⟨some n160, none, .extract (.t n156) n0⟩, ⟨some n161, none, .extract (.t n156) n1⟩, ⟨some n25, none, .mv (.t n160)⟩, ⟨some n26, none, .mv (.t n161)⟩])
 (.seq (.ops [⟨some n163, none, .bslice n1 n1 [(.int .i64 (.l (i n0)))] [(n0, (k n0))] false⟩, ⟨some n164, none, .build [.nil, .nil, .nil] [(n2, n1, (.t n163))]⟩, ⟨some n165, none, .call (.c (.fn n30 [] [])) [(.t n164)] .share⟩, ⟨some n162, none, .mv (.t n165)⟩, ⟨some n166, none, .extract (.t n162) n0⟩, ⟨some n167, none, .extract (.t n162) n1⟩, ⟨some n27, none, .mv (.t n166)⟩, ⟨some n28, none, .mv (.t n167)⟩])
 (.seq (.ops [⟨some n168, none, .build [(.int .u8 (.l (i n0))), (.int .i64 (.l (i n0)))] [(n1, n1, (k n3))]⟩, ⟨some n169, none, .bslice n2 n1 [(.int .u8 (.l (i n0))), (.int .i64 (.l (i n0)))] [(n0, (.t n168))] false⟩, ⟨some n170, none, .call (.c (.fn n46 [] [])) [(.c (.d .nil)), (.c (.d .nil)), (.t n169)] .share⟩, ⟨some n29, none, .alloc [.nil, .nil, .nil, .nil, (.int .i64 (.l (i n0)))]⟩, ⟨none, none, .store n5 (.t n29) (.t n170)⟩])
 (.seq (.ops [⟨some n172, none, .load (some n5) (.t n29)⟩, ⟨some n173, none, .bslice n5 n1 [.nil, .nil, .nil, .nil, (.int .i64 (.l (i n0)))] [(n0, (.t n172))] false⟩, ⟨some n174, none, .call (.c (.fn n25 [] [])) [(.t n173)] .share⟩, ⟨some n171, none, .mv (.t n174)⟩, ⟨some n175, none, .extract (.t n171) n0⟩, ⟨some n176, none, .extract (.t n171) n1⟩, ⟨some n177, none, .extract (.t n171) n2⟩, ⟨some n30, none, .mv (.t n175)⟩, ⟨some n31, none, .mv (.t n176)⟩, ⟨some n32, none, .mv (.t n177)⟩])
 (.seq (.draw n0 [⟨⟨some n178, none, .mv (.t n12)⟩, n0, n0, [], [], false, false⟩, ⟨⟨some n179, none, .bin .eql (.t n178) (k n0)⟩, n1, n0, [], [], false, false⟩, ⟨⟨some n180, none, .mv (.t n179)⟩, n2, n0, [], [], false, false⟩, ⟨⟨some n181, (some (n180, true)), .mv (.t n11)⟩, n3, n0, [], [], false, false⟩, ⟨⟨some n182, (some (n180, true)), .bin .eql (.t n181) (k n6)⟩, n4, n0, [], [], false, false⟩, ⟨⟨some n183, none, .pick (.t n180) (.t n182) (.c (.d (.bool false)))⟩, n5, n0, [], [], false, false⟩, ⟨⟨some n184, none, .mv (.t n183)⟩, n6, n0, [], [], false, false⟩, ⟨⟨some n185, (some (n184, true)), .mv (.t n4)⟩, n7, n0, [], [], false, false⟩, ⟨⟨some n186, (some (n184, true)), .bin .eql (.t n185) (k n7)⟩, n8, n0, [], [], false, false⟩, ⟨⟨some n187, none, .pick (.t n184) (.t n186) (.c (.d (.bool false)))⟩, n9, n0, [], [], false, false⟩, ⟨⟨some n188, none, .mv (.t n187)⟩, n10, n0, [], [], false, false⟩, ⟨⟨some n189, (some (n188, true)), .mv (.t n6)⟩, n11, n0, [], [], false, false⟩, ⟨⟨some n190, (some (n188, true)), .bin .eql (.t n189) (k n2)⟩, n12, n0, [], [], false, false⟩, ⟨⟨some n191, none, .pick (.t n188) (.t n190) (.c (.d (.bool false)))⟩, n13, n0, [], [], false, false⟩, ⟨⟨some n192, none, .mv (.t n191)⟩, n14, n0, [], [], false, false⟩, ⟨⟨some n193, (some (n192, true)), .mv (.t n8)⟩, n15, n0, [], [], false, false⟩, ⟨⟨some n194, (some (n192, true)), .bin .eql (.t n193) (k n4)⟩, n16, n0, [], [], false, false⟩, ⟨⟨some n195, none, .pick (.t n192) (.t n194) (.c (.d (.bool false)))⟩, n17, n0, [], [], false, false⟩, ⟨⟨some n196, none, .mv (.t n195)⟩, n18, n0, [], [], false, false⟩, ⟨⟨some n197, (some (n196, true)), .mv (.t n10)⟩, n19, n0, [], [], false, false⟩, ⟨⟨some n198, (some (n196, true)), .bin .eql (.t n197) (k n3)⟩, n20, n0, [], [], false, false⟩, ⟨⟨some n199, none, .pick (.t n196) (.t n198) (.c (.d (.bool false)))⟩, n21, n0, [], [], false, false⟩, ⟨⟨some n200, none, .mv (.t n199)⟩, n22, n0, [], [], false, false⟩, ⟨⟨some n201, (some (n200, true)), .mv (.t n16)⟩, n23, n0, [], [], false, false⟩, ⟨⟨some n202, (some (n200, true)), .bin .eql (.t n201) (k n3)⟩, n24, n0, [], [], false, false⟩, ⟨⟨some n203, none, .pick (.t n200) (.t n202) (.c (.d (.bool false)))⟩, n25, n0, [], [], false, false⟩, ⟨⟨some n204, none, .mv (.t n203)⟩, n26, n0, [], [], false, false⟩, ⟨⟨some n205, (some (n204, true)), .mv (.t n18)⟩, n27, n0, [], [], false, false⟩, ⟨⟨some n206, (some (n204, true)), .bin .eql (.t n205) (k n3)⟩, n28, n0, [], [], false, false⟩, ⟨⟨some n207, none, .pick (.t n204) (.t n206) (.c (.d (.bool false)))⟩, n29, n0, [], [], false, false⟩, ⟨⟨some n208, none, .mv (.t n207)⟩, n30, n0, [], [], false, false⟩, ⟨⟨some n209, (some (n208, true)), .mv (.t n20)⟩, n31, n0, [], [], false, false⟩, ⟨⟨some n210, (some (n208, true)), .bin .eql (.t n209) (k n3)⟩, n32, n0, [], [], false, false⟩, ⟨⟨some n211, none, .pick (.t n208) (.t n210) (.c (.d (.bool false)))⟩, n33, n0, [], [], false, false⟩, ⟨⟨some n212, none, .mv (.t n211)⟩, n34, n0, [], [], false, false⟩, ⟨⟨some n213, (some (n212, true)), .mv (.t n23)⟩, n35, n0, [], [], false, false⟩, ⟨⟨some n214, (some (n212, true)), .bin .eql (.t n213) (k n4)⟩, n36, n0, [], [], false, false⟩, ⟨⟨some n215, none, .pick (.t n212) (.t n214) (.c (.d (.bool false)))⟩, n37, n0, [], [], false, false⟩, ⟨⟨some n216, none, .mv (.t n215)⟩, n38, n0, [], [], false, false⟩, ⟨⟨some n217, (some (n216, true)), .mv (.t n26)⟩, n39, n0, [], [], false, false⟩, ⟨⟨some n218, (some (n216, true)), .bin .eql (.t n217) (k n5)⟩, n40, n0, [], [], false, false⟩, ⟨⟨some n219, none, .pick (.t n216) (.t n218) (.c (.d (.bool false)))⟩, n41, n0, [], [], false, false⟩, ⟨⟨some n220, none, .mv (.t n219)⟩, n42, n0, [], [], false, false⟩, ⟨⟨some n221, (some (n220, true)), .mv (.t n28)⟩, n43, n0, [], [], false, false⟩, ⟨⟨some n222, (some (n220, true)), .bin .eql (.t n221) (k n4)⟩, n44, n0, [], [], false, false⟩, ⟨⟨some n223, none, .pick (.t n220) (.t n222) (.c (.d (.bool false)))⟩, n45, n0, [], [], false, false⟩, ⟨⟨some n224, none, .mv (.t n223)⟩, n46, n0, [], [], false, false⟩, ⟨⟨some n225, (some (n224, true)), .mv (.t n32)⟩, n47, n0, [], [], false, false⟩, ⟨⟨some n226, (some (n224, true)), .bin .eql (.t n225) (k n0)⟩, n48, n0, [], [], false, false⟩, ⟨⟨some n227, none, .pick (.t n224) (.t n226) (.c (.d (.bool false)))⟩, n49, n0, [], [], false, false⟩, ⟨⟨some n228, none, .mv (.t n227)⟩, n50, n0, [], [], false, false⟩, ⟨⟨some n229, (some (n228, true)), .mv (.t n31)⟩, n51, n0, [], [], false, false⟩, ⟨⟨some n230, (some (n228, true)), .len (.t n229)⟩, n52, n0, [], [], false, false⟩, ⟨⟨some n231, (some (n228, true)), .bin .eql (.t n230) (k n0)⟩, n53, n0, [], [], false, false⟩, ⟨⟨some n232, none, .pick (.t n228) (.t n231) (.c (.d (.bool false)))⟩, n54, n0, [], [], false, false⟩, ⟨⟨some n233, none, .mv (.t n232)⟩, n55, n0, [], [], false, false⟩, ⟨⟨some n234, (some (n233, true)), .mv (.t n30)⟩, n56, n0, [], [], false, false⟩, ⟨⟨some n235, (some (n233, true)), .len (.t n234)⟩, n57, n0, [], [], false, false⟩, ⟨⟨some n236, (some (n233, true)), .bin .eql (.t n235) (k n1)⟩, n58, n0, [], [], false, false⟩, ⟨⟨some n237, none, .pick (.t n233) (.t n236) (.c (.d (.bool false)))⟩, n59, n0, [], [], false, false⟩, ⟨⟨some n238, none, .mv (.t n237)⟩, n60, n0, [], [], false, false⟩, ⟨⟨some n239, (some (n238, true)), .mv (.t n30)⟩, n61, n0, [], [], false, false⟩, ⟨⟨some n240, (some (n238, true)), .iaddr n5 (.t n239) (k n0)⟩, n62, n0, [], [], false, false⟩, ⟨⟨some n241, (some (n238, true)), .load (some n5) (.t n240)⟩, n63, n0, [], [], false, false⟩, ⟨⟨some n242, (some (n238, true)), .load (some n5) (.t n29)⟩, n64, n0, [], [], false, false⟩, ⟨⟨some n243, (some (n238, true)), .call (.c (.fn n47 [] [])) [(.t n241), (.t n242)] .borrow⟩, n65, n0, [], [n63, n64, n60, n62, n61, n59, n55, n58, n54, n50, n53, n49, n46, n48, n45, n42, n44, n41, n38, n40, n37, n34, n36, n33, n30, n32, n29, n26, n28, n25, n22, n24, n21, n18, n20, n17, n14, n16, n13, n10, n12, n9, n6, n8, n5, n2, n4, n1, n0, n3, n7, n11, n15, n19, n23, n27, n31, n35, n39, n43, n47, n52, n51, n57, n56], true, false⟩, ⟨⟨some n244, none, .pick (.t n238) (.t n243) (.c (.d (.bool false)))⟩, n66, n0, [], [], false, false⟩, ⟨⟨some n245, none, .mv (.t n244)⟩, n67, n0, [], [], false, false⟩, ⟨⟨some n246, (some (n245, true)), .call (.c (.fn n17 [] [])) [] .borrow⟩, n68, n0, [], [n67, n66, n65, n60, n59, n55, n58, n54, n50, n53, n49, n46, n48, n45, n42, n44, n41, n38, n40, n37, n34, n36, n33, n30, n32, n29, n26, n28, n25, n22, n24, n21, n18, n20, n17, n14, n16, n13, n10, n12, n9, n6, n8, n5, n2, n4, n1, n0, n3, n7, n11, n15, n19, n23, n27, n31, n35, n39, n43, n47, n52, n51, n57, n56, n63, n64, n62, n61], true, false⟩, ⟨⟨some n247, none, .pick (.t n245) (.t n246) (.c (.d (.bool false)))⟩, n69, n0, [], [], false, false⟩, ⟨⟨some n0, none, .mv (.t n247)⟩, n70, n0, [], [], false, false⟩])
 .ret)))))))))))))))))))))))
def x13 : XFn := ⟨a13, n248, [(.t n0)], c13⟩
def a17 : Ann := ⟨[(n1, n1, n1), (n2, n1, n1), (n3, n1, n0), (n4, n1, n1), (n5, n1, n1), (n6, n1, n1), (n7, n1, n1), (n8, n1, n1), (n9, n1, n1), (n10, n7, n1), (n11, n13, n0), (n11, n22, n0), (n11, n28, n0), (n11, n34, n0), (n11, n39, n0), (n11, n48, n0), (n11, n57, n0)], []⟩
def c17 : ICode :=
 (.seq (.ops [⟨some n0, none, .mv (.c (.d (.bool false)))⟩])
 (.seq (.ops [⟨some n23, none, .bslice n1 n4 [(.int .i64 (.l (i n0)))] [(n0, (k n0)), (n1, (k n1)), (n2, (k n2)), (n3, (k n3))] false⟩, ⟨some n24, none, .call (.c (.fn n45 [] [])) [(.t n23)] .share⟩, ⟨some n22, none, .mv (.t n24)⟩, ⟨some n25, none, .extract (.t n22) n0⟩, ⟨some n26, none, .extract (.t n22) n1⟩, ⟨some n1, none, .mv (.t n25)⟩, ⟨some n2, none, .mv (.t n26)⟩])
 (.seq (.ops [⟨some n28, none, .bslice n1 n4 [(.int .i64 (.l (i n0)))] [(n0, (k n0)), (n1, (k n2)), (n2, (k n1)), (n3, (k n3))] false⟩, ⟨some n29, none, .call (.c (.fn n45 [] [])) [(.t n28)] .share⟩, ⟨some n27, none, .mv (.t n29)⟩, ⟨some n30, none, .extract (.t n27) n0⟩, ⟨some n31, none, .extract (.t n27) n1⟩, ⟨some n3, none, .mv (.t n30)⟩, ⟨some n4, none, .mv (.t n31)⟩])
 (.seq (.ops [⟨some n33, none, .mv (.t n3)⟩, ⟨some n34, none, .call (.c (.fn n18 [] [])) [(.t n33)] .borrow⟩, ⟨some n32, none, .mv (.t n34)⟩, ⟨some n35, none, .extract (.t n32) n0⟩, ⟨some n36, none, .extract (.t n32) n1⟩, ⟨some n5, none, .mv (.t n35)⟩, ⟨some n6, none, .mv (.t n36)⟩])
 (.seq (.ops [⟨some n38, none, .mv (.t n3)⟩, ⟨some n39, none, .call (.c (.fn n20 [] [])) [(.t n38)] .share⟩, ⟨some n37, none, .mv (.t n39)⟩, ⟨some n40, none, .extract (.t n37) n0⟩, ⟨some n41, none, .extract (.t n37) n1⟩, ⟨some n7, none, .mv (.t n40)⟩, ⟨some n8, none, .mv (.t n41)⟩])
 (.seq (.ops [⟨some n43, none, .mv (.t n3)⟩, ⟨some n44, none, .call (.c (.fn n36 [] [])) [(.t n43), (k n1)] .share⟩, ⟨some n42, none, .mv (.t n44)⟩, ⟨some n45, none, .extract (.t n42) n0⟩, ⟨some n46, none, .extract (.t n42) n1⟩, ⟨some n9, none, .mv (.t n45)⟩, ⟨some n10, none, .mv (.t n46)⟩])
 (.seq (.ops [⟨some n48, none, .mv (.t n1)⟩, ⟨some n49, none, .call (.c (.fn n37 [] [])) [(.t n48), (k n2), (k n0)] .share⟩, ⟨some n47, none, .mv (.t n49)⟩, ⟨some n50, none, .extract (.t n47) n0⟩, ⟨some n51, none, .extract (.t n47) n1⟩, ⟨some n11, none, .mv (.t n50)⟩, ⟨some n12, none, .mv (.t n51)⟩])
 (.seq (.ops [⟨some n53, none, .mv (.t n3)⟩, ⟨some n54, none, .call (.c (.fn n25 [] [])) [(.t n53)] .share⟩, ⟨some n52, none, .mv (.t n54)⟩, ⟨some n55, none, .extract (.t n52) n0⟩, ⟨some n56, none, .extract (.t n52) n1⟩, ⟨some n57, none, .extract (.t n52) n2⟩, ⟨some n13, none, .mv (.t n55)⟩, ⟨some n14, none, .mv (.t n56)⟩, ⟨some n15, none, .mv (.t n57)⟩])
 (.seq (.ops [⟨some n59, none, .bslice n1 n4 [(.int .i64 (.l (i n0)))] [(n0, (k n3)), (n1, (k n1)), (n2, (k n0)), (n3, (k n2))] false⟩, ⟨some n60, none, .call (.c (.fn n45 [] [])) [(.t n59)] .share⟩, ⟨some n58, none, .mv (.t n60)⟩, ⟨some n61, none, .extract (.t n58) n0⟩, ⟨some n62, none, .extract (.t n58) n1⟩, ⟨some n16, none, .mv (.t n61)⟩, ⟨some n17, none, .mv (.t n62)⟩])
 (.seq (.ops [⟨some n64, none, .mv (.t n16)⟩, ⟨some n65, none, .call (.c (.fn n28 [] [])) [(.t n64)] .share⟩, ⟨some n63, none, .mv (.t n65)⟩, ⟨some n66, none, .extract (.t n63) n0⟩, ⟨some n67, none, .extract (.t n63) n1⟩, ⟨some n18, none, .mv (.t n66)⟩, ⟨some n19, none, .mv (.t n67)⟩])
 (.seq (.ops [⟨some n69, none, .mkslice n3 [(.str []), (.int .i64 (.l (i n0))), (.int .i64 (.l (i n0)))] n32 (k n3)⟩, ⟨some n70, none, .build [(.int .u8 (.l (i n0))), (.int .i64 (.l (i n0))), (.int .i64 (.l (i n0))), (.int .i64 (.l (i n0))), (.int .i64 (.l (i n0)))] [(n0, n1, (.c (.d (.int .u8 (.l (i n3))))))]⟩, ⟨some n71, none, .build [(.int .u8 (.l (i n0))), (.int .i64 (.l (i n0))), (.int .i64 (.l (i n0))), (.int .i64 (.l (i n0))), (.int .i64 (.l (i n0)))] [(n0, n1, (.c (.d (.int .u8 (.l (i n3)))))), (n4, n1, (k n1))]⟩, ⟨some n72, none, .build [(.int .u8 (.l (i n0))), (.int .i64 (.l (i n0))), (.int .i64 (.l (i n0))), (.int .i64 (.l (i n0))), (.int .i64 (.l (i n0)))] [(n0, n1, (.c (.d (.int .u8 (.l (i n3)))))), (n4, n1, (k n2))]⟩, ⟨some n73, none, .build [(.int .u8 (.l (i n0))), (.int .i64 (.l (i n0))), (.int .i64 (.l (i n0))), (.int .i64 (.l (i n0))), (.int .i64 (.l (i n0)))] [(n0, n1, (.c (.d (.int .u8 (.l (i n7)))))), (n1, n1, (k n2))]⟩, ⟨some n74, none, .bslice n5 n4 [(.int .u8 (.l (i n0))), (.int .i64 (.l (i n0))), (.int .i64 (.l (i n0))), (.int .i64 (.l (i n0))), (.int .i64 (.l (i n0)))] [(n0, (.t n70)), (n1, (.t n71)), (n2, (.t n72)), (n3, (.t n73))] false⟩, ⟨some n75, none, .build [.nil, .nil, .nil] [(n0, n1, (.t n69)), (n1, n1, (.t n74))]⟩, ⟨some n76, none, .call (.c (.fn n30 [] [])) [(.t n75)] .share⟩, ⟨some n68, none, .mv (.t n76)⟩, ⟨some n77, none, .extract (.t n68) n0⟩, ⟨some n78, none, .extract (.t n68) n1⟩, ⟨some n20, none, .mv (.t n77)⟩, ⟨some n21, none, .mv (.t n78)⟩])
 (.seq (.ops [⟨some n79, none, .mv (.t n6)⟩, ⟨some n80, none, .bin .eql (.t n79) (k n0)⟩, ⟨some n81, none, .mv (.t n80)⟩, ⟨some n82, (some (n81, true)), .mv (.t n5)⟩, ⟨some n83, (some (n81, true)), .bin .eql (.t n82) (k n9)⟩, ⟨some n84, none, .pick (.t n81) (.t n83) (.c (.d (.bool false)))⟩, ⟨some n85, none, .mv (.t n84)⟩, ⟨some n86, (some (n85, true)), .mv (.t n8)⟩, ⟨some n87, (some (n85, true)), .bin .eql (.t n86) (k n0)⟩, ⟨some n88, none, .pick (.t n85) (.t n87) (.c (.d (.bool false)))⟩, ⟨some n89, none, .mv (.t n88)⟩, ⟨some n90, (some (n89, true)), .mv (.t n7)⟩, ⟨some n91, (some (n89, true)), .bslice n1 n4 [(.int .i64 (.l (i n0)))] [(n0, (k n1)), (n1, (k n4)), (n2, (k n2)), (n3, (k n2))] false⟩, ⟨some n92, (some (n89, true)), .call (.c (.fn n23 [] [])) [(.t n90), (.t n91)] .borrow⟩, ⟨some n93, none, .pick (.t n89) (.t n92) (.c (.d (.bool false)))⟩, ⟨some n94, none, .mv (.t n93)⟩, ⟨some n95, (some (n94, true)), .mv (.t n10)⟩, ⟨some n96, (some (n94, true)), .bin .eql (.t n95) (k n0)⟩, ⟨some n97, none, .pick (.t n94) (.t n96) (.c (.d (.bool false)))⟩, ⟨some n98, none, .mv (.t n97)⟩, ⟨some n99, (some (n98, true)), .mv (.t n9)⟩, ⟨some n100, (some (n98, true)), .mv (.t n1)⟩, ⟨some n101, (some (n98, true)), .call (.c (.fn n27 [] [])) [(.t n99), (.t n100)] .borrow⟩, ⟨some n102, none, .pick (.t n98) (.t n101) (.c (.d (.bool false)))⟩, ⟨some n103, none, .mv (.t n102)⟩, ⟨some n104, (some (n103, true)), .mv (.t n11)⟩, ⟨some n105, (some (n103, true)), .mv (.t n12)⟩, ⟨some n106, (some (n103, true)), .bslice n1 n4 [(.int .i64 (.l (i n0)))] [(n0, (k n2)), (n1, (k n0)), (n2, (k n1)), (n3, (k n3))] false⟩, ⟨some n107, (some (n103, true)), .call (.c (.fn n53 [] [])) [(.t n104), (.t n105), (.t n106)] .borrow⟩, ⟨some n108, none, .pick (.t n103) (.t n107) (.c (.d (.bool false)))⟩, ⟨some n109, none, .mv (.t n108)⟩, ⟨some n110, (some (n109, true)), .mv (.t n13)⟩, ⟨some n111, (some (n109, true)), .mv (.t n15)⟩, ⟨some n112, (some (n109, true)), .bslice n1 n4 [(.int .i64 (.l (i n0)))] [(n0, (k n0)), (n1, (k n1)), (n2, (k n3)), (n3, (k n2))] false⟩, ⟨some n113, (some (n109, true)), .call (.c (.fn n53 [] [])) [(.t n110), (.t n111), (.t n112)] .borrow⟩, ⟨some n114, none, .pick (.t n109) (.t n113) (.c (.d (.bool false)))⟩, ⟨some n115, none, .mv (.t n114)⟩, ⟨some n116, (some (n115, true)), .mv (.t n14)⟩, ⟨some n117, (some (n115, true)), .bslice n1 n4 [(.int .i64 (.l (i n0)))] [(n0, (k n0)), (n1, (k n2)), (n2, (k n2)), (n3, (k n0))] false⟩, ⟨some n118, (some (n115, true)), .call (.c (.fn n23 [] [])) [(.t n116), (.t n117)] .borrow⟩, ⟨some n119, none, .pick (.t n115) (.t n118) (.c (.d (.bool false)))⟩, ⟨some n120, none, .mv (.t n119)⟩, ⟨some n121, (some (n120, true)), .mv (.t n19)⟩, ⟨some n122, (some (n120, true)), .bin .eql (.t n121) (k n0)⟩, ⟨some n123, none, .pick (.t n120) (.t n122) (.c (.d (.bool false)))⟩, ⟨some n124, none, .mv (.t n123)⟩, ⟨some n125, (some (n124, true)), .mv (.t n18)⟩, ⟨some n126, (some (n124, true)), .mv (.t n1)⟩, ⟨some n127, (some (n124, true)), .call (.c (.fn n27 [] [])) [(.t n125), (.t n126)] .borrow⟩, ⟨some n128, none, .pick (.t n124) (.t n127) (.c (.d (.bool false)))⟩, ⟨some n129, none, .mv (.t n128)⟩, ⟨some n130, (some (n129, true)), .mv (.t n21)⟩, ⟨some n131, (some (n129, true)), .bin .eql (.t n130) (k n0)⟩, ⟨some n132, none, .pick (.t n129) (.t n131) (.c (.d (.bool false)))⟩, ⟨some n133, none, .mv (.t n132)⟩, ⟨some n134, (some (n133, true)), .mv (.t n20)⟩, ⟨some n135, (some (n133, true)), .bslice n1 n3 [(.int .i64 (.l (i n0)))] [(n0, (k n2)), (n1, (k n0)), (n2, (k n1))] false⟩, ⟨some n136, (some (n133, true)), .call (.c (.fn n23 [] [])) [(.t n134), (.t n135)] .borrow⟩, ⟨some n137, none, .pick (.t n133) (.t n136) (.c (.d (.bool false)))⟩, ⟨some n0, none, .mv (.t n137)⟩])
 .ret))))))))))))
def x17 : XFn := ⟨a17, n138, [(.t n0)], c17⟩
def a18 : Ann := ⟨[(n1, n1, n1), (n4, n1, n0)], []⟩
def c18 : ICode :=
 (.seq (.ops [⟨some n2, none, .mv (k n0)⟩, ⟨some n3, none, .mv (k n0)⟩])
 (.seq (.ops [⟨some n7, none, .mv (.t n0)⟩, ⟨some n8, none, .call (.c (.fn n54 [] [])) [(.t n7)] .share⟩, ⟨some n6, none, .mv (.t n8)⟩, ⟨some n9, none, .extract (.t n6) n0⟩, ⟨some n10, none, .extract (.t n6) n1⟩, ⟨some n4, none, .alloc [.nil, .nil, .nil, .nil]⟩, ⟨none, none, .store n4 (.t n4) (.t n9)⟩, ⟨some n5, none, .mv (.t n10)⟩])
 (.seq (.seq (.ops [⟨some n11, none, .mv (.t n5)⟩, ⟨some n12, none, .bin .neq (.t n11) (k n0)⟩])
 (.cond (.t n12) (.seq (.ops [⟨some n13, none, .mv (.t n5)⟩, ⟨some n2, none, .mv (k n0)⟩, ⟨some n3, none, .mv (.t n13)⟩])
 .ret)
 .skip))
 (.seq (.ops [⟨some n14, none, .load (some n4) (.t n4)⟩, ⟨some n15, none, .call (.c (.fn n55 [] [])) [(.t n14)] .borrow⟩, ⟨some n2, none, .mv (.t n15)⟩, ⟨some n3, none, .mv (k n0)⟩])
 .ret))))
def x18 : XFn := ⟨a18, n16, [(.t n2), (.t n3)], c18⟩
def a20 : Ann := ⟨[(n1, n2, n1)], []⟩
def c20 : ICode :=
 (.seq (.ops [⟨some n2, none, .mv (.c (.d .nil))⟩, ⟨some n3, none, .mv (k n0)⟩])
 (.seq (.ops [⟨some n4, none, .build [(.raw .nilFunc)] [(n0, n1, (.c (.fn n56 [] [])))]⟩, ⟨some n5, none, .mv (.t n0)⟩, ⟨some n6, none, .call (.c (.fn n57 [] [])) [(.t n4), (.t n5)] .share⟩, ⟨some n7, none, .extract (.t n6) n0⟩, ⟨some n8, none, .extract (.t n6) n1⟩, ⟨some n2, none, .mv (.t n7)⟩, ⟨some n3, none, .mv (.t n8)⟩])
 .ret))
def x20 : XFn := ⟨a20, n9, [(.t n2), (.t n3)], c20⟩
def a23 : Ann := ⟨[], []⟩
def c23 : ICode :=
 (.seq (.ops [⟨some n4, none, .mv (.c (.d (.bool false)))⟩])
 (.seq (.seq (.ops [⟨some n6, none, .mv (.t n0)⟩, ⟨some n7, none, .len (.t n6)⟩, ⟨some n8, none, .mv (.t n1)⟩, ⟨some n9, none, .len (.t n8)⟩, ⟨some n10, none, .bin .neq (.t n7) (.t n9)⟩])
 (.cond (.t n10) (.seq (.ops [⟨some n4, none, .mv (.c (.d (.bool false)))⟩])
 .ret)
 .skip))
 (.seq (.seq (.ops [⟨some n5, none, .mv (k n0)⟩])
 (.block n0 (.loop (.seq (.seq (.ops [⟨some n11, none, .mv (.t n5)⟩, ⟨some n12, none, .mv (.t n0)⟩, ⟨some n13, none, .len (.t n12)⟩, ⟨some n14, none, .bin .lss (.t n11) (.t n13)⟩])
 (.cond (.t n14) .skip
 (.exit n0)))
 (.seq (.block n1 (.seq (.draw n0 [⟨⟨some n17, none, .mv (.t n0)⟩, n0, n0, [], [], false, false⟩, ⟨⟨some n18, none, .mv (.t n5)⟩, n1, n0, [], [], false, false⟩, ⟨⟨some n19, none, .iaddr n1 (.t n17) (.t n18)⟩, n2, n0, [], [], false, false⟩, ⟨⟨some n21, none, .mv (.t n1)⟩, n4, n0, [], [], false, false⟩, ⟨⟨some n22, none, .mv (.t n5)⟩, n5, n0, [], [], false, false⟩, ⟨⟨some n23, none, .iaddr n1 (.t n21) (.t n22)⟩, n6, n0, [], [], false, false⟩, ⟨⟨some n20, none, .load none (.t n19)⟩, n3, n0, [], [], false, false⟩, ⟨⟨some n24, none, .load none (.t n23)⟩, n7, n0, [], [], false, false⟩, ⟨⟨some n25, none, .bin .neq (.t n20) (.t n24)⟩, n8, n0, [], [], false, false⟩])
 (.cond (.t n25) (.seq (.ops [⟨some n4, none, .mv (.c (.d (.bool false)))⟩])
 .ret)
 .skip)))
 (.ops [⟨some n15, none, .mv (.t n5)⟩, ⟨some n16, none, .bin .add (.t n15) (k n1)⟩, ⟨some n5, none, .mv (.t n16)⟩]))))))
 (.seq (.ops [⟨some n4, none, .mv (.c (.d (.bool true)))⟩])
 .ret))))
def x23 : XFn := ⟨a23, n26, [(.t n4)], c23⟩
def a25 : Ann := ⟨[(n1, n1, n1), (n5, n1, n1), (n8, n5, n3), (n10, n1, n2), (n18, n6, n3), (n18, n7, n3), (n19, n1, n0), (n23, n4, n3), (n25, n4, n1)], []⟩
def c25 : ICode :=
 (.seq (.ops [⟨some n2, none, .mv (.c (.d .nil))⟩, ⟨some n3, none, .mv (.c (.d .nil))⟩, ⟨some n4, none, .mv (k n0)⟩])
 (.seq (.ops [⟨some n18, none, .mv (.t n0)⟩, ⟨some n19, none, .call (.c (.fn n54 [] [])) [(.t n18)] .share⟩, ⟨some n17, none, .mv (.t n19)⟩, ⟨some n20, none, .extract (.t n17) n0⟩, ⟨some n21, none, .extract (.t n17) n1⟩, ⟨some n5, none, .alloc [.nil, .nil, .nil, .nil]⟩, ⟨none, none, .store n4 (.t n5) (.t n20)⟩, ⟨some n4, none, .mv (.t n21)⟩])
 (.seq (.seq (.ops [⟨some n22, none, .mv (.t n4)⟩, ⟨some n23, none, .bin .neq (.t n22) (k n0)⟩])
 (.cond (.t n23) (.seq (.ops [⟨some n24, none, .mv (.t n4)⟩, ⟨some n2, none, .mv (.c (.d .nil))⟩, ⟨some n3, none, .mv (.c (.d .nil))⟩, ⟨some n4, none, .mv (.t n24)⟩])
 .ret)
 .skip))
 (.seq (.ops [⟨some n6, none, .mv (.c (.d .nil))⟩])
 (.seq (.seq (.ops [⟨some n25, none, .load (some n4) (.t n5)⟩, ⟨some n26, none, .call (.c (.fn n56 [] [])) [(.t n25)] .share⟩, ⟨some n27, none, .len (.t n26)⟩, ⟨some n28, none, .mv (k n0)⟩])
 (.block n0 (.loop (.seq (.ops [⟨some n29, none, .bin .lss (.t n28) (.t n27)⟩])
 (.seq (.cond (.t n29) .skip
 (.exit n0))
 (.seq (.block n1 (.seq (.ops [⟨some n30, none, .mv (.t n28)⟩, ⟨some n31, none, .iaddr n1 (.t n26) (.t n28)⟩, ⟨some n32, none, .load none (.t n31)⟩, ⟨some n7, none, .mv (.t n30)⟩, ⟨some n8, none, .mv (.t n32)⟩])
 (.ops [⟨some n33, none, .mv (.t n6)⟩, ⟨some n34, none, .mv (.t n7)⟩, ⟨some n35, none, .mv (.t n8)⟩, ⟨some n36, none, .build [(.int .i64 (.l (i n0))), (.int .i64 (.l (i n0)))] [(n0, n1, (.t n34)), (n1, n1, (.t n35))]⟩, ⟨some n37, none, .bslice n2 n1 [(.int .i64 (.l (i n0))), (.int .i64 (.l (i n0)))] [(n0, (.t n36))] false⟩, ⟨some n38, none, .appendN n2 n16 (.t n33) (.t n37) true⟩, ⟨some n6, none, .mv (.t n38)⟩])))
 (.ops [⟨some n39, none, .bin .add (.t n28) (k n1)⟩, ⟨some n28, none, .mv (.t n39)⟩])))))))
 (.seq (.ops [⟨some n40, none, .mv (.t n6)⟩, ⟨some n41, none, .call (.c (.fn n60 [] [])) [(.t n40), (.c (.fn n61 [] []))] .raw⟩])
 (.seq (.seq (.ops [⟨some n42, none, .mv (.t n6)⟩, ⟨some n43, none, .len (.t n42)⟩, ⟨some n44, none, .mv (k n0)⟩])
 (.block n2 (.loop (.seq (.ops [⟨some n45, none, .bin .lss (.t n44) (.t n43)⟩])
 (.seq (.cond (.t n45) .skip
 (.exit n2))
 (.seq (.block n3 (.seq (.ops [⟨some n46, none, .iaddr n2 (.t n42) (.t n44)⟩, ⟨some n47, none, .load (some n2) (.t n46)⟩, ⟨some n10, none, .alloc [(.int .i64 (.l (i n0))), (.int .i64 (.l (i n0)))]⟩, ⟨none, none, .store n2 (.t n10) (.t n47)⟩])
 (.seq (.ops [⟨some n48, none, .load (some n4) (.t n5)⟩, ⟨some n11, none, .alloc [.nil, .nil, .nil, .nil]⟩, ⟨none, none, .store n4 (.t n11) (.t n48)⟩, ⟨some n12, none, .mv (.c (.d (.int .i64 (.l (.negSucc n0)))))⟩, ⟨some n13, none, .mv (k n0)⟩])
 (.seq (.seq (.ops [⟨some n49, none, .faddr n0 (.t n5)⟩, ⟨some n50, none, .faddr n1 (.t n49)⟩, ⟨some n51, none, .load none (.t n50)⟩, ⟨some n52, none, .len (.t n51)⟩, ⟨some n53, none, .mv (k n0)⟩])
 (.block n4 (.loop (.seq (.ops [⟨some n54, none, .bin .lss (.t n53) (.t n52)⟩])
 (.seq (.cond (.t n54) .skip
 (.exit n4))
 (.seq (.block n5 (.seq (.ops [⟨some n55, none, .mv (.t n53)⟩, ⟨some n14, none, .mv (.t n55)⟩])
 (.seq (.draw n1 [⟨⟨some n57, none, .faddr n0 (.t n5)⟩, n1, n0, [], [], false, false⟩, ⟨⟨some n59, none, .faddr n0 (.t n10)⟩, n3, n0, [], [], false, false⟩, ⟨⟨some n61, none, .mv (.t n14)⟩, n5, n0, [], [], false, false⟩, ⟨⟨some n56, none, .load (some n4) (.t n5)⟩, n0, n0, [n0], [], false, false⟩, ⟨⟨some n58, none, .load (some n2) (.t n57)⟩, n2, n0, [n0], [], false, false⟩, ⟨⟨some n60, none, .load none (.t n59)⟩, n4, n0, [n0], [], false, false⟩, ⟨⟨some n15, none, .alloc [.nil, .nil, .nil, .nil]⟩, n8, n0, [], [], false, false⟩, ⟨⟨some n62, none, .call (.c (.fn n65 [] [])) [(.t n58), (.t n60), (.t n61)] .data⟩, n6, n0, [], [], false, false⟩, ⟨⟨some n63, none, .call (.c (.fn n64 [] [])) [(.t n56), (.t n62)] .data⟩, n7, n0, [], [], false, false⟩, ⟨⟨none, none, .store n4 (.t n15) (.t n63)⟩, n9, n1, [], [n8, n7, n0, n1, n2, n3, n4, n5, n6], true, false⟩])
 (.seq (.ops [⟨some n64, none, .load (some n4) (.t n15)⟩, ⟨some n65, none, .call (.c (.fn n55 [] [])) [(.t n64)] .borrow⟩, ⟨some n16, none, .mv (.t n65)⟩])
 (.seq (.ops [⟨some n66, none, .mv (.t n12)⟩, ⟨some n67, none, .bin .lss (.t n66) (k n0)⟩, ⟨some n68, none, .mv (.t n67)⟩, ⟨some n69, (some (n68, false)), .mv (.t n16)⟩, ⟨some n70, (some (n68, false)), .mv (.t n12)⟩, ⟨some n71, (some (n68, false)), .bin .lss (.t n69) (.t n70)⟩, ⟨some n72, none, .pick (.t n68) (.c (.d (.bool true))) (.t n71)⟩])
 (.cond (.t n72) (.ops [⟨some n73, none, .load (some n4) (.t n15)⟩, ⟨some n74, none, .mv (.t n16)⟩, ⟨some n75, none, .mv (.t n14)⟩, ⟨none, none, .store n4 (.t n11) (.t n73)⟩, ⟨some n12, none, .mv (.t n74)⟩, ⟨some n13, none, .mv (.t n75)⟩])
 .skip))))))
 (.ops [⟨some n76, none, .bin .add (.t n53) (k n1)⟩, ⟨some n53, none, .mv (.t n76)⟩])))))))
 (.draw n0 [⟨⟨some n78, none, .mv (.t n3)⟩, n1, n0, [], [], false, true⟩, ⟨⟨some n79, none, .mv (.t n13)⟩, n2, n0, [], [], false, false⟩, ⟨⟨some n77, none, .load (some n4) (.t n11)⟩, n0, n0, [], [], false, true⟩, ⟨⟨some n80, none, .bslice n1 n1 [(.int .i64 (.l (i n0)))] [(n0, (.t n79))] false⟩, n3, n0, [], [n2], false, false⟩, ⟨⟨some n81, none, .appendN n1 n8 (.t n78) (.t n80) true⟩, n4, n0, [], [n1, n3, n2], false, false⟩, ⟨⟨none, none, .store n4 (.t n5) (.t n77)⟩, n5, n0, [], [n0, n4, n1, n3, n2], true, false⟩, ⟨⟨some n3, none, .mv (.t n81)⟩, n6, n0, [], [], false, false⟩])))))
 (.ops [⟨some n82, none, .bin .add (.t n44) (k n1)⟩, ⟨some n44, none, .mv (.t n82)⟩])))))))
 (.seq (.ops [⟨some n83, none, .load (some n4) (.t n5)⟩, ⟨some n84, none, .faddr n0 (.t n5)⟩, ⟨some n85, none, .faddr n1 (.t n84)⟩, ⟨some n86, none, .load none (.t n85)⟩, ⟨some n87, none, .call (.c (.fn n64 [] [])) [(.t n83), (.t n86)] .share⟩, ⟨some n88, none, .field n2 none (.t n87)⟩, ⟨some n89, none, .mv (.t n3)⟩, ⟨some n2, none, .mv (.t n88)⟩, ⟨some n3, none, .mv (.t n89)⟩, ⟨some n4, none, .mv (k n0)⟩])
 .ret))))))))
def x25 : XFn := ⟨a25, n90, [(.t n2), (.t n3), (.t n4)], c25⟩
def a27 : Ann := ⟨[(n6, n8, n0)], []⟩
def c27 : ICode :=
 (.seq (.ops [⟨some n4, none, .mv (.c (.d (.bool false)))⟩])
 (.seq (.seq (.ops [⟨some n6, none, .mv (.t n0)⟩, ⟨some n7, none, .len (.t n6)⟩, ⟨some n8, none, .mv (.t n1)⟩, ⟨some n9, none, .len (.t n8)⟩, ⟨some n10, none, .bin .neq (.t n7) (.t n9)⟩])
 (.cond (.t n10) (.seq (.ops [⟨some n4, none, .mv (.c (.d (.bool false)))⟩])
 .ret)
 .skip))
 (.seq (.seq (.ops [⟨some n5, none, .mv (k n0)⟩])
 (.block n0 (.loop (.seq (.seq (.ops [⟨some n11, none, .mv (.t n5)⟩, ⟨some n12, none, .mv (.t n0)⟩, ⟨some n13, none, .len (.t n12)⟩, ⟨some n14, none, .bin .lss (.t n11) (.t n13)⟩])
 (.cond (.t n14) .skip
 (.exit n0)))
 (.seq (.block n1 (.seq (.draw n0 [⟨⟨some n17, none, .mv (.t n0)⟩, n0, n0, [], [], false, false⟩, ⟨⟨some n18, none, .mv (.t n5)⟩, n1, n0, [], [], false, false⟩, ⟨⟨some n19, none, .iaddr n5 (.t n17) (.t n18)⟩, n2, n0, [], [], false, false⟩, ⟨⟨some n21, none, .mv (.t n1)⟩, n4, n0, [], [], false, false⟩, ⟨⟨some n22, none, .mv (.t n5)⟩, n5, n0, [], [], false, false⟩, ⟨⟨some n23, none, .iaddr n5 (.t n21) (.t n22)⟩, n6, n0, [], [], false, false⟩, ⟨⟨some n20, none, .load (some n5) (.t n19)⟩, n3, n0, [], [], false, false⟩, ⟨⟨some n24, none, .load (some n5) (.t n23)⟩, n7, n0, [], [], false, false⟩, ⟨⟨some n25, none, .call (.c (.fn n47 [] [])) [(.t n20), (.t n24)] .borrow⟩, n8, n0, [], [n3, n7, n2, n0, n1, n6, n4, n5], true, false⟩, ⟨⟨some n26, none, .un .not (.t n25)⟩, n9, n0, [], [], false, false⟩])
 (.cond (.t n26) (.seq (.ops [⟨some n4, none, .mv (.c (.d (.bool false)))⟩])
 .ret)
 .skip)))
 (.ops [⟨some n15, none, .mv (.t n5)⟩, ⟨some n16, none, .bin .add (.t n15) (k n1)⟩, ⟨some n5, none, .mv (.t n16)⟩]))))))
 (.seq (.ops [⟨some n4, none, .mv (.c (.d (.bool true)))⟩])
 .ret))))
def x27 : XFn := ⟨a27, n27, [(.t n4)], c27⟩
def a28 : Ann := ⟨[(n1, n1, n1), (n9, n2, n1), (n10, n1, n0)], []⟩
def c28 : ICode :=
 (.seq (.ops [⟨some n2, none, .mv (.c (.d .nil))⟩, ⟨some n3, none, .mv (k n0)⟩])
 (.seq (.ops [⟨some n12, none, .mv (.t n0)⟩, ⟨some n13, none, .call (.c (.fn n54 [] [])) [(.t n12)] .share⟩, ⟨some n11, none, .mv (.t n13)⟩, ⟨some n14, none, .extract (.t n11) n0⟩, ⟨some n15, none, .extract (.t n11) n1⟩, ⟨some n4, none, .alloc [.nil, .nil, .nil, .nil]⟩, ⟨none, none, .store n4 (.t n4) (.t n14)⟩, ⟨some n5, none, .mv (.t n15)⟩])
 (.seq (.block n0 (.seq (.ops [⟨some n17, none, .mv (.t n5)⟩, ⟨some n18, none, .bin .neq (.t n17) (k n0)⟩, ⟨some n16, none, .mv (.t n18)⟩])
 (.cond (.t n16) (.seq (.ops [⟨some n19, none, .mv (.t n5)⟩, ⟨some n2, none, .mv (.c (.d .nil))⟩, ⟨some n3, none, .mv (.t n19)⟩])
 .ret)
 (.seq (.ops [⟨some n21, none, .faddr n0 (.t n4)⟩, ⟨some n22, none, .faddr n0 (.t n21)⟩, ⟨some n23, none, .load none (.t n22)⟩, ⟨some n24, none, .len (.t n23)⟩, ⟨some n25, none, .bin .gtr (.t n24) (k n5)⟩, ⟨some n20, none, .mv (.t n25)⟩])
 (.cond (.t n20) (.seq (.ops [⟨some n2, none, .mv (.c (.d .nil))⟩, ⟨some n3, none, .mv (k n5)⟩])
 .ret)
 .skip)))))
 (.seq (.ops [⟨some n26, none, .load (some n4) (.t n4)⟩, ⟨some n6, none, .alloc [.nil, .nil, .nil, .nil]⟩, ⟨some n7, none, .alloc [(.int .i64 (.l (i n0)))]⟩, ⟨none, none, .store n4 (.t n6) (.t n26)⟩, ⟨none, none, .store n1 (.t n7) (.c (.d (.int .i64 (.l (.negSucc n0)))))⟩])
 (.seq (.seq (.ops [⟨some n27, none, .faddr n0 (.t n4)⟩, ⟨some n28, none, .load (some n2) (.t n27)⟩, ⟨some n29, none, .mkfn n67 [(.t n28)] []⟩])
 (.block n1 (.range (.t n29) [n30] (.ops [⟨some n8, none, .mv (.t n30)⟩]) (.block n2 (.seq (.ops [⟨some n31, none, .load (some n4) (.t n4)⟩, ⟨some n32, none, .mv (.t n8)⟩, ⟨some n33, none, .call (.c (.fn n64 [] [])) [(.t n31), (.t n32)] .share⟩, ⟨some n9, none, .alloc [.nil, .nil, .nil, .nil]⟩, ⟨none, none, .store n4 (.t n9) (.t n33)⟩])
 (.seq (.ops [⟨some n34, none, .load (some n4) (.t n9)⟩, ⟨some n35, none, .call (.c (.fn n55 [] [])) [(.t n34)] .borrow⟩, ⟨some n10, none, .mv (.t n35)⟩])
 (.seq (.ops [⟨some n36, none, .load none (.t n7)⟩, ⟨some n37, none, .bin .lss (.t n36) (k n0)⟩, ⟨some n38, none, .mv (.t n37)⟩, ⟨some n39, (some (n38, false)), .mv (.t n10)⟩, ⟨some n40, (some (n38, false)), .load none (.t n7)⟩, ⟨some n41, (some (n38, false)), .bin .lss (.t n39) (.t n40)⟩, ⟨some n42, none, .pick (.t n38) (.c (.d (.bool true))) (.t n41)⟩])
 (.cond (.t n42) (.ops [⟨some n43, none, .load (some n4) (.t n9)⟩, ⟨some n44, none, .mv (.t n10)⟩, ⟨none, none, .store n4 (.t n6) (.t n43)⟩, ⟨none, none, .store n1 (.t n7) (.t n44)⟩])
 .skip))))))))
 (.seq (.ops [⟨some n45, none, .faddr n2 (.t n6)⟩, ⟨some n46, none, .load none (.t n45)⟩, ⟨some n2, none, .mv (.t n46)⟩, ⟨some n3, none, .mv (k n0)⟩])
 .ret))))))
def x28 : XFn := ⟨a28, n47, [(.t n2), (.t n3)], c28⟩
def a30 : Ann := ⟨[(n1, n1, n0), (n4, n0, n1), (n9, n1, n1), (n13, n7, n2), (n20, n2, n2)], []⟩
def c30 : ICode :=
 (.seq (.ops [⟨some n1, none, .box (.t n0)⟩, ⟨some n2, none, .mv (.c (.d .nil))⟩, ⟨some n3, none, .mv (k n0)⟩])
 (.scope (.seq (.seq (.ops [⟨some n13, none, .load (some n3) (.t n1)⟩, ⟨some n14, none, .call (.c (.fn n69 [] [])) [(.t n13)] .borrow⟩, ⟨some n4, none, .mv (.t n14)⟩])
 (.seq (.ops [⟨some n15, none, .mv (.t n4)⟩, ⟨some n16, none, .bin .neq (.t n15) (k n0)⟩])
 (.cond (.t n16) (.seq (.ops [⟨some n17, none, .mv (.t n4)⟩, ⟨some n2, none, .mv (.c (.d .nil))⟩, ⟨some n3, none, .mv (.t n17)⟩])
 .ret)
 .skip)))
 (.seq (.draw n4 [⟨⟨some n19, none, .faddr n0 (.t n1)⟩, n1, n1, [], [], false, true⟩, ⟨⟨some n20, none, .load none (.t n19)⟩, n2, n1, [n0, n1, n2, n3], [], false, true⟩, ⟨⟨some n21, none, .len (.t n20)⟩, n3, n1, [], [], false, true⟩, ⟨⟨some n18, none, .bnew n1⟩, n0, n0, [], [], false, false⟩, ⟨⟨some n22, none, .mkslice n1 [(.bool false)] n1 (.t n21)⟩, n4, n1, [], [], false, true⟩, ⟨⟨some n5, none, .alloc [.nil]⟩, n5, n2, [], [], false, false⟩, ⟨⟨some n6, none, .alloc [.nil]⟩, n6, n3, [], [], false, false⟩, ⟨⟨none, none, .store n1 (.t n5) (.t n18)⟩, n7, n4, [n1], [n5, n0, n6], false, false⟩, ⟨⟨none, none, .store n1 (.t n6) (.t n22)⟩, n8, n4, [], [n6, n4, n7, n0, n1, n2, n3, n5], true, false⟩])
 (.seq (.ops [⟨some n23, none, .mkfn n70 [] [(.t n6), (.t n5)]⟩, ⟨some n7, none, .mv (.t n23)⟩])
 (.seq (.label n0)
 (.seq (.seq (.ops [⟨some n24, none, .faddr n1 (.t n1)⟩, ⟨some n25, none, .load none (.t n24)⟩, ⟨some n26, none, .len (.t n25)⟩, ⟨some n27, none, .mv (k n0)⟩])
 (.block n0 (.loop (.seq (.ops [⟨some n28, none, .bin .lss (.t n27) (.t n26)⟩])
 (.seq (.cond (.t n28) .skip
 (.exit n0))
 (.seq (.block n1 (.seq (.ops [⟨some n29, none, .iaddr n5 (.t n25) (.t n27)⟩, ⟨some n30, none, .load (some n5) (.t n29)⟩, ⟨some n9, none, .alloc [(.int .u8 (.l (i n0))), (.int .i64 (.l (i n0))), (.int .i64 (.l (i n0))), (.int .i64 (.l (i n0))), (.int .i64 (.l (i n0)))]⟩, ⟨none, none, .store n5 (.t n9) (.t n30)⟩])
 (.seq (.ops [⟨some n31, none, .load (some n5) (.t n9)⟩, ⟨some n32, none, .call (.c (.fn n71 [] [])) [(.t n31)] .share⟩, ⟨some n33, none, .len (.t n32)⟩, ⟨some n34, none, .mv (k n0)⟩])
 (.block n2 (.loop (.seq (.ops [⟨some n35, none, .bin .lss (.t n34) (.t n33)⟩])
 (.seq (.cond (.t n35) .skip
 (.exit n2))
 (.seq (.block n3 (.seq (.ops [⟨some n36, none, .iaddr n1 (.t n32) (.t n34)⟩, ⟨some n37, none, .load none (.t n36)⟩, ⟨some n11, none, .mv (.t n37)⟩])
 (.seq (.seq (.ops [⟨some n38, none, .faddr n1 (.t n1)⟩, ⟨some n39, none, .load none (.t n38)⟩, ⟨some n40, none, .mv (.t n11)⟩, ⟨some n41, none, .iaddr n5 (.t n39) (.t n40)⟩, ⟨some n42, none, .faddr n0 (.t n41)⟩, ⟨some n43, none, .load none (.t n42)⟩, ⟨some n44, none, .bin .neq (.t n43) (.c (.d (.int .u8 (.l (i n3)))))⟩])
 (.cond (.t n44) (.exit n3)
 .skip))
 (.seq (.ops [⟨some n45, none, .mv (.t n7)⟩, ⟨some n46, none, .faddr n1 (.t n1)⟩, ⟨some n47, none, .load none (.t n46)⟩, ⟨some n48, none, .mv (.t n11)⟩, ⟨some n49, none, .iaddr n5 (.t n47) (.t n48)⟩, ⟨some n50, none, .faddr n4 (.t n49)⟩, ⟨some n51, none, .load none (.t n50)⟩, ⟨some n52, none, .call (.t n45) [(.t n51)] .raw⟩])
 (.seq (.ops [⟨some n53, none, .load none (.t n5)⟩, ⟨some n54, none, .len (.t n53)⟩, ⟨some n55, none, .faddr n0 (.t n1)⟩, ⟨some n56, none, .load none (.t n55)⟩, ⟨some n57, none, .len (.t n56)⟩, ⟨some n58, none, .bin .eql (.t n54) (.t n57)⟩])
 (.cond (.t n58) (.exit n0)
 .skip))))))
 (.ops [⟨some n59, none, .bin .add (.t n34) (k n1)⟩, ⟨some n34, none, .mv (.t n59)⟩])))))))))
 (.ops [⟨some n60, none, .bin .add (.t n27) (k n1)⟩, ⟨some n27, none, .mv (.t n60)⟩])))))))
 (.seq (.seq (.ops [⟨some n61, none, .faddr n0 (.t n1)⟩, ⟨some n62, none, .load none (.t n61)⟩, ⟨some n63, none, .len (.t n62)⟩, ⟨some n64, none, .mv (k n0)⟩])
 (.block n4 (.loop (.seq (.ops [⟨some n65, none, .bin .lss (.t n64) (.t n63)⟩])
 (.seq (.cond (.t n65) .skip
 (.exit n4))
 (.seq (.block n5 (.seq (.ops [⟨some n66, none, .mv (.t n64)⟩, ⟨some n12, none, .mv (.t n66)⟩])
 (.ops [⟨some n67, none, .mv (.t n7)⟩, ⟨some n68, none, .mv (.t n12)⟩, ⟨some n69, none, .call (.t n67) [(.t n68)] .raw⟩])))
 (.ops [⟨some n70, none, .bin .add (.t n64) (k n1)⟩, ⟨some n64, none, .mv (.t n70)⟩])))))))
 (.seq (.ops [⟨some n71, none, .load none (.t n5)⟩, ⟨some n2, none, .mv (.t n71)⟩, ⟨some n3, none, .mv (k n0)⟩])
 .ret)))))))))
def x30 : XFn := ⟨a30, n72, [(.t n2), (.t n3)], c30⟩
def a36 : Ann := ⟨[(n1, n1, n1), (n4, n7, n0), (n6, n11, n1), (n6, n12, n1)], []⟩
def c36 : ICode :=
 (.seq (.ops [⟨some n4, none, .mv (.c (.d .nil))⟩, ⟨some n5, none, .mv (k n0)⟩])
 (.seq (.ops [⟨some n9, none, .mv (.t n0)⟩, ⟨some n10, none, .call (.c (.fn n54 [] [])) [(.t n9)] .share⟩, ⟨some n8, none, .mv (.t n10)⟩, ⟨some n11, none, .extract (.t n8) n0⟩, ⟨some n12, none, .extract (.t n8) n1⟩, ⟨some n6, none, .alloc [.nil, .nil, .nil, .nil]⟩, ⟨none, none, .store n4 (.t n6) (.t n11)⟩, ⟨some n7, none, .mv (.t n12)⟩])
 (.seq (.block n0 (.seq (.ops [⟨some n14, none, .mv (.t n7)⟩, ⟨some n15, none, .bin .neq (.t n14) (k n0)⟩, ⟨some n13, none, .mv (.t n15)⟩])
 (.cond (.t n13) (.seq (.ops [⟨some n16, none, .mv (.t n7)⟩, ⟨some n4, none, .mv (.c (.d .nil))⟩, ⟨some n5, none, .mv (.t n16)⟩])
 .ret)
 (.seq (.ops [⟨some n18, none, .faddr n0 (.t n6)⟩, ⟨some n19, none, .faddr n1 (.t n18)⟩, ⟨some n20, none, .load none (.t n19)⟩, ⟨some n21, none, .len (.t n20)⟩, ⟨some n22, none, .bin .sub (.t n21) (k n2)⟩, ⟨some n23, none, .mv (.t n1)⟩, ⟨some n24, none, .bslice n1 n1 [(.int .i64 (.l (i n0)))] [(n0, (.t n23))] false⟩, ⟨some n25, none, .call (.c (.fn n78 [] [])) [(k n0), (.t n22), (.t n24)] .borrow⟩, ⟨some n26, none, .un .not (.t n25)⟩, ⟨some n17, none, .mv (.t n26)⟩])
 (.cond (.t n17) (.seq (.ops [⟨some n4, none, .mv (.c (.d .nil))⟩, ⟨some n5, none, .mv (k n3)⟩])
 .ret)
 .skip)))))
 (.seq (.draw n0 [⟨⟨some n28, none, .faddr n0 (.t n6)⟩, n1, n0, [], [], false, false⟩, ⟨⟨some n30, none, .faddr n0 (.t n6)⟩, n3, n0, [], [], false, false⟩, ⟨⟨some n31, none, .faddr n1 (.t n30)⟩, n4, n0, [], [], false, false⟩, ⟨⟨some n33, none, .mv (.t n1)⟩, n6, n0, [], [], false, false⟩, ⟨⟨some n36, none, .mv (.t n1)⟩, n9, n0, [], [], false, false⟩, ⟨⟨some n37, none, .bin .add (.t n36) (k n1)⟩, n10, n0, [], [], false, false⟩, ⟨⟨some n27, none, .load (some n4) (.t n6)⟩, n0, n0, [], [], false, true⟩, ⟨⟨some n29, none, .load (some n2) (.t n28)⟩, n2, n0, [], [], false, false⟩, ⟨⟨some n32, none, .load none (.t n31)⟩, n5, n0, [], [], false, false⟩, ⟨⟨some n34, none, .iaddr n1 (.t n32) (.t n33)⟩, n7, n0, [], [], false, false⟩, ⟨⟨some n35, none, .load none (.t n34)⟩, n8, n0, [], [], false, false⟩, ⟨⟨some n38, none, .call (.c (.fn n65 [] [])) [(.t n29), (.t n35), (.t n37)] .share⟩, n11, n0, [], [n2, n8, n10, n1, n7, n5, n6, n4, n3, n9], false, false⟩, ⟨⟨some n39, none, .call (.c (.fn n64 [] [])) [(.t n27), (.t n38)] .share⟩, n12, n0, [], [n0, n11, n2, n8, n10, n1, n7, n5, n6, n4, n3, n9], true, false⟩, ⟨⟨some n40, none, .field n2 none (.t n39)⟩, n13, n0, [], [], false, false⟩, ⟨⟨some n4, none, .mv (.t n40)⟩, n14, n0, [], [], false, false⟩, ⟨⟨some n5, none, .mv (k n0)⟩, n15, n0, [], [], false, false⟩])
 .ret))))
def x36 : XFn := ⟨a36, n41, [(.t n4), (.t n5)], c36⟩
def a37 : Ann := ⟨[(n1, n1, n1), (n4, n8, n0), (n6, n5, n1), (n6, n6, n1)], []⟩
def c37 : ICode :=
 (.seq (.ops [⟨some n6, none, .mv (.c (.d .nil))⟩, ⟨some n7, none, .mv (k n0)⟩])
 (.seq (.ops [⟨some n11, none, .mv (.t n0)⟩, ⟨some n12, none, .call (.c (.fn n54 [] [])) [(.t n11)] .share⟩, ⟨some n10, none, .mv (.t n12)⟩, ⟨some n13, none, .extract (.t n10) n0⟩, ⟨some n14, none, .extract (.t n10) n1⟩, ⟨some n8, none, .alloc [.nil, .nil, .nil, .nil]⟩, ⟨none, none, .store n4 (.t n8) (.t n13)⟩, ⟨some n9, none, .mv (.t n14)⟩])
 (.seq (.block n0 (.seq (.ops [⟨some n16, none, .mv (.t n9)⟩, ⟨some n17, none, .bin .neq (.t n16) (k n0)⟩, ⟨some n15, none, .mv (.t n17)⟩])
 (.cond (.t n15) (.seq (.ops [⟨some n18, none, .mv (.t n9)⟩, ⟨some n6, none, .mv (.c (.d .nil))⟩, ⟨some n7, none, .mv (.t n18)⟩])
 .ret)
 (.seq (.ops [⟨some n20, none, .faddr n0 (.t n8)⟩, ⟨some n21, none, .faddr n1 (.t n20)⟩, ⟨some n22, none, .load none (.t n21)⟩, ⟨some n23, none, .len (.t n22)⟩, ⟨some n24, none, .bin .sub (.t n23) (k n1)⟩, ⟨some n25, none, .mv (.t n1)⟩, ⟨some n26, none, .mv (.t n2)⟩, ⟨some n27, none, .bslice n1 n2 [(.int .i64 (.l (i n0)))] [(n0, (.t n25)), (n1, (.t n26))] false⟩, ⟨some n28, none, .call (.c (.fn n78 [] [])) [(k n0), (.t n24), (.t n27)] .borrow⟩, ⟨some n29, none, .un .not (.t n28)⟩, ⟨some n19, none, .mv (.t n29)⟩])
 (.cond (.t n19) (.seq (.ops [⟨some n6, none, .mv (.c (.d .nil))⟩, ⟨some n7, none, .mv (k n3)⟩])
 .ret)
 .skip)))))
 (.seq (.draw n0 [⟨⟨some n31, none, .faddr n0 (.t n8)⟩, n1, n0, [], [], false, false⟩, ⟨⟨some n33, none, .mv (.t n1)⟩, n3, n0, [], [], false, false⟩, ⟨⟨some n34, none, .mv (.t n2)⟩, n4, n0, [], [], false, false⟩, ⟨⟨some n30, none, .load (some n4) (.t n8)⟩, n0, n0, [], [], false, true⟩, ⟨⟨some n32, none, .load (some n2) (.t n31)⟩, n2, n0, [], [], false, false⟩, ⟨⟨some n35, none, .call (.c (.fn n65 [] [])) [(.t n32), (.t n33), (.t n34)] .share⟩, n5, n0, [], [n2, n3, n4, n1], false, false⟩, ⟨⟨some n36, none, .call (.c (.fn n64 [] [])) [(.t n30), (.t n35)] .share⟩, n6, n0, [], [n0, n5, n2, n3, n4, n1], true, false⟩, ⟨⟨some n37, none, .field n2 none (.t n36)⟩, n7, n0, [], [], false, false⟩, ⟨⟨some n6, none, .mv (.t n37)⟩, n8, n0, [], [], false, false⟩, ⟨⟨some n7, none, .mv (k n0)⟩, n9, n0, [], [], false, false⟩])
 .ret))))
def x37 : XFn := ⟨a37, n38, [(.t n6), (.t n7)], c37⟩
def a40 : Ann := ⟨[(n1, n1, n1), (n4, n3, n0), (n6, n2, n1)], []⟩
def c40 : ICode :=
 (.seq (.ops [⟨some n4, none, .mv (.c (.d .nil))⟩, ⟨some n5, none, .mv (k n0)⟩])
 (.seq (.ops [⟨some n9, none, .mv (.t n0)⟩, ⟨some n10, none, .call (.c (.fn n54 [] [])) [(.t n9)] .share⟩, ⟨some n8, none, .mv (.t n10)⟩, ⟨some n11, none, .extract (.t n8) n0⟩, ⟨some n12, none, .extract (.t n8) n1⟩, ⟨some n6, none, .alloc [.nil, .nil, .nil, .nil]⟩, ⟨none, none, .store n4 (.t n6) (.t n11)⟩, ⟨some n7, none, .mv (.t n12)⟩])
 (.seq (.block n0 (.seq (.ops [⟨some n14, none, .mv (.t n7)⟩, ⟨some n15, none, .bin .neq (.t n14) (k n0)⟩, ⟨some n13, none, .mv (.t n15)⟩])
 (.cond (.t n13) (.seq (.ops [⟨some n16, none, .mv (.t n7)⟩, ⟨some n4, none, .mv (.c (.d .nil))⟩, ⟨some n5, none, .mv (.t n16)⟩])
 .ret)
 (.seq (.ops [⟨some n18, none, .faddr n0 (.t n6)⟩, ⟨some n19, none, .load (some n2) (.t n18)⟩, ⟨some n20, none, .mv (.t n1)⟩, ⟨some n21, none, .call (.c (.fn n79 [] [])) [(.t n19), (.t n20)] .borrow⟩, ⟨some n22, none, .un .not (.t n21)⟩, ⟨some n17, none, .mv (.t n22)⟩])
 (.cond (.t n17) (.seq (.ops [⟨some n4, none, .mv (.c (.d .nil))⟩, ⟨some n5, none, .mv (k n4)⟩])
 .ret)
 .skip)))))
 (.seq (.ops [⟨some n23, none, .load (some n4) (.t n6)⟩, ⟨some n24, none, .mv (.t n1)⟩, ⟨some n25, none, .call (.c (.fn n64 [] [])) [(.t n23), (.t n24)] .share⟩, ⟨some n26, none, .field n2 none (.t n25)⟩, ⟨some n4, none, .mv (.t n26)⟩, ⟨some n5, none, .mv (k n0)⟩])
 .ret))))
def x40 : XFn := ⟨a40, n27, [(.t n4), (.t n5)], c40⟩
def a45 : Ann := ⟨[(n8, n3, n3), (n9, n3, n1)], []⟩
def c45 : ICode :=
 (.seq (.ops [⟨some n2, none, .mv (.c (.d .nil))⟩, ⟨some n3, none, .mv (.c (.d (.bool false)))⟩])
 (.seq (.ops [⟨some n4, none, .mv (.c (.d .nil))⟩])
 (.seq (.seq (.ops [⟨some n5, none, .mv (k n0)⟩])
 (.block n0 (.loop (.seq (.seq (.ops [⟨some n7, none, .mv (.t n5)⟩, ⟨some n8, none, .bin .lss (.t n7) (k n16)⟩])
 (.cond (.t n8) .skip
 (.exit n0)))
 (.seq (.block n1 (.seq (.ops [⟨some n11, none, .build [(.int .u8 (.l (i n0))), (.int .i64 (.l (i n0)))] []⟩, ⟨some n6, none, .alloc [(.int .u8 (.l (i n0))), (.int .i64 (.l (i n0)))]⟩, ⟨none, none, .store n2 (.t n6) (.t n11)⟩])
 (.seq (.seq (.ops [⟨some n12, none, .mv (.t n5)⟩, ⟨some n13, none, .bin .quo (.t n12) (k n8)⟩, ⟨some n14, none, .mv (.t n5)⟩, ⟨some n15, none, .bin .quo (.t n14) (k n4)⟩, ⟨some n16, none, .bin .rem (.t n15) (k n2)⟩, ⟨some n17, none, .bin .eql (.t n13) (.t n16)⟩, ⟨some n18, none, .mv (.t n17)⟩, ⟨some n19, (some (n18, true)), .mv (.t n5)⟩, ⟨some n20, (some (n18, true)), .bin .quo (.t n19) (k n2)⟩, ⟨some n21, (some (n18, true)), .bin .rem (.t n20) (k n2)⟩, ⟨some n22, (some (n18, true)), .mv (.t n5)⟩, ⟨some n23, (some (n18, true)), .bin .rem (.t n22) (k n2)⟩, ⟨some n24, (some (n18, true)), .bin .eql (.t n21) (.t n23)⟩, ⟨some n25, none, .pick (.t n18) (.t n24) (.c (.d (.bool false)))⟩])
 (.cond (.t n25) (.ops [⟨some n26, none, .faddr n1 (.t n6)⟩, ⟨none, none, .store n1 (.t n26) (k n1)⟩])
 .skip))
 (.ops [⟨some n27, none, .mv (.t n4)⟩, ⟨some n28, none, .load (some n2) (.t n6)⟩, ⟨some n29, none, .bslice n2 n1 [(.int .u8 (.l (i n0))), (.int .i64 (.l (i n0)))] [(n0, (.t n28))] false⟩, ⟨some n30, none, .appendN n2 n16 (.t n27) (.t n29) true⟩, ⟨some n4, none, .mv (.t n30)⟩]))))
 (.ops [⟨some n9, none, .mv (.t n5)⟩, ⟨some n10, none, .bin .add (.t n9) (k n1)⟩, ⟨some n5, none, .mv (.t n10)⟩]))))))
 (.seq (.ops [⟨some n31, none, .bslice n1 n4 [(.int .i64 (.l (i n0)))] [(n0, (k n2)), (n1, (k n2)), (n2, (k n2)), (n3, (k n2))] false⟩, ⟨some n32, none, .mv (.t n0)⟩, ⟨some n33, none, .mv (.t n4)⟩, ⟨some n34, none, .call (.c (.fn n46 [] [])) [(.t n31), (.t n32), (.t n33)] .share⟩, ⟨some n35, none, .bslice n5 n1 [.nil, .nil, .nil, .nil, (.int .i64 (.l (i n0)))] [(n0, (.t n34))] false⟩, ⟨some n2, none, .mv (.t n35)⟩, ⟨some n3, none, .mv (.c (.d (.bool true)))⟩])
 .ret))))
def x45 : XFn := ⟨a45, n36, [(.t n2), (.t n3)], c45⟩
def a46 : Ann := ⟨[(n1, n1, n3), (n1, n3, n3), (n2, n5, n1)], []⟩
def c46 : ICode :=
 (.seq (.ops [⟨some n6, none, .alloc [.nil, .nil, .nil, .nil, (.int .i64 (.l (i n0)))]⟩])
 (.seq (.ops [⟨some n8, none, .mv (.t n0)⟩, ⟨some n9, none, .appendN n1 n8 (.c (.d .nil)) (.t n8) true⟩, ⟨some n10, none, .mv (.t n1)⟩, ⟨some n11, none, .appendN n1 n8 (.c (.d .nil)) (.t n10) true⟩, ⟨some n12, none, .build [.nil, .nil, .nil, .nil, (.int .i64 (.l (i n0)))] [(n0, n1, (.t n9)), (n1, n1, (.t n11))]⟩, ⟨some n7, none, .alloc [.nil, .nil, .nil, .nil, (.int .i64 (.l (i n0)))]⟩, ⟨none, none, .store n5 (.t n7) (.t n12)⟩])
 (.seq (.draw n1 [⟨⟨some n15, none, .mv (.t n2)⟩, n1, n0, [], [], false, false⟩, ⟨⟨some n16, none, .mv (.t n0)⟩, n2, n0, [], [], false, false⟩, ⟨⟨some n17, none, .len (.t n16)⟩, n3, n0, [], [], false, false⟩, ⟨⟨some n14, none, .load (some n5) (.t n7)⟩, n0, n0, [n0], [], false, false⟩, ⟨⟨some n18, none, .mkslice n1 [(.int .i64 (.l (i n0)))] n8 (.t n17)⟩, n4, n0, [], [], false, false⟩, ⟨⟨some n19, none, .call (.c (.fn n81 [] [])) [(.t n14), (.t n15), (k n0), (.t n18)] .share⟩, n5, n1, [], [n0, n1, n4, n3, n2], true, false⟩, ⟨⟨some n13, none, .mv (.t n19)⟩, n6, n1, [], [], false, false⟩, ⟨⟨some n20, none, .extract (.t n13) n0⟩, n7, n1, [], [], false, false⟩, ⟨⟨some n21, none, .extract (.t n13) n1⟩, n8, n1, [], [], false, true⟩, ⟨⟨none, none, .store n5 (.t n7) (.t n20)⟩, n9, n1, [], [n7, n5, n0, n1, n2, n3, n4, n6], false, false⟩, ⟨⟨some n22, none, .faddr n4 (.t n7)⟩, n10, n1, [], [], false, false⟩, ⟨⟨none, none, .store n1 (.t n22) (.t n21)⟩, n11, n1, [], [n10, n8, n9, n0, n1, n2, n3, n4, n5, n6, n7], true, false⟩])
 (.seq (.ops [⟨some n23, none, .load (some n5) (.t n7)⟩, ⟨none, none, .store n5 (.t n6) (.t n23)⟩])
 .ret))))
def x46 : XFn := ⟨a46, n24, [(.c n6 (some n5))], c46⟩
def a47 : Ann := ⟨[(n1, n4, n0), (n1, n11, n0), (n1, n19, n0), (n6, n26, n0)], []⟩
def c47 : ICode :=
 (.seq (.ops [⟨some n2, none, .box (.t n0)⟩, ⟨some n3, none, .box (.t n1)⟩, ⟨some n4, none, .mv (.c (.d (.bool false)))⟩])
 (.seq (.seq (.ops [⟨some n6, none, .faddr n0 (.t n2)⟩, ⟨some n7, none, .load none (.t n6)⟩, ⟨some n8, none, .faddr n0 (.t n3)⟩, ⟨some n9, none, .load none (.t n8)⟩, ⟨some n10, none, .call (.c (.fn n23 [] [])) [(.t n7), (.t n9)] .borrow⟩, ⟨some n11, none, .un .not (.t n10)⟩, ⟨some n12, none, .mv (.t n11)⟩, ⟨some n13, (some (n12, false)), .faddr n1 (.t n2)⟩, ⟨some n14, (some (n12, false)), .load none (.t n13)⟩, ⟨some n15, (some (n12, false)), .faddr n1 (.t n3)⟩, ⟨some n16, (some (n12, false)), .load none (.t n15)⟩, ⟨some n17, (some (n12, false)), .call (.c (.fn n23 [] [])) [(.t n14), (.t n16)] .borrow⟩, ⟨some n18, (some (n12, false)), .un .not (.t n17)⟩, ⟨some n19, none, .pick (.t n12) (.c (.d (.bool true))) (.t n18)⟩, ⟨some n20, none, .mv (.t n19)⟩, ⟨some n21, (some (n20, false)), .faddr n2 (.t n2)⟩, ⟨some n22, (some (n20, false)), .load none (.t n21)⟩, ⟨some n23, (some (n20, false)), .faddr n2 (.t n3)⟩, ⟨some n24, (some (n20, false)), .load none (.t n23)⟩, ⟨some n25, (some (n20, false)), .call (.c (.fn n82 [] [])) [(.t n22), (.t n24)] .borrow⟩, ⟨some n26, (some (n20, false)), .un .not (.t n25)⟩, ⟨some n27, none, .pick (.t n20) (.c (.d (.bool true))) (.t n26)⟩, ⟨some n28, none, .mv (.t n27)⟩, ⟨some n29, (some (n28, false)), .faddr n3 (.t n2)⟩, ⟨some n30, (some (n28, false)), .load none (.t n29)⟩, ⟨some n31, (some (n28, false)), .len (.t n30)⟩, ⟨some n32, (some (n28, false)), .faddr n3 (.t n3)⟩, ⟨some n33, (some (n28, false)), .load none (.t n32)⟩, ⟨some n34, (some (n28, false)), .len (.t n33)⟩, ⟨some n35, (some (n28, false)), .bin .neq (.t n31) (.t n34)⟩, ⟨some n36, none, .pick (.t n28) (.c (.d (.bool true))) (.t n35)⟩, ⟨some n37, none, .mv (.t n36)⟩, ⟨some n38, (some (n37, false)), .faddr n4 (.t n2)⟩, ⟨some n39, (some (n37, false)), .load none (.t n38)⟩, ⟨some n40, (some (n37, false)), .faddr n4 (.t n3)⟩, ⟨some n41, (some (n37, false)), .load none (.t n40)⟩, ⟨some n42, (some (n37, false)), .bin .neq (.t n39) (.t n41)⟩, ⟨some n43, none, .pick (.t n37) (.c (.d (.bool true))) (.t n42)⟩])
 (.cond (.t n43) (.seq (.ops [⟨some n4, none, .mv (.c (.d (.bool false)))⟩])
 .ret)
 .skip))
 (.seq (.seq (.ops [⟨some n5, none, .mv (k n0)⟩])
 (.block n0 (.loop (.seq (.seq (.ops [⟨some n44, none, .mv (.t n5)⟩, ⟨some n45, none, .faddr n3 (.t n2)⟩, ⟨some n46, none, .load none (.t n45)⟩, ⟨some n47, none, .len (.t n46)⟩, ⟨some n48, none, .bin .lss (.t n44) (.t n47)⟩])
 (.cond (.t n48) .skip
 (.exit n0)))
 (.seq (.block n1 (.seq (.draw n0 [⟨⟨some n51, none, .faddr n3 (.t n2)⟩, n0, n0, [], [], false, false⟩, ⟨⟨some n53, none, .mv (.t n5)⟩, n2, n0, [], [], false, false⟩, ⟨⟨some n57, none, .faddr n3 (.t n3)⟩, n6, n0, [], [], false, false⟩, ⟨⟨some n59, none, .mv (.t n5)⟩, n8, n0, [], [], false, false⟩, ⟨⟨some n52, none, .load none (.t n51)⟩, n1, n0, [], [], false, false⟩, ⟨⟨some n54, none, .iaddr n2 (.t n52) (.t n53)⟩, n3, n0, [], [], false, false⟩, ⟨⟨some n55, none, .faddr n0 (.t n54)⟩, n4, n0, [], [], false, false⟩, ⟨⟨some n56, none, .load none (.t n55)⟩, n5, n0, [], [], false, false⟩, ⟨⟨some n58, none, .load none (.t n57)⟩, n7, n0, [], [], false, false⟩, ⟨⟨some n60, none, .iaddr n2 (.t n58) (.t n59)⟩, n9, n0, [], [], false, false⟩, ⟨⟨some n61, none, .faddr n0 (.t n60)⟩, n10, n0, [], [], false, false⟩, ⟨⟨some n62, none, .load none (.t n61)⟩, n11, n0, [], [], false, false⟩, ⟨⟨some n63, none, .bin .neq (.t n56) (.t n62)⟩, n12, n0, [], [], false, false⟩, ⟨⟨some n64, none, .mv (.t n63)⟩, n13, n0, [], [], false, false⟩, ⟨⟨some n65, (some (n64, false)), .faddr n3 (.t n2)⟩, n14, n0, [], [], false, false⟩, ⟨⟨some n67, (some (n64, false)), .mv (.t n5)⟩, n16, n0, [], [], false, false⟩, ⟨⟨some n71, (some (n64, false)), .faddr n3 (.t n3)⟩, n20, n0, [], [], false, false⟩, ⟨⟨some n73, (some (n64, false)), .mv (.t n5)⟩, n22, n0, [], [], false, false⟩, ⟨⟨some n66, (some (n64, false)), .load none (.t n65)⟩, n15, n0, [], [], false, false⟩, ⟨⟨some n68, (some (n64, false)), .iaddr n2 (.t n66) (.t n67)⟩, n17, n0, [], [], false, false⟩, ⟨⟨some n69, (some (n64, false)), .faddr n1 (.t n68)⟩, n18, n0, [], [], false, false⟩, ⟨⟨some n70, (some (n64, false)), .load none (.t n69)⟩, n19, n0, [], [], false, false⟩, ⟨⟨some n72, (some (n64, false)), .load none (.t n71)⟩, n21, n0, [], [], false, false⟩, ⟨⟨some n74, (some (n64, false)), .iaddr n2 (.t n72) (.t n73)⟩, n23, n0, [], [], false, false⟩, ⟨⟨some n75, (some (n64, false)), .faddr n1 (.t n74)⟩, n24, n0, [], [], false, false⟩, ⟨⟨some n76, (some (n64, false)), .load none (.t n75)⟩, n25, n0, [], [], false, false⟩, ⟨⟨some n77, (some (n64, false)), .call (.c (.fn n23 [] [])) [(.t n70), (.t n76)] .borrow⟩, n26, n0, [], [n19, n25, n13, n18, n17, n15, n16, n14, n12, n5, n11, n4, n3, n1, n2, n0, n10, n9, n7, n8, n6, n24, n23, n21, n22, n20], true, false⟩, ⟨⟨some n78, (some (n64, false)), .un .not (.t n77)⟩, n27, n0, [], [], false, false⟩, ⟨⟨some n79, none, .pick (.t n64) (.c (.d (.bool true))) (.t n78)⟩, n28, n0, [], [], false, false⟩])
 (.cond (.t n79) (.seq (.ops [⟨some n4, none, .mv (.c (.d (.bool false)))⟩])
 .ret)
 .skip)))
 (.ops [⟨some n49, none, .mv (.t n5)⟩, ⟨some n50, none, .bin .add (.t n49) (k n1)⟩, ⟨some n5, none, .mv (.t n50)⟩]))))))
 (.seq (.ops [⟨some n4, none, .mv (.c (.d (.bool true)))⟩])
 .ret))))
def x47 : XFn := ⟨a47, n80, [(.t n4)], c47⟩
def a53 : Ann := ⟨[(n1, n13, n0)], []⟩
def c53 : ICode :=
 (.seq (.ops [⟨some n6, none, .mv (.c (.d (.bool false)))⟩])
 (.seq (.ops [⟨some n7, none, .mv (.t n1)⟩, ⟨some n8, none, .bin .eql (.t n7) (k n0)⟩, ⟨some n9, none, .mv (.t n8)⟩, ⟨some n10, (some (n9, true)), .mv (.t n0)⟩, ⟨some n11, (some (n9, true)), .len (.t n10)⟩, ⟨some n12, (some (n9, true)), .bin .eql (.t n11) (k n1)⟩, ⟨some n13, none, .pick (.t n9) (.t n12) (.c (.d (.bool false)))⟩, ⟨some n14, none, .mv (.t n13)⟩, ⟨some n15, (some (n14, true)), .mv (.t n0)⟩, ⟨some n16, (some (n14, true)), .iaddr n5 (.t n15) (k n0)⟩, ⟨some n17, (some (n14, true)), .faddr n1 (.t n16)⟩, ⟨some n18, (some (n14, true)), .load none (.t n17)⟩, ⟨some n19, (some (n14, true)), .mv (.t n2)⟩, ⟨some n20, (some (n14, true)), .call (.c (.fn n23 [] [])) [(.t n18), (.t n19)] .borrow⟩, ⟨some n21, none, .pick (.t n14) (.t n20) (.c (.d (.bool false)))⟩, ⟨some n6, none, .mv (.t n21)⟩])
 .ret))
def x53 : XFn := ⟨a53, n22, [(.t n6)], c53⟩
def a54 : Ann := ⟨[(n7, n1, n1), (n10, n4, n3), (n12, n4, n2)], []⟩
def c54 : ICode :=
 (.seq (.ops [⟨some n2, none, .alloc [.nil, .nil, .nil, .nil]⟩, ⟨some n3, none, .mv (k n0)⟩])
 (.seq (.seq (.ops [⟨some n8, none, .mv (.t n0)⟩, ⟨some n9, none, .len (.t n8)⟩, ⟨some n10, none, .bin .eql (.t n9) (k n0)⟩])
 (.cond (.t n10) (.seq (.ops [⟨some n11, none, .load (some n4) (.t n2)⟩, ⟨none, none, .store n4 (.t n2) (.t n11)⟩, ⟨some n3, none, .mv (k n7)⟩])
 .ret)
 .skip))
 (.seq (.draw n0 [⟨⟨some n12, none, .mv (.t n0)⟩, n0, n0, [], [], false, false⟩, ⟨⟨some n13, none, .iaddr n5 (.t n12) (k n0)⟩, n1, n0, [], [], false, false⟩, ⟨⟨some n14, none, .faddr n0 (.t n13)⟩, n2, n0, [], [], false, false⟩, ⟨⟨some n16, none, .mv (.t n0)⟩, n4, n0, [], [], false, false⟩, ⟨⟨some n17, none, .iaddr n5 (.t n16) (k n0)⟩, n5, n0, [], [], false, false⟩, ⟨⟨some n18, none, .faddr n1 (.t n17)⟩, n6, n0, [], [], false, false⟩, ⟨⟨some n21, none, .mv (.t n0)⟩, n9, n0, [], [], false, false⟩, ⟨⟨some n15, none, .load none (.t n14)⟩, n3, n0, [], [], false, false⟩, ⟨⟨some n19, none, .load none (.t n18)⟩, n7, n0, [], [], false, false⟩, ⟨⟨some n20, none, .build [.nil, .nil] [(n0, n1, (.t n15)), (n1, n1, (.t n19))]⟩, n8, n0, [], [], false, false⟩, ⟨⟨some n22, none, .build [.nil, .nil, .nil, .nil] [(n0, n2, (.t n20)), (n2, n1, (.t n21))]⟩, n10, n0, [], [], false, false⟩, ⟨⟨none, none, .store n4 (.t n2) (.t n22)⟩, n11, n0, [], [n10, n0, n1, n2, n3, n4, n5, n6, n7, n8, n9], true, false⟩])
 (.seq (.seq (.ops [⟨some n23, none, .mv (.t n0)⟩, ⟨some n24, none, .len (.t n23)⟩, ⟨some n25, none, .mv (k n0)⟩])
 (.block n0 (.loop (.seq (.ops [⟨some n26, none, .bin .lss (.t n25) (.t n24)⟩])
 (.seq (.cond (.t n26) .skip
 (.exit n0))
 (.seq (.block n1 (.seq (.ops [⟨some n27, none, .iaddr n5 (.t n23) (.t n25)⟩, ⟨some n28, none, .load (some n5) (.t n27)⟩, ⟨some n5, none, .alloc [.nil, .nil, .nil, .nil, (.int .i64 (.l (i n0)))]⟩, ⟨none, none, .store n5 (.t n5) (.t n28)⟩])
 (.seq (.ops [⟨some n30, none, .load (some n5) (.t n5)⟩, ⟨some n31, none, .call (.c (.fn n87 [] [])) [(.t n30)] .share⟩, ⟨some n29, none, .mv (.t n31)⟩, ⟨some n32, none, .extract (.t n29) n0⟩, ⟨some n33, none, .extract (.t n29) n1⟩, ⟨some n6, none, .mv (.t n32)⟩, ⟨some n7, none, .mv (.t n33)⟩])
 (.seq (.seq (.ops [⟨some n34, none, .mv (.t n7)⟩, ⟨some n35, none, .bin .neq (.t n34) (k n0)⟩])
 (.cond (.t n35) (.seq (.ops [⟨some n36, none, .load (some n4) (.t n2)⟩, ⟨some n37, none, .mv (.t n7)⟩, ⟨none, none, .store n4 (.t n2) (.t n36)⟩, ⟨some n3, none, .mv (.t n37)⟩])
 .ret)
 .skip))
 (.ops [⟨some n38, none, .faddr n3 (.t n2)⟩, ⟨some n39, none, .load none (.t n38)⟩, ⟨some n40, none, .mv (.t n6)⟩, ⟨some n41, none, .bslice n1 n1 [.nil] [(n0, (.t n40))] false⟩, ⟨some n42, none, .appendN n1 n24 (.t n39) (.t n41) true⟩, ⟨some n43, none, .faddr n3 (.t n2)⟩, ⟨none, none, .store n1 (.t n43) (.t n42)⟩])))))
 (.ops [⟨some n44, none, .bin .add (.t n25) (k n1)⟩, ⟨some n25, none, .mv (.t n44)⟩])))))))
 (.seq (.seq (.ops [⟨some n45, none, .mv (.t n0)⟩, ⟨some n46, none, .faddr n0 (.t n2)⟩, ⟨some n47, none, .load (some n2) (.t n46)⟩, ⟨some n48, none, .mkfn n89 [(.t n47)] []⟩, ⟨some n49, none, .call (.c (.fn n88 [] [])) [(.t n45), (.t n48)] .raw⟩, ⟨some n50, none, .un .not (.t n49)⟩])
 (.cond (.t n50) (.seq (.ops [⟨some n51, none, .load (some n4) (.t n2)⟩, ⟨none, none, .store n4 (.t n2) (.t n51)⟩, ⟨some n3, none, .mv (k n2)⟩])
 .ret)
 .skip))
 (.seq (.ops [⟨some n52, none, .load (some n4) (.t n2)⟩, ⟨none, none, .store n4 (.t n2) (.t n52)⟩, ⟨some n3, none, .mv (k n0)⟩])
 .ret))))))
def x54 : XFn := ⟨a54, n53, [(.c n2 (some n4)), (.t n3)], c54⟩
def a55 : Ann := ⟨[(n1, n1, n1)], []⟩
def c55 : ICode :=
 (.seq (.ops [⟨some n1, none, .box (.t n0)⟩, ⟨some n2, none, .mv (k n0)⟩])
 (.seq (.seq (.ops [⟨some n5, none, .load (some n4) (.t n1)⟩, ⟨some n6, none, .call (.c (.fn n56 [] [])) [(.t n5)] .share⟩, ⟨some n7, none, .len (.t n6)⟩, ⟨some n8, none, .mv (k n0)⟩])
 (.block n0 (.loop (.seq (.ops [⟨some n9, none, .bin .lss (.t n8) (.t n7)⟩])
 (.seq (.cond (.t n9) .skip
 (.exit n0))
 (.seq (.block n1 (.seq (.ops [⟨some n10, none, .iaddr n1 (.t n6) (.t n8)⟩, ⟨some n11, none, .load none (.t n10)⟩, ⟨some n4, none, .mv (.t n11)⟩])
 (.ops [⟨some n12, none, .mv (.t n2)⟩, ⟨some n13, none, .mv (.t n4)⟩, ⟨some n14, none, .bin .add (.t n12) (.t n13)⟩, ⟨some n2, none, .mv (.t n14)⟩])))
 (.ops [⟨some n15, none, .bin .add (.t n8) (k n1)⟩, ⟨some n8, none, .mv (.t n15)⟩])))))))
 (.seq (.ops [⟨some n16, none, .mv (.t n2)⟩, ⟨some n2, none, .mv (.t n16)⟩])
 .ret)))
def x55 : XFn := ⟨a55, n17, [(.t n2)], c55⟩
def a56 : Ann := ⟨[], []⟩
def c56 : ICode :=
 (.seq (.ops [⟨some n1, none, .box (.t n0)⟩, ⟨some n2, none, .mv (.c (.d .nil))⟩])
 (.seq (.ops [⟨some n19, none, .faddr n0 (.t n1)⟩, ⟨some n20, none, .faddr n0 (.t n19)⟩, ⟨some n21, none, .load none (.t n20)⟩, ⟨some n22, none, .len (.t n21)⟩, ⟨some n23, none, .mkslice n1 [(.int .i64 (.l (i n0)))] n8 (.t n22)⟩, ⟨some n3, none, .mv (.t n23)⟩])
 (.seq (.ops [⟨some n24, none, .mkmap true [.u8, .i64]⟩, ⟨some n25, none, .mkmap true [.i64, .i64, .i64, .i64, .i64, .i64, .i64, .i64, .i64, .i64, .i64, .i64, .i64]⟩, ⟨some n4, none, .mv (.t n24)⟩, ⟨some n5, none, .mv (.t n25)⟩])
 (.seq (.seq (.ops [⟨some n26, none, .faddr n2 (.t n1)⟩, ⟨some n27, none, .load none (.t n26)⟩, ⟨some n28, none, .len (.t n27)⟩, ⟨some n29, none, .mv (k n0)⟩])
 (.block n0 (.loop (.seq (.ops [⟨some n30, none, .bin .lss (.t n29) (.t n28)⟩])
 (.seq (.cond (.t n30) .skip
 (.exit n0))
 (.seq (.block n1 (.seq (.ops [⟨some n31, none, .iaddr n5 (.t n27) (.t n29)⟩, ⟨some n32, none, .load (some n5) (.t n31)⟩, ⟨some n7, none, .alloc [.nil, .nil, .nil, .nil, (.int .i64 (.l (i n0)))]⟩, ⟨none, none, .store n5 (.t n7) (.t n32)⟩])
 (.seq (.ops [⟨some n33, none, .faddr n3 (.t n7)⟩, ⟨some n34, none, .load none (.t n33)⟩, ⟨some n35, none, .len (.t n34)⟩, ⟨some n36, none, .mkslice n1 [(.int .i64 (.l (i n0)))] n8 (.t n35)⟩, ⟨some n8, none, .mv (.t n36)⟩])
 (.seq (.ops [⟨some n37, none, .faddr n3 (.t n7)⟩, ⟨some n38, none, .load none (.t n37)⟩, ⟨some n39, none, .len (.t n38)⟩, ⟨some n40, none, .mv (k n0)⟩])
 (.block n2 (.loop (.seq (.ops [⟨some n41, none, .bin .lss (.t n40) (.t n39)⟩])
 (.seq (.cond (.t n41) .skip
 (.exit n2))
 (.seq (.block n3 (.seq (.ops [⟨some n42, none, .mv (.t n40)⟩, ⟨some n43, none, .iaddr n2 (.t n38) (.t n40)⟩, ⟨some n44, none, .load (some n2) (.t n43)⟩, ⟨some n10, none, .alloc [(.int .i64 (.l (i n0))), .nil]⟩, ⟨some n9, none, .mv (.t n42)⟩, ⟨none, none, .store n2 (.t n10) (.t n44)⟩])
 (.seq (.ops [⟨some n45, none, .faddr n0 (.t n10)⟩, ⟨some n46, none, .load none (.t n45)⟩, ⟨some n47, none, .build [(.int .i64 (.l (i n0))), (.int .i64 (.l (i n0))), (.int .i64 (.l (i n0))), (.int .i64 (.l (i n0))), (.int .i64 (.l (i n0))), (.int .i64 (.l (i n0))), (.int .i64 (.l (i n0))), (.int .i64 (.l (i n0))), (.int .i64 (.l (i n0))), (.int .i64 (.l (i n0))), (.int .i64 (.l (i n0))), (.int .i64 (.l (i n0))), (.int .i64 (.l (i n0)))] [(n0, n1, (.t n46))]⟩, ⟨some n11, none, .alloc [(.int .i64 (.l (i n0))), (.int .i64 (.l (i n0))), (.int .i64 (.l (i n0))), (.int .i64 (.l (i n0))), (.int .i64 (.l (i n0))), (.int .i64 (.l (i n0))), (.int .i64 (.l (i n0))), (.int .i64 (.l (i n0))), (.int .i64 (.l (i n0))), (.int .i64 (.l (i n0))), (.int .i64 (.l (i n0))), (.int .i64 (.l (i n0))), (.int .i64 (.l (i n0)))]⟩, ⟨none, none, .store n13 (.t n11) (.t n47)⟩])
 (.seq (.seq (.ops [⟨some n48, none, .faddr n1 (.t n10)⟩, ⟨some n49, none, .load none (.t n48)⟩, ⟨some n50, none, .len (.t n49)⟩, ⟨some n51, none, .mv (k n0)⟩])
 (.block n4 (.loop (.seq (.ops [⟨some n52, none, .bin .lss (.t n51) (.t n50)⟩])
 (.seq (.cond (.t n52) .skip
 (.exit n4))
 (.seq (.block n5 (.seq (.ops [⟨some n53, none, .mv (.t n51)⟩, ⟨some n54, none, .iaddr n1 (.t n49) (.t n51)⟩, ⟨some n55, none, .load none (.t n54)⟩, ⟨some n12, none, .mv (.t n53)⟩, ⟨some n13, none, .mv (.t n55)⟩])
 (.seq (.seq (.ops [⟨some n56, none, .mv (.t n13)⟩, ⟨some n57, none, .bin .geq (.t n56) (k n0)⟩])
 (.cond (.t n57) (.seq (.ops [⟨some n58, none, .mv (.t n12)⟩, ⟨some n59, none, .mv (.t n8)⟩, ⟨some n60, none, .mv (.t n13)⟩, ⟨some n61, none, .iaddr n1 (.t n59) (.t n60)⟩, ⟨some n62, none, .load none (.t n61)⟩, ⟨some n63, none, .faddr n1 (.t n11)⟩, ⟨some n64, none, .iaddrA n12 n1 (.t n63) (.t n58)⟩, ⟨none, none, .store n1 (.t n64) (.t n62)⟩])
 (.exit n5))
 .skip))
 (.seq (.ops [⟨some n65, none, .faddr n2 (.t n7)⟩, ⟨some n66, none, .load none (.t n65)⟩, ⟨some n67, none, .mv (.t n13)⟩, ⟨some n68, none, .bin .sub (.c (.d (.int .i64 (.l (.negSucc n0))))) (.t n67)⟩, ⟨some n69, none, .iaddr n2 (.t n66) (.t n68)⟩, ⟨some n70, none, .load (some n2) (.t n69)⟩, ⟨some n14, none, .alloc [(.int .u8 (.l (i n0))), (.int .i64 (.l (i n0)))]⟩, ⟨none, none, .store n2 (.t n14) (.t n70)⟩])
 (.seq (.seq (.ops [⟨some n72, none, .mv (.t n4)⟩, ⟨some n73, none, .load (some n2) (.t n14)⟩, ⟨some n74, none, .lookup true [.u8, .i64] true (.t n72) (.t n73)⟩, ⟨some n71, none, .mv (.t n74)⟩, ⟨some n75, none, .extract (.t n71) n0⟩, ⟨some n76, none, .extract (.t n71) n1⟩, ⟨some n15, none, .mv (.t n75)⟩, ⟨some n16, none, .mv (.t n76)⟩])
 (.seq (.ops [⟨some n77, none, .mv (.t n16)⟩, ⟨some n78, none, .un .not (.t n77)⟩])
 (.cond (.t n78) (.ops [⟨some n79, none, .mv (.t n4)⟩, ⟨some n80, none, .load (some n2) (.t n14)⟩, ⟨some n81, none, .mv (.t n4)⟩, ⟨some n82, none, .lenm (.t n81)⟩, ⟨some n83, none, .bin .sub (.c (.d (.int .i64 (.l (.negSucc n0))))) (.t n82)⟩, ⟨none, none, .mapupd true [.u8, .i64] (.t n79) (.t n80) (.t n83)⟩])
 .skip)))
 (.ops [⟨some n84, none, .mv (.t n12)⟩, ⟨some n85, none, .mv (.t n4)⟩, ⟨some n86, none, .load (some n2) (.t n14)⟩, ⟨some n87, none, .lookup true [.u8, .i64] false (.t n85) (.t n86)⟩, ⟨some n88, none, .faddr n1 (.t n11)⟩, ⟨some n89, none, .iaddrA n12 n1 (.t n88) (.t n84)⟩, ⟨none, none, .store n1 (.t n89) (.t n87)⟩]))))))
 (.ops [⟨some n90, none, .bin .add (.t n51) (k n1)⟩, ⟨some n51, none, .mv (.t n90)⟩])))))))
 (.seq (.ops [⟨some n92, none, .mv (.t n5)⟩, ⟨some n93, none, .load (some n13) (.t n11)⟩, ⟨some n94, none, .lookup true [.i64, .i64, .i64, .i64, .i64, .i64, .i64, .i64, .i64, .i64, .i64, .i64, .i64] true (.t n92) (.t n93)⟩, ⟨some n91, none, .mv (.t n94)⟩, ⟨some n95, none, .extract (.t n91) n0⟩, ⟨some n96, none, .extract (.t n91) n1⟩, ⟨some n17, none, .mv (.t n95)⟩, ⟨some n18, none, .mv (.t n96)⟩])
 (.seq (.seq (.ops [⟨some n97, none, .mv (.t n18)⟩, ⟨some n98, none, .un .not (.t n97)⟩])
 (.cond (.t n98) (.seq (.ops [⟨some n99, none, .mv (.t n5)⟩, ⟨some n100, none, .lenm (.t n99)⟩, ⟨some n17, none, .mv (.t n100)⟩])
 (.seq (.ops [⟨some n101, none, .mv (.t n5)⟩, ⟨some n102, none, .load (some n13) (.t n11)⟩, ⟨some n103, none, .mv (.t n17)⟩, ⟨none, none, .mapupd true [.i64, .i64, .i64, .i64, .i64, .i64, .i64, .i64, .i64, .i64, .i64, .i64, .i64] (.t n101) (.t n102) (.t n103)⟩])
 (.ops [⟨some n104, none, .mv (.t n3)⟩, ⟨some n105, none, .faddr n0 (.t n10)⟩, ⟨some n106, none, .load none (.t n105)⟩, ⟨some n107, none, .iaddr n1 (.t n104) (.t n106)⟩, ⟨some n108, none, .load none (.t n107)⟩, ⟨some n109, none, .bin .add (.t n108) (k n1)⟩, ⟨some n110, none, .iaddr n1 (.t n104) (.t n106)⟩, ⟨none, none, .store n1 (.t n110) (.t n109)⟩])))
 .skip))
 (.ops [⟨some n111, none, .mv (.t n8)⟩, ⟨some n112, none, .mv (.t n9)⟩, ⟨some n113, none, .mv (.t n17)⟩, ⟨some n114, none, .iaddr n1 (.t n111) (.t n112)⟩, ⟨none, none, .store n1 (.t n114) (.t n113)⟩])))))))
 (.ops [⟨some n115, none, .bin .add (.t n40) (k n1)⟩, ⟨some n40, none, .mv (.t n115)⟩]))))))))))
 (.ops [⟨some n116, none, .bin .add (.t n29) (k n1)⟩, ⟨some n29, none, .mv (.t n116)⟩])))))))
 (.seq (.ops [⟨some n117, none, .mv (.t n3)⟩, ⟨some n2, none, .mv (.t n117)⟩])
 .ret)))))
def x56 : XFn := ⟨a56, n118, [(.t n2)], c56⟩
def a57 : Ann := ⟨[(n1, n1, n1), (n4, n3, n2)], []⟩
def c57 : ICode :=
 (.seq (.ops [⟨some n2, none, .box (.t n0)⟩, ⟨some n4, none, .mv (.c (.d .nil))⟩, ⟨some n5, none, .mv (k n0)⟩])
 (.seq (.ops [⟨some n9, none, .mv (.t n1)⟩, ⟨some n10, none, .call (.c (.fn n54 [] [])) [(.t n9)] .share⟩, ⟨some n8, none, .mv (.t n10)⟩, ⟨some n11, none, .extract (.t n8) n0⟩, ⟨some n12, none, .extract (.t n8) n1⟩, ⟨some n6, none, .alloc [.nil, .nil, .nil, .nil]⟩, ⟨none, none, .store n4 (.t n6) (.t n11)⟩, ⟨some n7, none, .mv (.t n12)⟩])
 (.seq (.seq (.ops [⟨some n13, none, .mv (.t n7)⟩, ⟨some n14, none, .bin .neq (.t n13) (k n0)⟩])
 (.cond (.t n14) (.seq (.ops [⟨some n15, none, .mv (.t n7)⟩, ⟨some n4, none, .mv (.c (.d .nil))⟩, ⟨some n5, none, .mv (.t n15)⟩])
 .ret)
 .skip))
 (.seq (.ops [⟨some n16, none, .faddr n0 (.t n2)⟩, ⟨some n17, none, .load none (.t n16)⟩, ⟨some n18, none, .load (some n4) (.t n6)⟩, ⟨some n19, none, .call (.t n17) [(.t n18)] .raw⟩, ⟨some n4, none, .mv (.t n19)⟩, ⟨some n5, none, .mv (k n0)⟩])
 .ret))))
def x57 : XFn := ⟨a57, n20, [(.t n4), (.t n5)], c57⟩
def a60 : Ann := ⟨[(n1, n4, n0), (n1, n6, n2)], []⟩
def c60 : ICode :=
 (.seq (.ops [⟨some n5, none, .mv (.t n0)⟩, ⟨some n6, none, .len (.t n5)⟩, ⟨some n4, none, .mv (.t n6)⟩])
 (.ops [⟨some n7, none, .mv (.t n0)⟩, ⟨some n8, none, .mv (.t n4)⟩, ⟨some n9, none, .mv (.t n4)⟩, ⟨some n10, none, .conv .u64 (.t n9)⟩, ⟨some n11, none, .call (.c (.fn n93 [] [])) [(.t n10)] .borrow⟩, ⟨some n12, none, .mv (.t n1)⟩, ⟨some n13, none, .call (.c (.fn n92 [] [])) [(.t n7), (k n0), (.t n8), (.t n11), (.t n12)] .raw⟩]))
def x60 : XFn := ⟨a60, n14, [], c60⟩
def a61 : Ann := ⟨[(n1, n4, n0), (n1, n9, n0), (n1, n11, n0)], []⟩
def c61 : ICode :=
 (.seq (.ops [⟨some n2, none, .box (.t n0)⟩, ⟨some n3, none, .box (.t n1)⟩, ⟨some n4, none, .mv (k n0)⟩])
 (.seq (.draw n0 [⟨⟨some n5, none, .faddr n1 (.t n3)⟩, n0, n0, [], [], false, false⟩, ⟨⟨some n7, none, .faddr n1 (.t n2)⟩, n2, n0, [], [], false, false⟩, ⟨⟨some n10, none, .faddr n0 (.t n2)⟩, n5, n0, [], [], false, true⟩, ⟨⟨some n12, none, .faddr n0 (.t n3)⟩, n7, n0, [], [], false, true⟩, ⟨⟨some n6, none, .load none (.t n5)⟩, n1, n0, [], [], false, false⟩, ⟨⟨some n8, none, .load none (.t n7)⟩, n3, n0, [], [], false, false⟩, ⟨⟨some n11, none, .load none (.t n10)⟩, n6, n0, [], [], false, true⟩, ⟨⟨some n13, none, .load none (.t n12)⟩, n8, n0, [], [], false, true⟩, ⟨⟨some n9, none, .call (.c (.fn n63 [] [])) [(.t n6), (.t n8)] .borrow⟩, n4, n0, [], [n1, n3, n0, n2], false, false⟩, ⟨⟨some n14, none, .call (.c (.fn n63 [] [])) [(.t n11), (.t n13)] .borrow⟩, n9, n0, [], [n6, n8, n4, n5, n7, n1, n3, n0, n2], true, false⟩, ⟨⟨some n15, none, .bslice n1 n2 [(.int .i64 (.l (i n0)))] [(n0, (.t n9)), (n1, (.t n14))] false⟩, n10, n0, [], [n4, n9, n1, n3, n0, n2, n6, n8, n5, n7], true, false⟩, ⟨⟨some n16, none, .call (.c (.fn n62 [] [])) [(.t n15)] .borrow⟩, n11, n0, [], [n10, n9, n4, n1, n3, n0, n2, n6, n8, n5, n7], true, false⟩, ⟨⟨some n4, none, .mv (.t n16)⟩, n12, n0, [], [], false, false⟩])
 .ret))
def x61 : XFn := ⟨a61, n17, [(.t n4)], c61⟩
def a62 : Ann := ⟨[], []⟩
def c62 : ICode :=
 (.seq (.ops [⟨some n2, none, .mv (k n0)⟩])
 (.seq (.ops [⟨some n3, none, .mv (k n0)⟩])
 (.seq (.seq (.ops [⟨some n6, none, .mv (.t n0)⟩, ⟨some n7, none, .len (.t n6)⟩, ⟨some n8, none, .mv (k n0)⟩])
 (.block n0 (.loop (.seq (.ops [⟨some n9, none, .bin .lss (.t n8) (.t n7)⟩])
 (.seq (.cond (.t n9) .skip
 (.exit n0))
 (.seq (.block n1 (.seq (.ops [⟨some n10, none, .iaddr n1 (.t n6) (.t n8)⟩, ⟨some n11, none, .load none (.t n10)⟩, ⟨some n5, none, .mv (.t n11)⟩])
 (.seq (.ops [⟨some n12, none, .mv (.t n5)⟩, ⟨some n13, none, .mv (.t n3)⟩, ⟨some n14, none, .bin .neq (.t n12) (.t n13)⟩])
 (.cond (.t n14) (.seq (.ops [⟨some n15, none, .mv (.t n5)⟩, ⟨some n2, none, .mv (.t n15)⟩])
 .ret)
 .skip))))
 (.ops [⟨some n16, none, .bin .add (.t n8) (k n1)⟩, ⟨some n8, none, .mv (.t n16)⟩])))))))
 (.seq (.ops [⟨some n17, none, .mv (.t n3)⟩, ⟨some n2, none, .mv (.t n17)⟩])
 .ret))))
def x62 : XFn := ⟨a62, n18, [(.t n2)], c62⟩
def a63 : Ann := ⟨[(n1, n1, n0), (n2, n1, n0)], []⟩
def c63 : ICode :=
 (.seq (.ops [⟨some n4, none, .mv (k n0)⟩])
 (.seq (.ops [⟨some n7, none, .mv (.t n0)⟩, ⟨some n8, none, .call (.c (.fn n94 [] [])) [(.t n7)] .borrow⟩, ⟨some n5, none, .mv (.t n8)⟩])
 (.seq (.ops [⟨some n9, none, .mv (.t n1)⟩, ⟨some n10, none, .call (.c (.fn n94 [] [])) [(.t n9)] .borrow⟩, ⟨some n6, none, .mv (.t n10)⟩])
 (.seq (.seq (.ops [⟨some n11, none, .mv (.t n5)⟩])
 (.cond (.t n11) (.seq (.seq (.ops [⟨some n12, none, .mv (.t n6)⟩])
 (.cond (.t n12) (.seq (.ops [⟨some n4, none, .mv (k n0)⟩])
 .ret)
 .skip))
 (.seq (.ops [⟨some n4, none, .mv (.c (.d (.int .i64 (.l (.negSucc n0)))))⟩])
 .ret))
 .skip))
 (.seq (.seq (.ops [⟨some n13, none, .mv (.t n6)⟩])
 (.cond (.t n13) (.seq (.ops [⟨some n4, none, .mv (k n1)⟩])
 .ret)
 .skip))
 (.seq (.seq (.ops [⟨some n14, none, .mv (.t n0)⟩, ⟨some n15, none, .mv (.t n1)⟩, ⟨some n16, none, .bin .lss (.t n14) (.t n15)⟩])
 (.cond (.t n16) (.seq (.ops [⟨some n4, none, .mv (.c (.d (.int .i64 (.l (.negSucc n0)))))⟩])
 .ret)
 .skip))
 (.seq (.seq (.ops [⟨some n17, none, .mv (.t n0)⟩, ⟨some n18, none, .mv (.t n1)⟩, ⟨some n19, none, .bin .gtr (.t n17) (.t n18)⟩])
 (.cond (.t n19) (.seq (.ops [⟨some n4, none, .mv (k n1)⟩])
 .ret)
 .skip))
 (.seq (.ops [⟨some n4, none, .mv (k n0)⟩])
 .ret))))))))
def x63 : XFn := ⟨a63, n20, [(.t n4)], c63⟩
def a64 : Ann := ⟨[(n5, n5, n1), (n6, n4, n3)], []⟩
def c64 : ICode :=
 (.seq (.ops [⟨some n2, none, .box (.t n0)⟩, ⟨some n4, none, .alloc [.nil, .nil, .nil, .nil]⟩])
 (.seq (.ops [⟨some n10, none, .faddr n0 (.t n2)⟩, ⟨some n11, none, .faddr n0 (.t n10)⟩, ⟨some n12, none, .load none (.t n11)⟩, ⟨some n13, none, .mv (.t n1)⟩, ⟨some n14, none, .build [.nil, .nil] [(n0, n1, (.t n12)), (n1, n1, (.t n13))]⟩, ⟨some n15, none, .faddr n3 (.t n2)⟩, ⟨some n16, none, .load none (.t n15)⟩, ⟨some n17, none, .build [.nil, .nil, .nil, .nil] [(n0, n2, (.t n14)), (n3, n1, (.t n16))]⟩, ⟨some n5, none, .alloc [.nil, .nil, .nil, .nil]⟩, ⟨none, none, .store n4 (.t n5) (.t n17)⟩])
 (.seq (.seq (.ops [⟨some n18, none, .faddr n3 (.t n2)⟩, ⟨some n19, none, .load none (.t n18)⟩, ⟨some n20, none, .len (.t n19)⟩, ⟨some n21, none, .mv (k n0)⟩])
 (.block n0 (.loop (.seq (.ops [⟨some n22, none, .bin .lss (.t n21) (.t n20)⟩])
 (.seq (.cond (.t n22) .skip
 (.exit n0))
 (.seq (.block n1 (.seq (.ops [⟨some n23, none, .iaddr n1 (.t n19) (.t n21)⟩, ⟨some n24, none, .load none (.t n23)⟩, ⟨some n7, none, .mv (.t n24)⟩])
 (.seq (.ops [⟨some n26, none, .faddr n0 (.t n2)⟩, ⟨some n27, none, .faddr n0 (.t n26)⟩, ⟨some n28, none, .load none (.t n27)⟩, ⟨some n29, none, .mv (.t n1)⟩, ⟨some n30, none, .mv (.t n7)⟩, ⟨some n31, none, .call (.c (.fn n95 [] [])) [(.t n28), (.t n29), (.t n30)] .share⟩, ⟨some n25, none, .mv (.t n31)⟩, ⟨some n32, none, .extract (.t n25) n0⟩, ⟨some n33, none, .extract (.t n25) n1⟩, ⟨some n8, none, .alloc [.nil, .nil, .nil, .nil, (.int .i64 (.l (i n0)))]⟩, ⟨none, none, .store n5 (.t n8) (.t n32)⟩, ⟨some n9, none, .mv (.t n33)⟩])
 (.ops [⟨some n34, none, .faddr n2 (.t n5)⟩, ⟨some n35, none, .load none (.t n34)⟩, ⟨some n36, none, .load (some n5) (.t n8)⟩, ⟨some n37, none, .bslice n5 n1 [.nil, .nil, .nil, .nil, (.int .i64 (.l (i n0)))] [(n0, (.t n36))] false⟩, ⟨some n38, none, .appendN n5 n104 (.t n35) (.t n37) true⟩, ⟨some n39, none, .faddr n2 (.t n5)⟩, ⟨none, none, .store n1 (.t n39) (.t n38)⟩]))))
 (.ops [⟨some n40, none, .bin .add (.t n21) (k n1)⟩, ⟨some n21, none, .mv (.t n40)⟩])))))))
 (.seq (.ops [⟨some n41, none, .load (some n4) (.t n5)⟩, ⟨none, none, .store n4 (.t n4) (.t n41)⟩])
 .ret))))
def x64 : XFn := ⟨a64, n42, [(.c n4 (some n4))], c64⟩
def a65 : Ann := ⟨[(n1, n3, n0), (n2, n2, n2), (n2, n6, n2), (n3, n3, n1), (n3, n4, n2)], []⟩
def c65 : ICode :=
 (.seq (.ops [⟨some n3, none, .box (.t n0)⟩, ⟨some n6, none, .mv (.c (.d .nil))⟩])
 (.seq (.ops [⟨some n9, none, .faddr n1 (.t n3)⟩, ⟨some n10, none, .load none (.t n9)⟩, ⟨some n11, none, .mv (.t n1)⟩, ⟨some n12, none, .call (.c (.fn n96 [] [])) [(.t n10), (.t n11)] .borrow⟩, ⟨some n7, none, .mv (.t n12)⟩])
 (.seq (.ops [⟨some n13, none, .faddr n1 (.t n3)⟩, ⟨some n14, none, .load none (.t n13)⟩, ⟨some n15, none, .call (.c (.fn n98 [] [])) [(.t n14)] .raw⟩, ⟨some n16, none, .mv (.t n7)⟩, ⟨some n17, none, .mv (.t n7)⟩, ⟨some n18, none, .bin .add (.t n17) (k n1)⟩, ⟨some n19, none, .call (.c (.fn n97 [] [])) [(.t n15), (.t n16), (.t n18)] .raw⟩, ⟨some n8, none, .mv (.t n19)⟩])
 (.seq (.ops [⟨some n20, none, .mv (.t n8)⟩, ⟨some n21, none, .mv (.t n2)⟩, ⟨some n22, none, .mv (.t n1)⟩, ⟨some n23, none, .bslice n1 n1 [(.int .i64 (.l (i n0)))] [(n0, (.t n22))] true⟩, ⟨some n24, none, .call (.c (.fn n99 [] [])) [(.t n20), (.t n21), (.t n23)] .raw⟩, ⟨some n6, none, .mv (.t n24)⟩])
 .ret))))
def x65 : XFn := ⟨a65, n25, [(.t n6)], c65⟩
def a67 : Ann := ⟨[(n3, n1, n2)], []⟩
def c67 : ICode :=
 (.seq (.ops [⟨some n2, none, .box (.t n0)⟩, ⟨some n3, none, .box (.t n1)⟩])
 (.seq (.ops [⟨some n4, none, .alloc [(.raw .nilFunc)]⟩])
 (.seq (.ops [⟨some n5, none, .mkfn n100 [] [(.t n2), (.t n3), (.t n4)]⟩, ⟨none, none, .store n1 (.t n4) (.t n5)⟩])
 (.ops [⟨some n6, none, .load none (.t n4)⟩, ⟨some n7, none, .call (.t n6) [(.c (.d .nil))] .raw⟩]))))
def x67 : XFn := ⟨a67, n8, [], c67⟩
def a69 : Ann := ⟨[(n5, n2, n0), (n7, n6, n0), (n12, n2, n0)], []⟩
def c69 : ICode :=
 (.seq (.ops [⟨some n1, none, .box (.t n0)⟩, ⟨some n2, none, .mv (k n0)⟩])
 (.seq (.block n0 (.seq (.seq (.ops [⟨some n5, none, .faddr n0 (.t n1)⟩, ⟨some n6, none, .load none (.t n5)⟩, ⟨some n7, none, .len (.t n6)⟩, ⟨some n8, none, .bin .gtr (.t n7) (k n6)⟩, ⟨some n4, none, .mv (.t n8)⟩])
 (.cond (.t n4) .skip
 (.seq (.ops [⟨some n9, none, .faddr n1 (.t n1)⟩, ⟨some n10, none, .load none (.t n9)⟩, ⟨some n11, none, .len (.t n10)⟩, ⟨some n12, none, .bin .gtr (.t n11) (k n3000)⟩, ⟨some n4, none, .mv (.t n12)⟩])
 (.cond (.t n4) .skip
 (.ops [⟨some n13, none, .faddr n2 (.t n1)⟩, ⟨some n14, none, .load none (.t n13)⟩, ⟨some n15, none, .len (.t n14)⟩, ⟨some n16, none, .bin .gtr (.t n15) (k n3000)⟩, ⟨some n4, none, .mv (.t n16)⟩])))))
 (.cond (.t n4) (.seq (.ops [⟨some n2, none, .mv (k n5)⟩])
 .ret)
 (.seq (.ops [⟨some n18, none, .faddr n0 (.t n1)⟩, ⟨some n19, none, .load none (.t n18)⟩, ⟨some n20, none, .call (.c (.fn n102 [] [])) [(.t n19), (.c (.fn n103 [] []))] .borrow⟩, ⟨some n17, none, .mv (.t n20)⟩])
 (.cond (.t n17) (.seq (.ops [⟨some n2, none, .mv (k n3)⟩])
 .ret)
 (.seq (.ops [⟨some n22, none, .faddr n1 (.t n1)⟩, ⟨some n23, none, .load none (.t n22)⟩, ⟨some n24, none, .len (.t n23)⟩, ⟨some n25, none, .bin .sub (.t n24) (k n1)⟩, ⟨some n26, none, .faddr n2 (.t n1)⟩, ⟨some n27, none, .load none (.t n26)⟩, ⟨some n28, none, .call (.c (.fn n104 [] [])) [(k n0), (.t n25), (.t n27)] .borrow⟩, ⟨some n29, none, .un .not (.t n28)⟩, ⟨some n21, none, .mv (.t n29)⟩])
 (.cond (.t n21) (.seq (.ops [⟨some n2, none, .mv (k n4)⟩])
 .ret)
 .skip)))))))
 (.seq (.seq (.ops [⟨some n30, none, .faddr n1 (.t n1)⟩, ⟨some n31, none, .load none (.t n30)⟩, ⟨some n32, none, .len (.t n31)⟩, ⟨some n33, none, .mv (k n0)⟩])
 (.block n1 (.loop (.seq (.ops [⟨some n34, none, .bin .lss (.t n33) (.t n32)⟩])
 (.seq (.cond (.t n34) .skip
 (.exit n1))
 (.seq (.block n2 (.seq (.ops [⟨some n35, none, .mv (.t n33)⟩, ⟨some n3, none, .mv (.t n35)⟩])
 (.seq (.ops [⟨some n36, none, .load (some n3) (.t n1)⟩, ⟨some n37, none, .mv (.t n3)⟩, ⟨some n38, none, .call (.c (.fn n105 [] [])) [(.t n36), (.t n37)] .borrow⟩, ⟨some n39, none, .un .not (.t n38)⟩])
 (.cond (.t n39) (.seq (.ops [⟨some n2, none, .mv (k n4)⟩])
 .ret)
 .skip))))
 (.ops [⟨some n40, none, .bin .add (.t n33) (k n1)⟩, ⟨some n33, none, .mv (.t n40)⟩])))))))
 (.seq (.ops [⟨some n2, none, .mv (k n0)⟩])
 .ret))))
def x69 : XFn := ⟨a69, n41, [(.t n2)], c69⟩
def a70 : Ann := ⟨[(n2, n3, n3)], []⟩
def c70 : ICode :=
 (.seq (.ops [⟨some n4, none, .load none (.t n1)⟩, ⟨some n5, none, .mv (.t n0)⟩, ⟨some n6, none, .iaddr n1 (.t n4) (.t n5)⟩, ⟨some n7, none, .load none (.t n6)⟩, ⟨some n8, none, .un .not (.t n7)⟩])
 (.cond (.t n8) (.seq (.ops [⟨some n9, none, .load none (.t n1)⟩, ⟨some n10, none, .mv (.t n0)⟩, ⟨some n11, none, .iaddr n1 (.t n9) (.t n10)⟩, ⟨none, none, .store n1 (.t n11) (.c (.d (.bool true)))⟩])
 (.ops [⟨some n12, none, .load none (.t n2)⟩, ⟨some n13, none, .mv (.t n0)⟩, ⟨some n14, none, .bslice n1 n1 [(.int .i64 (.l (i n0)))] [(n0, (.t n13))] false⟩, ⟨some n15, none, .appendN n1 n8 (.t n12) (.t n14) true⟩, ⟨none, none, .store n1 (.t n2) (.t n15)⟩]))
 .skip))
def x70 : XFn := ⟨a70, n16, [], c70⟩
def a71 : Ann := ⟨[], []⟩
def c71 : ICode :=
 (.seq (.ops [⟨some n1, none, .box (.t n0)⟩, ⟨some n2, none, .mv (.c (.d .nil))⟩])
 (.seq (.ops [⟨some n4, none, .faddr n1 (.t n1)⟩, ⟨some n5, none, .load none (.t n4)⟩, ⟨some n6, none, .faddr n2 (.t n1)⟩, ⟨some n7, none, .load none (.t n6)⟩, ⟨some n8, none, .faddr n3 (.t n1)⟩, ⟨some n9, none, .load none (.t n8)⟩, ⟨some n10, none, .bslice n1 n3 [(.int .i64 (.l (i n0)))] [(n0, (.t n5)), (n1, (.t n7)), (n2, (.t n9))] false⟩, ⟨some n3, none, .mv (.t n10)⟩])
 (.seq (.block n0 (.seq (.ops [⟨some n12, none, .faddr n0 (.t n1)⟩, ⟨some n13, none, .load none (.t n12)⟩, ⟨some n14, none, .bin .lss (.t n13) (.c (.d (.int .u8 (.l (i n5)))))⟩, ⟨some n11, none, .mv (.t n14)⟩])
 (.cond (.t n11) (.seq (.ops [⟨some n2, none, .mv (.c (.d .nil))⟩])
 .ret)
 (.seq (.ops [⟨some n16, none, .faddr n0 (.t n1)⟩, ⟨some n17, none, .load none (.t n16)⟩, ⟨some n18, none, .bin .leq (.t n17) (.c (.d (.int .u8 (.l (i n6)))))⟩, ⟨some n15, none, .mv (.t n18)⟩])
 (.cond (.t n15) (.seq (.ops [⟨some n19, none, .mv (.t n3)⟩, ⟨some n20, none, .slice n1 (.t n19) none (some (k n1)) none⟩, ⟨some n2, none, .mv (.t n20)⟩])
 .ret)
 (.seq (.ops [⟨some n22, none, .faddr n0 (.t n1)⟩, ⟨some n23, none, .load none (.t n22)⟩, ⟨some n24, none, .bin .lss (.t n23) (.c (.d (.int .u8 (.l (i n17)))))⟩, ⟨some n21, none, .mv (.t n24)⟩])
 (.cond (.t n21) (.seq (.ops [⟨some n25, none, .mv (.t n3)⟩, ⟨some n26, none, .slice n1 (.t n25) none (some (k n2)) none⟩, ⟨some n2, none, .mv (.t n26)⟩])
 .ret)
 .skip)))))))
 (.seq (.ops [⟨some n27, none, .mv (.t n3)⟩, ⟨some n2, none, .mv (.t n27)⟩])
 .ret))))
def x71 : XFn := ⟨a71, n28, [(.t n2)], c71⟩
def a78 : Ann := ⟨[(n1, n2, n2)], []⟩
def c78 : ICode :=
 (.seq (.ops [⟨some n3, none, .box (.t n0)⟩, ⟨some n4, none, .box (.t n1)⟩, ⟨some n6, none, .mv (.c (.d (.bool false)))⟩])
 (.seq (.ops [⟨some n7, none, .mv (.t n2)⟩, ⟨some n8, none, .mkfn n108 [] [(.t n3), (.t n4)]⟩, ⟨some n9, none, .call (.c (.fn n107 [] [])) [(.t n7), (.t n8)] .raw⟩, ⟨some n6, none, .mv (.t n9)⟩])
 .ret))
def x78 : XFn := ⟨a78, n10, [(.t n6)], c78⟩
def a79 : Ann := ⟨[(n1, n3, n0)], []⟩
def c79 : ICode :=
 (.seq (.ops [⟨some n2, none, .box (.t n0)⟩, ⟨some n4, none, .mv (.c (.d (.bool false)))⟩])
 (.seq (.ops [⟨some n5, none, .faddr n0 (.t n2)⟩, ⟨some n6, none, .load none (.t n5)⟩, ⟨some n7, none, .mv (.t n1)⟩, ⟨some n8, none, .call (.c (.fn n109 [] [])) [(.t n6), (.t n7)] .borrow⟩, ⟨some n9, none, .bin .eql (.t n8) (k n0)⟩, ⟨some n4, none, .mv (.t n9)⟩])
 .ret))
def x79 : XFn := ⟨a79, n10, [(.t n4)], c79⟩
def a81 : Ann := ⟨[(n2, n4, n0), (n8, n4, n3), (n14, n1, n3), (n17, n5, n2), (n18, n4, n3), (n19, n1, n0), (n24, n18, n0), (n26, n4, n3)], []⟩
def c81 : ICode :=
 (.seq (.ops [⟨some n4, none, .box (.t n0)⟩, ⟨some n8, none, .alloc [.nil, .nil, .nil, .nil, (.int .i64 (.l (i n0)))]⟩, ⟨some n9, none, .mv (k n0)⟩])
 (.seq (.seq (.ops [⟨some n17, none, .mv (.t n2)⟩, ⟨some n18, none, .faddr n1 (.t n4)⟩, ⟨some n19, none, .load none (.t n18)⟩, ⟨some n20, none, .len (.t n19)⟩, ⟨some n21, none, .bin .eql (.t n17) (.t n20)⟩])
 (.cond (.t n21) (.seq (.ops [⟨some n22, none, .mv (.t n1)⟩, ⟨some n23, none, .faddr n0 (.t n4)⟩, ⟨some n24, none, .load none (.t n23)⟩, ⟨some n25, none, .mv (.t n3)⟩, ⟨some n26, none, .call (.c (.fn n112 [] [])) [(.t n24), (.t n25)] .borrow⟩, ⟨some n27, none, .iaddr n2 (.t n22) (.t n26)⟩, ⟨some n28, none, .load (some n2) (.t n27)⟩, ⟨some n10, none, .alloc [(.int .u8 (.l (i n0))), (.int .i64 (.l (i n0)))]⟩, ⟨none, none, .store n2 (.t n10) (.t n28)⟩])
 (.seq (.seq (.ops [⟨some n11, none, .mv (k n0)⟩])
 (.block n0 (.loop (.seq (.seq (.ops [⟨some n29, none, .mv (.t n11)⟩, ⟨some n30, none, .faddr n2 (.t n4)⟩, ⟨some n31, none, .load none (.t n30)⟩, ⟨some n32, none, .len (.t n31)⟩, ⟨some n33, none, .bin .lss (.t n29) (.t n32)⟩])
 (.cond (.t n33) .skip
 (.exit n0)))
 (.seq (.block n1 (.seq (.draw n0 [⟨⟨some n36, none, .faddr n2 (.t n4)⟩, n0, n0, [], [], false, false⟩, ⟨⟨some n38, none, .mv (.t n11)⟩, n2, n0, [], [], false, false⟩, ⟨⟨some n37, none, .load none (.t n36)⟩, n1, n0, [], [], false, false⟩, ⟨⟨some n39, none, .iaddr n2 (.t n37) (.t n38)⟩, n3, n0, [], [], false, false⟩, ⟨⟨some n40, none, .load (some n2) (.t n39)⟩, n4, n0, [], [], false, false⟩, ⟨⟨some n41, none, .load (some n2) (.t n10)⟩, n5, n0, [], [], false, false⟩, ⟨⟨some n42, none, .aeq false [.u8, .i64] (.t n40) (.t n41)⟩, n6, n0, [], [], false, false⟩])
 (.cond (.t n42) (.seq (.ops [⟨some n43, none, .load (some n5) (.t n4)⟩, ⟨some n44, none, .mv (.t n11)⟩, ⟨some n45, none, .bin .sub (.c (.d (.int .i64 (.l (.negSucc n0))))) (.t n44)⟩, ⟨none, none, .store n5 (.t n8) (.t n43)⟩, ⟨some n9, none, .mv (.t n45)⟩])
 .ret)
 .skip)))
 (.ops [⟨some n34, none, .mv (.t n11)⟩, ⟨some n35, none, .bin .add (.t n34) (k n1)⟩, ⟨some n11, none, .mv (.t n35)⟩]))))))
 (.seq (.ops [⟨some n46, none, .faddr n2 (.t n4)⟩, ⟨some n47, none, .load none (.t n46)⟩, ⟨some n48, none, .load (some n2) (.t n10)⟩, ⟨some n49, none, .bslice n2 n1 [(.int .u8 (.l (i n0))), (.int .i64 (.l (i n0)))] [(n0, (.t n48))] false⟩, ⟨some n50, none, .appendN n2 n16 (.t n47) (.t n49) true⟩, ⟨some n51, none, .faddr n2 (.t n4)⟩, ⟨none, none, .store n1 (.t n51) (.t n50)⟩])
 (.seq (.draw n0 [⟨⟨some n53, none, .faddr n2 (.t n4)⟩, n1, n0, [], [], false, true⟩, ⟨⟨some n52, none, .load (some n5) (.t n4)⟩, n0, n0, [], [], false, false⟩, ⟨⟨some n54, none, .load none (.t n53)⟩, n2, n0, [], [], false, true⟩, ⟨⟨some n55, none, .len (.t n54)⟩, n3, n0, [], [], false, true⟩, ⟨⟨some n56, none, .un .neg (.t n55)⟩, n4, n0, [], [], false, true⟩, ⟨⟨none, none, .store n5 (.t n8) (.t n52)⟩, n5, n0, [], [n0], false, false⟩, ⟨⟨some n9, none, .mv (.t n56)⟩, n6, n0, [], [], false, false⟩])
 .ret))))
 .skip))
 (.seq (.ops [⟨some n57, none, .faddr n1 (.t n4)⟩, ⟨some n58, none, .load none (.t n57)⟩, ⟨some n59, none, .mv (.t n2)⟩, ⟨some n60, none, .iaddr n1 (.t n58) (.t n59)⟩, ⟨some n61, none, .load none (.t n60)⟩, ⟨some n62, none, .build [(.int .i64 (.l (i n0))), .nil] [(n0, n1, (.t n61))]⟩, ⟨some n12, none, .alloc [(.int .i64 (.l (i n0))), .nil]⟩, ⟨none, none, .store n2 (.t n12) (.t n62)⟩])
 (.seq (.seq (.ops [⟨some n13, none, .mv (k n0)⟩])
 (.block n2 (.loop (.seq (.seq (.ops [⟨some n63, none, .mv (.t n13)⟩, ⟨some n64, none, .faddr n0 (.t n4)⟩, ⟨some n65, none, .load none (.t n64)⟩, ⟨some n66, none, .faddr n0 (.t n12)⟩, ⟨some n67, none, .load none (.t n66)⟩, ⟨some n68, none, .iaddr n1 (.t n65) (.t n67)⟩, ⟨some n69, none, .load none (.t n68)⟩, ⟨some n70, none, .bin .lss (.t n63) (.t n69)⟩])
 (.cond (.t n70) .skip
 (.exit n2)))
 (.seq (.block n3 (.seq (.ops [⟨some n73, none, .mv (.t n3)⟩, ⟨some n74, none, .appendN n1 n8 (.c (.d .nil)) (.t n73) true⟩, ⟨some n14, none, .mv (.t n74)⟩])
 (.seq (.ops [⟨some n75, none, .mv (.t n14)⟩, ⟨some n76, none, .faddr n0 (.t n12)⟩, ⟨some n77, none, .load none (.t n76)⟩, ⟨some n78, none, .mv (.t n13)⟩, ⟨some n79, none, .iaddr n1 (.t n75) (.t n77)⟩, ⟨none, none, .store n1 (.t n79) (.t n78)⟩])
 (.seq (.ops [⟨some n15, none, .mv (k n0)⟩])
 (.seq (.ops [⟨some n81, none, .load (some n5) (.t n4)⟩, ⟨some n82, none, .mv (.t n1)⟩, ⟨some n83, none, .mv (.t n2)⟩, ⟨some n84, none, .bin .add (.t n83) (k n1)⟩, ⟨some n85, none, .mv (.t n14)⟩, ⟨some n86, none, .call (.c (.fn n81 [] [])) [(.t n81), (.t n82), (.t n84), (.t n85)] .raw⟩, ⟨some n80, none, .mv (.t n86)⟩, ⟨some n87, none, .extract (.t n80) n0⟩, ⟨some n88, none, .extract (.t n80) n1⟩, ⟨none, none, .store n5 (.t n4) (.t n87)⟩, ⟨some n15, none, .mv (.t n88)⟩])
 (.ops [⟨some n89, none, .faddr n1 (.t n12)⟩, ⟨some n90, none, .load none (.t n89)⟩, ⟨some n91, none, .mv (.t n15)⟩, ⟨some n92, none, .bslice n1 n1 [(.int .i64 (.l (i n0)))] [(n0, (.t n91))] false⟩, ⟨some n93, none, .appendN n1 n8 (.t n90) (.t n92) true⟩, ⟨some n94, none, .faddr n1 (.t n12)⟩, ⟨none, none, .store n1 (.t n94) (.t n93)⟩]))))))
 (.ops [⟨some n71, none, .mv (.t n13)⟩, ⟨some n72, none, .bin .add (.t n71) (k n1)⟩, ⟨some n13, none, .mv (.t n72)⟩]))))))
 (.seq (.seq (.ops [⟨some n95, none, .load (some n2) (.t n12)⟩, ⟨some n96, none, .call (.c (.fn n113 [] [])) [(.t n95)] .borrow⟩])
 (.cond (.t n96) (.seq (.draw n0 [⟨⟨some n98, none, .faddr n1 (.t n12)⟩, n1, n0, [], [], false, true⟩, ⟨⟨some n97, none, .load (some n5) (.t n4)⟩, n0, n0, [], [], false, false⟩, ⟨⟨some n99, none, .load none (.t n98)⟩, n2, n0, [], [], false, true⟩, ⟨⟨some n100, none, .iaddr n1 (.t n99) (k n0)⟩, n3, n0, [], [], false, true⟩, ⟨⟨some n101, none, .load none (.t n100)⟩, n4, n0, [], [], false, true⟩, ⟨⟨none, none, .store n5 (.t n8) (.t n97)⟩, n5, n0, [], [n0], false, false⟩, ⟨⟨some n9, none, .mv (.t n101)⟩, n6, n0, [], [], false, false⟩])
 .ret)
 .skip))
 (.seq (.seq (.ops [⟨some n16, none, .mv (k n0)⟩])
 (.block n4 (.loop (.seq (.seq (.ops [⟨some n102, none, .mv (.t n16)⟩, ⟨some n103, none, .faddr n3 (.t n4)⟩, ⟨some n104, none, .load none (.t n103)⟩, ⟨some n105, none, .len (.t n104)⟩, ⟨some n106, none, .bin .lss (.t n102) (.t n105)⟩])
 (.cond (.t n106) .skip
 (.exit n4)))
 (.seq (.block n5 (.seq (.draw n0 [⟨⟨some n109, none, .faddr n3 (.t n4)⟩, n0, n0, [], [], false, false⟩, ⟨⟨some n111, none, .mv (.t n16)⟩, n2, n0, [], [], false, false⟩, ⟨⟨some n115, none, .faddr n0 (.t n12)⟩, n6, n0, [], [], false, false⟩, ⟨⟨some n110, none, .load none (.t n109)⟩, n1, n0, [], [], false, false⟩, ⟨⟨some n112, none, .iaddr n2 (.t n110) (.t n111)⟩, n3, n0, [], [], false, false⟩, ⟨⟨some n113, none, .faddr n0 (.t n112)⟩, n4, n0, [], [], false, false⟩, ⟨⟨some n114, none, .load none (.t n113)⟩, n5, n0, [], [], false, false⟩, ⟨⟨some n116, none, .load none (.t n115)⟩, n7, n0, [], [], false, false⟩, ⟨⟨some n117, none, .bin .eql (.t n114) (.t n116)⟩, n8, n0, [], [], false, false⟩, ⟨⟨some n118, none, .mv (.t n117)⟩, n9, n0, [], [], false, false⟩, ⟨⟨some n119, (some (n118, true)), .faddr n3 (.t n4)⟩, n10, n0, [], [], false, false⟩, ⟨⟨some n121, (some (n118, true)), .mv (.t n16)⟩, n12, n0, [], [], false, false⟩, ⟨⟨some n125, (some (n118, true)), .faddr n1 (.t n12)⟩, n16, n0, [], [], false, false⟩, ⟨⟨some n120, (some (n118, true)), .load none (.t n119)⟩, n11, n0, [], [], false, false⟩, ⟨⟨some n122, (some (n118, true)), .iaddr n2 (.t n120) (.t n121)⟩, n13, n0, [], [], false, false⟩, ⟨⟨some n123, (some (n118, true)), .faddr n1 (.t n122)⟩, n14, n0, [], [], false, false⟩, ⟨⟨some n124, (some (n118, true)), .load none (.t n123)⟩, n15, n0, [], [], false, false⟩, ⟨⟨some n126, (some (n118, true)), .load none (.t n125)⟩, n17, n0, [], [], false, false⟩, ⟨⟨some n127, (some (n118, true)), .call (.c (.fn n23 [] [])) [(.t n124), (.t n126)] .borrow⟩, n18, n0, [], [n15, n17, n9, n14, n13, n11, n12, n10, n8, n5, n7, n4, n3, n1, n2, n0, n6, n16], true, false⟩, ⟨⟨some n128, none, .pick (.t n118) (.t n127) (.c (.d (.bool false)))⟩, n19, n0, [], [], false, false⟩])
 (.cond (.t n128) (.seq (.ops [⟨some n129, none, .load (some n5) (.t n4)⟩, ⟨some n130, none, .mv (.t n16)⟩, ⟨none, none, .store n5 (.t n8) (.t n129)⟩, ⟨some n9, none, .mv (.t n130)⟩])
 .ret)
 .skip)))
 (.ops [⟨some n107, none, .mv (.t n16)⟩, ⟨some n108, none, .bin .add (.t n107) (k n1)⟩, ⟨some n16, none, .mv (.t n108)⟩]))))))
 (.seq (.ops [⟨some n131, none, .faddr n3 (.t n4)⟩, ⟨some n132, none, .load none (.t n131)⟩, ⟨some n133, none, .load (some n2) (.t n12)⟩, ⟨some n134, none, .bslice n2 n1 [(.int .i64 (.l (i n0))), .nil] [(n0, (.t n133))] false⟩, ⟨some n135, none, .appendN n2 n32 (.t n132) (.t n134) true⟩, ⟨some n136, none, .faddr n3 (.t n4)⟩, ⟨none, none, .store n1 (.t n136) (.t n135)⟩])
 (.seq (.draw n0 [⟨⟨some n138, none, .faddr n3 (.t n4)⟩, n1, n0, [], [], false, true⟩, ⟨⟨some n137, none, .load (some n5) (.t n4)⟩, n0, n0, [], [], false, false⟩, ⟨⟨some n139, none, .load none (.t n138)⟩, n2, n0, [], [], false, true⟩, ⟨⟨some n140, none, .len (.t n139)⟩, n3, n0, [], [], false, true⟩, ⟨⟨some n141, none, .bin .sub (.t n140) (k n1)⟩, n4, n0, [], [], false, true⟩, ⟨⟨none, none, .store n5 (.t n8) (.t n137)⟩, n5, n0, [], [n0], false, false⟩, ⟨⟨some n9, none, .mv (.t n141)⟩, n6, n0, [], [], false, false⟩])
 .ret))))))))
def x81 : XFn := ⟨a81, n142, [(.c n8 (some n5)), (.t n9)], c81⟩
def a82 : Ann := ⟨[], []⟩
def c82 : ICode :=
 (.seq (.ops [⟨some n4, none, .mv (.c (.d (.bool false)))⟩])
 (.seq (.seq (.ops [⟨some n6, none, .mv (.t n0)⟩, ⟨some n7, none, .len (.t n6)⟩, ⟨some n8, none, .mv (.t n1)⟩, ⟨some n9, none, .len (.t n8)⟩, ⟨some n10, none, .bin .neq (.t n7) (.t n9)⟩])
 (.cond (.t n10) (.seq (.ops [⟨some n4, none, .mv (.c (.d (.bool false)))⟩])
 .ret)
 .skip))
 (.seq (.seq (.ops [⟨some n5, none, .mv (k n0)⟩])
 (.block n0 (.loop (.seq (.seq (.ops [⟨some n11, none, .mv (.t n5)⟩, ⟨some n12, none, .mv (.t n0)⟩, ⟨some n13, none, .len (.t n12)⟩, ⟨some n14, none, .bin .lss (.t n11) (.t n13)⟩])
 (.cond (.t n14) .skip
 (.exit n0)))
 (.seq (.block n1 (.seq (.draw n0 [⟨⟨some n17, none, .mv (.t n0)⟩, n0, n0, [], [], false, false⟩, ⟨⟨some n18, none, .mv (.t n5)⟩, n1, n0, [], [], false, false⟩, ⟨⟨some n19, none, .iaddr n2 (.t n17) (.t n18)⟩, n2, n0, [], [], false, false⟩, ⟨⟨some n21, none, .mv (.t n1)⟩, n4, n0, [], [], false, false⟩, ⟨⟨some n22, none, .mv (.t n5)⟩, n5, n0, [], [], false, false⟩, ⟨⟨some n23, none, .iaddr n2 (.t n21) (.t n22)⟩, n6, n0, [], [], false, false⟩, ⟨⟨some n20, none, .load (some n2) (.t n19)⟩, n3, n0, [], [], false, false⟩, ⟨⟨some n24, none, .load (some n2) (.t n23)⟩, n7, n0, [], [], false, false⟩, ⟨⟨some n25, none, .aeq true [.u8, .i64] (.t n20) (.t n24)⟩, n8, n0, [], [], false, false⟩])
 (.cond (.t n25) (.seq (.ops [⟨some n4, none, .mv (.c (.d (.bool false)))⟩])
 .ret)
 .skip)))
 (.ops [⟨some n15, none, .mv (.t n5)⟩, ⟨some n16, none, .bin .add (.t n15) (k n1)⟩, ⟨some n5, none, .mv (.t n16)⟩]))))))
 (.seq (.ops [⟨some n4, none, .mv (.c (.d (.bool true)))⟩])
 .ret))))
def x82 : XFn := ⟨a82, n26, [(.t n4)], c82⟩
def a87 : Ann := ⟨[(n1, n1, n1), (n4, n1, n1)], []⟩
def c87 : ICode :=
 (.seq (.ops [⟨some n1, none, .box (.t n0)⟩, ⟨some n2, none, .mv (.c (.d .nil))⟩, ⟨some n3, none, .mv (k n0)⟩])
 (.seq (.ops [⟨some n7, none, .load (some n5) (.t n1)⟩, ⟨some n8, none, .call (.c (.fn n118 [] [])) [(.t n7)] .share⟩, ⟨some n6, none, .mv (.t n8)⟩, ⟨some n9, none, .extract (.t n6) n0⟩, ⟨some n10, none, .extract (.t n6) n1⟩, ⟨some n4, none, .alloc [.nil, .nil, .nil, .nil, .nil, .nil, (.int .i64 (.l (i n0)))]⟩, ⟨none, none, .store n7 (.t n4) (.t n9)⟩, ⟨some n5, none, .mv (.t n10)⟩])
 (.seq (.seq (.ops [⟨some n11, none, .mv (.t n5)⟩, ⟨some n12, none, .bin .neq (.t n11) (k n0)⟩])
 (.cond (.t n12) (.seq (.ops [⟨some n13, none, .mv (.t n5)⟩, ⟨some n2, none, .mv (.c (.d .nil))⟩, ⟨some n3, none, .mv (.t n13)⟩])
 .ret)
 .skip))
 (.seq (.ops [⟨some n14, none, .load (some n7) (.t n4)⟩, ⟨some n15, none, .call (.c (.fn n119 [] [])) [(.t n14)] .share⟩, ⟨some n2, none, .mv (.t n15)⟩, ⟨some n3, none, .mv (k n0)⟩])
 .ret))))
def x87 : XFn := ⟨a87, n16, [(.t n2), (.t n3)], c87⟩
def a88 : Ann := ⟨[(n1, n2, n2)], []⟩
def c88 : ICode :=
 (.seq (.ops [⟨some n3, none, .box (.t n1)⟩, ⟨some n4, none, .mv (.c (.d (.bool false)))⟩])
 (.seq (.ops [⟨some n5, none, .mv (.t n0)⟩, ⟨some n6, none, .mkfn n121 [] [(.t n3)]⟩, ⟨some n7, none, .call (.c (.fn n120 [] [])) [(.t n5), (.t n6)] .raw⟩, ⟨some n8, none, .un .not (.t n7)⟩, ⟨some n4, none, .mv (.t n8)⟩])
 .ret))
def x88 : XFn := ⟨a88, n9, [(.t n4)], c88⟩
def a89 : Ann := ⟨[(n1, n4, n0), (n1, n10, n0)], []⟩
def c89 : ICode :=
 (.seq (.ops [⟨some n2, none, .box (.t n0)⟩, ⟨some n3, none, .box (.t n1)⟩, ⟨some n4, none, .mv (.c (.d (.bool false)))⟩])
 (.seq (.ops [⟨some n5, none, .faddr n0 (.t n3)⟩, ⟨some n6, none, .load none (.t n5)⟩, ⟨some n7, none, .faddr n0 (.t n2)⟩, ⟨some n8, none, .load none (.t n7)⟩, ⟨some n9, none, .call (.c (.fn n122 [] [])) [(.t n6), (.t n8)] .borrow⟩, ⟨some n10, none, .mv (.t n9)⟩, ⟨some n11, (some (n10, true)), .faddr n1 (.t n3)⟩, ⟨some n12, (some (n10, true)), .load none (.t n11)⟩, ⟨some n13, (some (n10, true)), .faddr n1 (.t n2)⟩, ⟨some n14, (some (n10, true)), .load none (.t n13)⟩, ⟨some n15, (some (n10, true)), .call (.c (.fn n122 [] [])) [(.t n12), (.t n14)] .borrow⟩, ⟨some n16, none, .pick (.t n10) (.t n15) (.c (.d (.bool false)))⟩, ⟨some n4, none, .mv (.t n16)⟩])
 .ret))
def x89 : XFn := ⟨a89, n17, [(.t n4)], c89⟩
def a92 : Ann := ⟨[(n4, n4, n2), (n6, n4, n2), (n8, n4, n2), (n10, n4, n2), (n12, n4, n2), (n16, n4, n2), (n17, n13, n2), (n18, n5, n2), (n20, n5, n2), (n26, n5, n2), (n29, n6, n2)], []⟩
def c92 : ICode :=
 (.seq (.ops [⟨some n10, none, .mv (.c (.d (.bool true)))⟩])
 (.seq (.ops [⟨some n11, none, .mv (.c (.d (.bool true)))⟩])
 (.block n0 (.loop (.block n1 (.seq (.ops [⟨some n21, none, .mv (.t n2)⟩, ⟨some n22, none, .mv (.t n1)⟩, ⟨some n23, none, .bin .sub (.t n21) (.t n22)⟩, ⟨some n12, none, .mv (.t n23)⟩])
 (.seq (.seq (.ops [⟨some n24, none, .mv (.t n12)⟩, ⟨some n25, none, .bin .leq (.t n24) (k n12)⟩])
 (.cond (.t n25) (.seq (.ops [⟨some n26, none, .mv (.t n0)⟩, ⟨some n27, none, .mv (.t n1)⟩, ⟨some n28, none, .mv (.t n2)⟩, ⟨some n29, none, .mv (.t n4)⟩, ⟨some n30, none, .call (.c (.fn n123 [] [])) [(.t n26), (.t n27), (.t n28), (.t n29)] .raw⟩])
 .ret)
 .skip))
 (.seq (.seq (.ops [⟨some n31, none, .mv (.t n3)⟩, ⟨some n32, none, .bin .eql (.t n31) (k n0)⟩])
 (.cond (.t n32) (.seq (.ops [⟨some n33, none, .mv (.t n0)⟩, ⟨some n34, none, .mv (.t n1)⟩, ⟨some n35, none, .mv (.t n2)⟩, ⟨some n36, none, .mv (.t n4)⟩, ⟨some n37, none, .call (.c (.fn n124 [] [])) [(.t n33), (.t n34), (.t n35), (.t n36)] .raw⟩])
 .ret)
 .skip))
 (.seq (.seq (.ops [⟨some n38, none, .mv (.t n10)⟩, ⟨some n39, none, .un .not (.t n38)⟩])
 (.cond (.t n39) (.seq (.ops [⟨some n40, none, .mv (.t n0)⟩, ⟨some n41, none, .mv (.t n1)⟩, ⟨some n42, none, .mv (.t n2)⟩, ⟨some n43, none, .mv (.t n4)⟩, ⟨some n44, none, .call (.c (.fn n125 [] [])) [(.t n40), (.t n41), (.t n42), (.t n43)] .raw⟩])
 (.ops [⟨some n45, none, .mv (.t n3)⟩, ⟨some n46, none, .bin .sub (.t n45) (k n1)⟩, ⟨some n3, none, .mv (.t n46)⟩]))
 .skip))
 (.seq (.ops [⟨some n48, none, .mv (.t n0)⟩, ⟨some n49, none, .mv (.t n1)⟩, ⟨some n50, none, .mv (.t n2)⟩, ⟨some n51, none, .mv (.t n4)⟩, ⟨some n52, none, .call (.c (.fn n126 [] [])) [(.t n48), (.t n49), (.t n50), (.t n51)] .raw⟩, ⟨some n47, none, .mv (.t n52)⟩, ⟨some n53, none, .extract (.t n47) n0⟩, ⟨some n54, none, .extract (.t n47) n1⟩, ⟨some n13, none, .mv (.t n53)⟩, ⟨some n14, none, .mv (.t n54)⟩])
 (.seq (.seq (.ops [⟨some n55, none, .mv (.t n14)⟩, ⟨some n56, none, .bin .eql (.t n55) (k n2)⟩])
 (.cond (.t n56) (.seq (.ops [⟨some n57, none, .mv (.t n0)⟩, ⟨some n58, none, .mv (.t n1)⟩, ⟨some n59, none, .mv (.t n2)⟩, ⟨some n60, none, .mv (.t n4)⟩, ⟨some n61, none, .call (.c (.fn n127 [] [])) [(.t n57), (.t n58), (.t n59), (.t n60)] .raw⟩])
 (.seq (.ops [⟨some n62, none, .mv (.t n2)⟩, ⟨some n63, none, .bin .sub (.t n62) (k n1)⟩, ⟨some n64, none, .mv (.t n13)⟩, ⟨some n65, none, .mv (.t n1)⟩, ⟨some n66, none, .bin .sub (.t n64) (.t n65)⟩, ⟨some n67, none, .bin .sub (.t n63) (.t n66)⟩, ⟨some n13, none, .mv (.t n67)⟩])
 (.ops [⟨some n14, none, .mv (k n1)⟩])))
 .skip))
 (.seq (.seq (.ops [⟨some n68, none, .mv (.t n10)⟩, ⟨some n69, none, .mv (.t n68)⟩, ⟨some n70, (some (n69, true)), .mv (.t n11)⟩, ⟨some n71, none, .pick (.t n69) (.t n70) (.c (.d (.bool false)))⟩, ⟨some n72, none, .mv (.t n71)⟩, ⟨some n73, (some (n72, true)), .mv (.t n14)⟩, ⟨some n74, (some (n72, true)), .bin .eql (.t n73) (k n1)⟩, ⟨some n75, none, .pick (.t n72) (.t n74) (.c (.d (.bool false)))⟩])
 (.cond (.t n75) (.seq (.ops [⟨some n76, none, .mv (.t n0)⟩, ⟨some n77, none, .mv (.t n1)⟩, ⟨some n78, none, .mv (.t n2)⟩, ⟨some n79, none, .mv (.t n4)⟩, ⟨some n80, none, .call (.c (.fn n128 [] [])) [(.t n76), (.t n77), (.t n78), (.t n79)] .raw⟩])
 (.cond (.t n80) .ret
 .skip))
 .skip))
 (.seq (.seq (.draw n0 [⟨⟨some n81, none, .mv (.t n1)⟩, n0, n0, [], [], false, false⟩, ⟨⟨some n82, none, .bin .gtr (.t n81) (k n0)⟩, n1, n0, [], [], false, false⟩, ⟨⟨some n83, none, .mv (.t n82)⟩, n2, n0, [], [], false, false⟩, ⟨⟨some n84, (some (n83, true)), .mv (.t n4)⟩, n3, n0, [], [], false, false⟩, ⟨⟨some n85, (some (n83, true)), .mv (.t n0)⟩, n4, n0, [], [], false, false⟩, ⟨⟨some n86, (some (n83, true)), .mv (.t n1)⟩, n5, n0, [], [], false, false⟩, ⟨⟨some n87, (some (n83, true)), .bin .sub (.t n86) (k n1)⟩, n6, n0, [], [], false, false⟩, ⟨⟨some n88, (some (n83, true)), .iaddr n2 (.t n85) (.t n87)⟩, n7, n0, [], [], false, false⟩, ⟨⟨some n90, (some (n83, true)), .mv (.t n0)⟩, n9, n0, [], [], false, false⟩, ⟨⟨some n91, (some (n83, true)), .mv (.t n13)⟩, n10, n0, [], [], false, false⟩, ⟨⟨some n92, (some (n83, true)), .iaddr n2 (.t n90) (.t n91)⟩, n11, n0, [], [], false, false⟩, ⟨⟨some n89, (some (n83, true)), .load (some n2) (.t n88)⟩, n8, n0, [], [], false, false⟩, ⟨⟨some n93, (some (n83, true)), .load (some n2) (.t n92)⟩, n12, n0, [], [], false, false⟩, ⟨⟨some n94, (some (n83, true)), .call (.t n84) [(.t n89), (.t n93)] .raw⟩, n13, n0, [], [n3, n8, n12, n2, n1, n0, n7, n4, n6, n5, n11, n9, n10], true, false⟩, ⟨⟨some n95, (some (n83, true)), .bin .lss (.t n94) (k n0)⟩, n14, n0, [], [], false, false⟩, ⟨⟨some n96, (some (n83, true)), .un .not (.t n95)⟩, n15, n0, [], [], false, false⟩, ⟨⟨some n97, none, .pick (.t n83) (.t n96) (.c (.d (.bool false)))⟩, n16, n0, [], [], false, false⟩])
 (.cond (.t n97) (.seq (.ops [⟨some n98, none, .mv (.t n0)⟩, ⟨some n99, none, .mv (.t n1)⟩, ⟨some n100, none, .mv (.t n2)⟩, ⟨some n101, none, .mv (.t n13)⟩, ⟨some n102, none, .mv (.t n4)⟩, ⟨some n103, none, .call (.c (.fn n129 [] [])) [(.t n98), (.t n99), (.t n100), (.t n101), (.t n102)] .raw⟩, ⟨some n15, none, .mv (.t n103)⟩])
 (.seq (.ops [⟨some n104, none, .mv (.t n15)⟩, ⟨some n1, none, .mv (.t n104)⟩])
 (.exit n1)))
 .skip))
 (.seq (.ops [⟨some n106, none, .mv (.t n0)⟩, ⟨some n107, none, .mv (.t n1)⟩, ⟨some n108, none, .mv (.t n2)⟩, ⟨some n109, none, .mv (.t n13)⟩, ⟨some n110, none, .mv (.t n4)⟩, ⟨some n111, none, .call (.c (.fn n130 [] [])) [(.t n106), (.t n107), (.t n108), (.t n109), (.t n110)] .raw⟩, ⟨some n105, none, .mv (.t n111)⟩, ⟨some n112, none, .extract (.t n105) n0⟩, ⟨some n113, none, .extract (.t n105) n1⟩, ⟨some n16, none, .mv (.t n112)⟩, ⟨some n17, none, .mv (.t n113)⟩])
 (.seq (.ops [⟨some n114, none, .mv (.t n17)⟩, ⟨some n11, none, .mv (.t n114)⟩])
 (.seq (.ops [⟨some n115, none, .mv (.t n16)⟩, ⟨some n116, none, .mv (.t n1)⟩, ⟨some n117, none, .bin .sub (.t n115) (.t n116)⟩, ⟨some n118, none, .mv (.t n2)⟩, ⟨some n119, none, .mv (.t n16)⟩, ⟨some n120, none, .bin .sub (.t n118) (.t n119)⟩, ⟨some n18, none, .mv (.t n117)⟩, ⟨some n19, none, .mv (.t n120)⟩])
 (.seq (.ops [⟨some n121, none, .mv (.t n12)⟩, ⟨some n122, none, .bin .quo (.t n121) (k n8)⟩, ⟨some n20, none, .mv (.t n122)⟩])
 (.seq (.ops [⟨some n123, none, .mv (.t n18)⟩, ⟨some n124, none, .mv (.t n19)⟩, ⟨some n125, none, .bin .lss (.t n123) (.t n124)⟩])
 (.cond (.t n125) (.seq (.ops [⟨some n126, none, .mv (.t n18)⟩, ⟨some n127, none, .mv (.t n20)⟩, ⟨some n128, none, .bin .geq (.t n126) (.t n127)⟩, ⟨some n10, none, .mv (.t n128)⟩])
 (.seq (.ops [⟨some n129, none, .mv (.t n0)⟩, ⟨some n130, none, .mv (.t n1)⟩, ⟨some n131, none, .mv (.t n16)⟩, ⟨some n132, none, .mv (.t n3)⟩, ⟨some n133, none, .mv (.t n4)⟩, ⟨some n134, none, .call (.c (.fn n92 [] [])) [(.t n129), (.t n130), (.t n131), (.t n132), (.t n133)] .raw⟩])
 (.ops [⟨some n135, none, .mv (.t n16)⟩, ⟨some n136, none, .bin .add (.t n135) (k n1)⟩, ⟨some n1, none, .mv (.t n136)⟩])))
 (.seq (.ops [⟨some n137, none, .mv (.t n19)⟩, ⟨some n138, none, .mv (.t n20)⟩, ⟨some n139, none, .bin .geq (.t n137) (.t n138)⟩, ⟨some n10, none, .mv (.t n139)⟩])
 (.seq (.ops [⟨some n140, none, .mv (.t n0)⟩, ⟨some n141, none, .mv (.t n16)⟩, ⟨some n142, none, .bin .add (.t n141) (k n1)⟩, ⟨some n143, none, .mv (.t n2)⟩, ⟨some n144, none, .mv (.t n3)⟩, ⟨some n145, none, .mv (.t n4)⟩, ⟨some n146, none, .call (.c (.fn n92 [] [])) [(.t n140), (.t n142), (.t n143), (.t n144), (.t n145)] .raw⟩])
 (.ops [⟨some n147, none, .mv (.t n16)⟩, ⟨some n2, none, .mv (.t n147)⟩]))))))))))))))))))))))
def x92 : XFn := ⟨a92, n148, [], c92⟩
def a93 : Ann := ⟨[(n1, n2, n0), (n2, n1, n0)], []⟩
def c93 : ICode :=
 (.seq (.ops [⟨some n2, none, .mv (k n0)⟩])
 (.seq (.cond (.c (.d (.bool false))) (.seq (.ops [⟨some n3, none, .mv (.t n0)⟩, ⟨some n4, none, .conv .u32 (.t n3)⟩, ⟨some n5, none, .call (.c (.fn n131 [] [])) [(.t n4)] .borrow⟩, ⟨some n2, none, .mv (.t n5)⟩])
 .ret)
 .skip)
 (.seq (.ops [⟨some n6, none, .mv (.t n0)⟩, ⟨some n7, none, .call (.c (.fn n132 [] [])) [(.t n6)] .borrow⟩, ⟨some n2, none, .mv (.t n7)⟩])
 .ret)))
def x93 : XFn := ⟨a93, n8, [(.t n2)], c93⟩
def a94 : Ann := ⟨[], []⟩
def c94 : ICode :=
 (.seq (.ops [⟨some n2, none, .mv (.c (.d (.bool false)))⟩])
 (.seq (.ops [⟨some n3, none, .mv (.t n0)⟩, ⟨some n4, none, .mv (.t n0)⟩, ⟨some n5, none, .bin .neq (.t n3) (.t n4)⟩, ⟨some n2, none, .mv (.t n5)⟩])
 .ret))
def x94 : XFn := ⟨a94, n6, [(.t n2)], c94⟩
def a95 : Ann := ⟨[(n1, n2, n0), (n4, n3, n2), (n6, n1, n2), (n11, n6, n0), (n15, n2, n2)], []⟩
def c95 : ICode :=
 (.seq (.ops [⟨some n3, none, .box (.t n0)⟩, ⟨some n4, none, .box (.t n1)⟩, ⟨some n5, none, .box (.t n2)⟩, ⟨some n6, none, .alloc [.nil, .nil, .nil, .nil, (.int .i64 (.l (i n0)))]⟩, ⟨some n7, none, .mv (k n0)⟩])
 (.seq (.seq (.ops [⟨some n15, none, .load none (.t n3)⟩, ⟨some n16, none, .load none (.t n4)⟩, ⟨some n17, none, .call (.c (.fn n109 [] [])) [(.t n15), (.t n16)] .borrow⟩, ⟨some n8, none, .mv (.t n17)⟩])
 (.seq (.ops [⟨some n18, none, .mv (.t n8)⟩, ⟨some n19, none, .bin .neq (.t n18) (k n0)⟩])
 (.cond (.t n19) (.seq (.ops [⟨some n20, none, .build [.nil, .nil, .nil, .nil, (.int .i64 (.l (i n0)))] []⟩, ⟨some n21, none, .mv (.t n8)⟩, ⟨none, none, .store n5 (.t n6) (.t n20)⟩, ⟨some n7, none, .mv (.t n21)⟩])
 .ret)
 .skip)))
 (.seq (.ops [⟨some n22, none, .load none (.t n3)⟩, ⟨some n23, none, .load none (.t n4)⟩, ⟨some n24, none, .build [.nil, .nil] [(n0, n1, (.t n22)), (n1, n1, (.t n23))]⟩, ⟨some n25, none, .call (.c (.fn n133 [] [])) [(.t n24)] .raw⟩, ⟨some n9, none, .alloc [(.raw (.pointer none))]⟩, ⟨none, none, .store n1 (.t n9) (.t n25)⟩])
 (.seq (.ops [⟨some n26, none, .load none (.t n3)⟩, ⟨some n27, none, .len (.t n26)⟩, ⟨some n28, none, .mkslice n1 [(.int .i64 (.l (i n0)))] n8 (.t n27)⟩, ⟨some n10, none, .alloc [.nil]⟩, ⟨some n11, none, .alloc [(.int .i64 (.l (i n0)))]⟩, ⟨none, none, .store n1 (.t n10) (.t n28)⟩, ⟨none, none, .store n1 (.t n11) (k n1)⟩])
 (.seq (.seq (.ops [⟨some n29, none, .load none (.t n3)⟩, ⟨some n30, none, .call (.c (.fn n134 [] [])) [(.t n29)] .raw⟩])
 (.block n0 (.range (.t n30) [n31, n32] (.seq (.ops [⟨some n12, none, .mv (.t n31)⟩])
 (.ops [⟨some n13, none, .mv (.t n32)⟩])) (.block n1 (.seq (.ops [⟨some n33, none, .load none (.t n10)⟩, ⟨some n34, none, .mv (.t n12)⟩, ⟨some n35, none, .load none (.t n11)⟩, ⟨some n36, none, .iaddr n1 (.t n33) (.t n34)⟩, ⟨none, none, .store n1 (.t n36) (.t n35)⟩])
 (.ops [⟨some n37, none, .load none (.t n11)⟩, ⟨some n38, none, .mv (.t n13)⟩, ⟨some n39, none, .bin .mul (.t n37) (.t n38)⟩, ⟨none, none, .store n1 (.t n11) (.t n39)⟩]))))))
 (.seq (.seq (.ops [⟨some n40, none, .load none (.t n5)⟩, ⟨some n41, none, .len (.t n40)⟩, ⟨some n42, none, .load none (.t n11)⟩, ⟨some n43, none, .bin .neq (.t n41) (.t n42)⟩, ⟨some n44, none, .mv (.t n43)⟩, ⟨some n45, (some (n44, false)), .load none (.t n5)⟩, ⟨some n46, (some (n44, false)), .call (.c (.fn n135 [] [])) [(.t n45), (.c (.fn n136 [] []))] .borrow⟩, ⟨some n47, (some (n44, false)), .un .not (.t n46)⟩, ⟨some n48, none, .pick (.t n44) (.c (.d (.bool true))) (.t n47)⟩])
 (.cond (.t n48) (.seq (.ops [⟨some n49, none, .build [.nil, .nil, .nil, .nil, (.int .i64 (.l (i n0)))] []⟩, ⟨none, none, .store n5 (.t n6) (.t n49)⟩, ⟨some n7, none, .mv (k n4)⟩])
 .ret)
 .skip))
 (.seq (.ops [⟨some n14, none, .alloc [(.raw .nilFunc)]⟩])
 (.seq (.ops [⟨some n50, none, .mkfn n137 [] [(.t n4), (.t n9), (.t n5), (.t n3), (.t n14), (.t n10)]⟩, ⟨none, none, .store n1 (.t n14) (.t n50)⟩])
 (.seq (.draw n0 [⟨⟨some n51, none, .load none (.t n9)⟩, n0, n0, [], [], false, true⟩, ⟨⟨some n52, none, .load none (.t n14)⟩, n1, n0, [], [], false, false⟩, ⟨⟨some n53, none, .call (.t n52) [(k n0), (k n0)] .raw⟩, n2, n0, [], [n1], false, false⟩, ⟨⟨some n54, none, .nilchk (.t n51)⟩, n3, n0, [], [], false, false⟩, ⟨⟨some n55, none, .faddr n2 (.t n54)⟩, n4, n0, [], [], false, false⟩, ⟨⟨some n56, none, .faddr n4 (.t n55)⟩, n5, n0, [], [], false, false⟩, ⟨⟨none, none, .store n1 (.t n56) (.t n53)⟩, n6, n0, [], [n5, n2, n0, n1, n4, n3], true, false⟩])
 (.seq (.ops [⟨some n57, none, .load none (.t n9)⟩, ⟨some n58, none, .nilchk (.t n57)⟩, ⟨some n59, none, .faddr n2 (.t n58)⟩, ⟨some n60, none, .load (some n5) (.t n59)⟩, ⟨none, none, .store n5 (.t n6) (.t n60)⟩, ⟨some n7, none, .mv (k n0)⟩])
 .ret))))))))))
def x95 : XFn := ⟨a95, n61, [(.c n6 (some n5)), (.t n7)], c95⟩
def a96 : Ann := ⟨[], []⟩
def c96 : ICode :=
 (.seq (.ops [⟨some n4, none, .mv (k n0)⟩])
 (.seq (.seq (.ops [⟨some n6, none, .mv (.t n0)⟩, ⟨some n7, none, .len (.t n6)⟩, ⟨some n8, none, .mv (k n0)⟩])
 (.block n0 (.loop (.seq (.ops [⟨some n9, none, .bin .lss (.t n8) (.t n7)⟩])
 (.seq (.cond (.t n9) .skip
 (.exit n0))
 (.seq (.block n1 (.seq (.ops [⟨some n10, none, .mv (.t n8)⟩, ⟨some n5, none, .mv (.t n10)⟩])
 (.seq (.ops [⟨some n11, none, .mv (.t n1)⟩, ⟨some n12, none, .mv (.t n0)⟩, ⟨some n13, none, .mv (.t n5)⟩, ⟨some n14, none, .iaddr n1 (.t n12) (.t n13)⟩, ⟨some n15, none, .load none (.t n14)⟩, ⟨some n16, none, .bin .eql (.t n11) (.t n15)⟩])
 (.cond (.t n16) (.seq (.ops [⟨some n17, none, .mv (.t n5)⟩, ⟨some n4, none, .mv (.t n17)⟩])
 .ret)
 .skip))))
 (.ops [⟨some n18, none, .bin .add (.t n8) (k n1)⟩, ⟨some n8, none, .mv (.t n18)⟩])))))))
 (.seq (.ops [⟨some n4, none, .mv (.c (.d (.int .i64 (.l (.negSucc n0)))))⟩])
 .ret)))
def x96 : XFn := ⟨a96, n19, [(.t n4)], c96⟩
def a97 : Ann := ⟨[(n1, n5, n2), (n5, n6, n2), (n6, n4, n1)], []⟩
def c97 : ICode :=
 (.seq (.ops [⟨some n6, none, .mv (.c (.d .nil))⟩])
 (.seq (.ops [⟨some n8, none, .mv (.t n0)⟩, ⟨some n9, none, .mv (.t n1)⟩, ⟨some n10, none, .mv (.t n2)⟩, ⟨some n11, none, .mv (.t n0)⟩, ⟨some n12, none, .len (.t n11)⟩, ⟨some n13, none, .slchk n1 (.t n8) (some (.t n9)) (some (.t n10)) (some (.t n12))⟩])
 (.seq (.seq (.ops [⟨some n14, none, .mv (.t n1)⟩, ⟨some n15, none, .mv (.t n2)⟩, ⟨some n16, none, .bin .eql (.t n14) (.t n15)⟩])
 (.cond (.t n16) (.seq (.ops [⟨some n17, none, .mv (.t n0)⟩, ⟨some n6, none, .mv (.t n17)⟩])
 .ret)
 .skip))
 (.seq (.ops [⟨some n18, none, .mv (.t n0)⟩, ⟨some n19, none, .len (.t n18)⟩, ⟨some n7, none, .mv (.t n19)⟩])
 (.seq (.draw n0 [⟨⟨some n20, none, .mv (.t n0)⟩, n0, n0, [], [], false, false⟩, ⟨⟨some n21, none, .mv (.t n1)⟩, n1, n0, [], [], false, false⟩, ⟨⟨some n22, none, .slice n1 (.t n20) none (some (.t n21)) none⟩, n2, n0, [], [], false, false⟩, ⟨⟨some n23, none, .mv (.t n0)⟩, n3, n0, [], [], false, false⟩, ⟨⟨some n24, none, .mv (.t n2)⟩, n4, n0, [], [], false, false⟩, ⟨⟨some n25, none, .slice n1 (.t n23) (some (.t n24)) none none⟩, n5, n0, [], [], false, false⟩, ⟨⟨some n26, none, .appendIn n1 (.t n22) (.t n25)⟩, n6, n0, [], [n2, n5, n0, n1, n3, n4], true, false⟩, ⟨⟨some n0, none, .mv (.t n26)⟩, n7, n0, [], [], false, false⟩])
 (.seq (.ops [⟨some n27, none, .mv (.t n0)⟩, ⟨some n28, none, .mv (.t n0)⟩, ⟨some n29, none, .len (.t n28)⟩, ⟨some n30, none, .mv (.t n7)⟩, ⟨some n31, none, .slicex n1 (.t n27) (some (.t n29)) (some (.t n30))⟩, ⟨none, none, .clear n1 [(.int .i64 (.l (i n0)))] (.t n31)⟩])
 (.seq (.ops [⟨some n32, none, .mv (.t n0)⟩, ⟨some n6, none, .mv (.t n32)⟩])
 .ret)))))))
def x97 : XFn := ⟨a97, n33, [(.t n6)], c97⟩
def a98 : Ann := ⟨[(n3, n0, n1), (n3, n2, n3)], []⟩
def c98 : ICode :=
 (.seq (.ops [⟨some n2, none, .mv (.c (.d .nil))⟩])
 (.seq (.seq (.ops [⟨some n3, none, .mv (.t n0)⟩, ⟨some n4, none, .isnil false (.t n3)⟩])
 (.cond (.t n4) (.seq (.ops [⟨some n2, none, .mv (.c (.d .nil))⟩])
 .ret)
 .skip))
 (.seq (.ops [⟨some n5, none, .bnew n1⟩, ⟨some n6, none, .mv (.t n0)⟩, ⟨some n7, none, .appendN n1 n8 (.t n5) (.t n6) true⟩, ⟨some n2, none, .mv (.t n7)⟩])
 .ret)))
def x98 : XFn := ⟨a98, n8, [(.t n2)], c98⟩
def a99 : Ann := ⟨[(n7, n2, n2), (n9, n8, n3), (n13, n4, n1), (n14, n6, n0), (n19, n4, n2)], []⟩
def c99 : ICode :=
 (.seq (.ops [⟨some n6, none, .mv (.c (.d .nil))⟩])
 (.seq (.ops [⟨some n10, none, .mv (.t n0)⟩, ⟨some n11, none, .mv (.t n1)⟩, ⟨some n12, none, .slice n1 (.t n10) (some (.t n11)) none none⟩])
 (.seq (.ops [⟨some n13, none, .mv (.t n2)⟩, ⟨some n14, none, .len (.t n13)⟩, ⟨some n7, none, .mv (.t n14)⟩])
 (.seq (.seq (.ops [⟨some n15, none, .mv (.t n7)⟩, ⟨some n16, none, .bin .eql (.t n15) (k n0)⟩])
 (.cond (.t n16) (.seq (.ops [⟨some n17, none, .mv (.t n0)⟩, ⟨some n6, none, .mv (.t n17)⟩])
 .ret)
 .skip))
 (.seq (.ops [⟨some n18, none, .mv (.t n0)⟩, ⟨some n19, none, .len (.t n18)⟩, ⟨some n8, none, .mv (.t n19)⟩])
 (.seq (.seq (.ops [⟨some n20, none, .mv (.t n1)⟩, ⟨some n21, none, .mv (.t n8)⟩, ⟨some n22, none, .bin .eql (.t n20) (.t n21)⟩])
 (.cond (.t n22) (.seq (.ops [⟨some n23, none, .mv (.t n0)⟩, ⟨some n24, none, .mv (.t n2)⟩, ⟨some n25, none, .appendIn n1 (.t n23) (.t n24)⟩, ⟨some n6, none, .mv (.t n25)⟩])
 .ret)
 .skip))
 (.seq (.seq (.ops [⟨some n26, none, .mv (.t n8)⟩, ⟨some n27, none, .mv (.t n7)⟩, ⟨some n28, none, .bin .add (.t n26) (.t n27)⟩, ⟨some n29, none, .mv (.t n0)⟩, ⟨some n30, none, .cap (.t n29)⟩, ⟨some n31, none, .bin .gtr (.t n28) (.t n30)⟩])
 (.cond (.t n31) (.seq (.ops [⟨some n32, none, .mv (.t n0)⟩, ⟨some n33, none, .mv (.t n1)⟩, ⟨some n34, none, .slice n1 (.t n32) none (some (.t n33)) none⟩, ⟨some n35, none, .mv (.t n8)⟩, ⟨some n36, none, .mv (.t n7)⟩, ⟨some n37, none, .bin .add (.t n35) (.t n36)⟩, ⟨some n38, none, .mv (.t n1)⟩, ⟨some n39, none, .bin .sub (.t n37) (.t n38)⟩, ⟨some n40, none, .bad⟩, ⟨some n9, none, .mv (.t n40)⟩])
 (.seq (.ops [⟨some n41, none, .mv (.t n9)⟩, ⟨some n42, none, .mv (.t n1)⟩, ⟨some n43, none, .slice n1 (.t n41) (some (.t n42)) none none⟩, ⟨some n44, none, .mv (.t n2)⟩, ⟨some n45, none, .copy n1 (.t n43) (.t n44)⟩])
 (.seq (.draw n0 [⟨⟨some n46, none, .mv (.t n9)⟩, n0, n0, [], [], false, false⟩, ⟨⟨some n47, none, .mv (.t n1)⟩, n1, n0, [], [], false, false⟩, ⟨⟨some n48, none, .mv (.t n7)⟩, n2, n0, [], [], false, false⟩, ⟨⟨some n49, none, .bin .add (.t n47) (.t n48)⟩, n3, n0, [], [], false, false⟩, ⟨⟨some n50, none, .slice n1 (.t n46) (some (.t n49)) none none⟩, n4, n0, [], [], false, false⟩, ⟨⟨some n51, none, .mv (.t n0)⟩, n5, n0, [], [], false, false⟩, ⟨⟨some n52, none, .mv (.t n1)⟩, n6, n0, [], [], false, false⟩, ⟨⟨some n53, none, .slice n1 (.t n51) (some (.t n52)) none none⟩, n7, n0, [], [], false, false⟩, ⟨⟨some n54, none, .copy n1 (.t n50) (.t n53)⟩, n8, n0, [], [n4, n7, n0, n3, n1, n2, n5, n6], true, false⟩])
 (.seq (.ops [⟨some n55, none, .mv (.t n9)⟩, ⟨some n6, none, .mv (.t n55)⟩])
 .ret))))
 .skip))
 (.seq (.ops [⟨some n56, none, .mv (.t n0)⟩, ⟨some n57, none, .mv (.t n8)⟩, ⟨some n58, none, .mv (.t n7)⟩, ⟨some n59, none, .bin .add (.t n57) (.t n58)⟩, ⟨some n60, none, .slicex n1 (.t n56) none (some (.t n59))⟩, ⟨some n0, none, .mv (.t n60)⟩])
 (.seq (.seq (.ops [⟨some n61, none, .mv (.t n2)⟩, ⟨some n62, none, .mv (.t n0)⟩, ⟨some n63, none, .mv (.t n1)⟩, ⟨some n64, none, .mv (.t n7)⟩, ⟨some n65, none, .bin .add (.t n63) (.t n64)⟩, ⟨some n66, none, .slice n1 (.t n62) (some (.t n65)) none none⟩, ⟨some n67, none, .ovl (.t n61) (.t n66)⟩, ⟨some n68, none, .un .not (.t n67)⟩])
 (.cond (.t n68) (.seq (.draw n0 [⟨⟨some n69, none, .mv (.t n0)⟩, n0, n0, [], [], false, false⟩, ⟨⟨some n70, none, .mv (.t n1)⟩, n1, n0, [], [], false, false⟩, ⟨⟨some n71, none, .mv (.t n7)⟩, n2, n0, [], [], false, false⟩, ⟨⟨some n72, none, .bin .add (.t n70) (.t n71)⟩, n3, n0, [], [], false, false⟩, ⟨⟨some n73, none, .slice n1 (.t n69) (some (.t n72)) none none⟩, n4, n0, [], [], false, false⟩, ⟨⟨some n74, none, .mv (.t n0)⟩, n5, n0, [], [], false, false⟩, ⟨⟨some n75, none, .mv (.t n1)⟩, n6, n0, [], [], false, false⟩, ⟨⟨some n76, none, .slice n1 (.t n74) (some (.t n75)) none none⟩, n7, n0, [], [], false, false⟩, ⟨⟨some n77, none, .copy n1 (.t n73) (.t n76)⟩, n8, n0, [], [n4, n7, n0, n3, n1, n2, n5, n6], true, false⟩])
 (.seq (.ops [⟨some n78, none, .mv (.t n0)⟩, ⟨some n79, none, .mv (.t n1)⟩, ⟨some n80, none, .slice n1 (.t n78) (some (.t n79)) none none⟩, ⟨some n81, none, .mv (.t n2)⟩, ⟨some n82, none, .copy n1 (.t n80) (.t n81)⟩])
 (.seq (.ops [⟨some n83, none, .mv (.t n0)⟩, ⟨some n6, none, .mv (.t n83)⟩])
 .ret)))
 .skip))
 (.seq (.ops [⟨some n84, none, .mv (.t n0)⟩, ⟨some n85, none, .mv (.t n8)⟩, ⟨some n86, none, .slice n1 (.t n84) (some (.t n85)) none none⟩, ⟨some n87, none, .mv (.t n2)⟩, ⟨some n88, none, .copy n1 (.t n86) (.t n87)⟩])
 (.seq (.ops [⟨some n89, none, .mv (.t n0)⟩, ⟨some n90, none, .mv (.t n1)⟩, ⟨some n91, none, .slice n1 (.t n89) (some (.t n90)) none none⟩, ⟨some n92, none, .mv (.t n7)⟩, ⟨some n93, none, .call (.c (.fn n141 [] [])) [(.t n91), (.t n92)] .raw⟩])
 (.seq (.ops [⟨some n94, none, .mv (.t n0)⟩, ⟨some n6, none, .mv (.t n94)⟩])
 .ret))))))))))))
def x99 : XFn := ⟨a99, n95, [(.t n6)], c99⟩
def a100 : Ann := ⟨[(n2, n2, n2), (n6, n2, n0), (n6, n14, n3), (n6, n15, n2)], []⟩
def c100 : ICode :=
 (.seq (.ops [⟨some n5, none, .mv (.c (.d (.bool false)))⟩])
 (.seq (.seq (.ops [⟨some n7, none, .mv (.t n0)⟩, ⟨some n8, none, .len (.t n7)⟩, ⟨some n9, none, .faddr n0 (.t n1)⟩, ⟨some n10, none, .load none (.t n9)⟩, ⟨some n11, none, .len (.t n10)⟩, ⟨some n12, none, .bin .eql (.t n8) (.t n11)⟩])
 (.cond (.t n12) (.seq (.ops [⟨some n13, none, .load none (.t n2)⟩, ⟨some n14, none, .mv (.t n0)⟩, ⟨some n15, none, .call (.t n13) [(.t n14)] .raw⟩, ⟨some n5, none, .mv (.t n15)⟩])
 .ret)
 .skip))
 (.seq (.seq (.ops [⟨some n16, none, .faddr n0 (.t n1)⟩, ⟨some n17, none, .load none (.t n16)⟩, ⟨some n18, none, .len (.t n17)⟩, ⟨some n19, none, .mv (k n0)⟩])
 (.block n0 (.loop (.seq (.ops [⟨some n20, none, .bin .lss (.t n19) (.t n18)⟩])
 (.seq (.cond (.t n20) .skip
 (.exit n0))
 (.seq (.block n1 (.seq (.ops [⟨some n21, none, .mv (.t n19)⟩, ⟨some n6, none, .mv (.t n21)⟩])
 (.seq (.draw n0 [⟨⟨some n22, none, .mv (.t n0)⟩, n0, n0, [], [], false, false⟩, ⟨⟨some n23, none, .mv (.t n6)⟩, n1, n0, [], [], false, false⟩, ⟨⟨some n24, none, .call (.c (.fn n101 [] [])) [(.t n22), (.t n23)] .borrow⟩, n2, n0, [], [n0, n1], true, false⟩, ⟨⟨some n25, none, .un .not (.t n24)⟩, n3, n0, [], [], false, false⟩, ⟨⟨some n26, none, .mv (.t n25)⟩, n4, n0, [], [], false, false⟩, ⟨⟨some n28, (some (n26, true)), .mv (.t n0)⟩, n6, n0, [], [], false, true⟩, ⟨⟨some n29, (some (n26, true)), .mv (.t n0)⟩, n7, n0, [], [], false, true⟩, ⟨⟨some n30, (some (n26, true)), .len (.t n29)⟩, n8, n0, [], [], false, true⟩, ⟨⟨some n31, (some (n26, true)), .mv (.t n0)⟩, n9, n0, [], [], false, true⟩, ⟨⟨some n32, (some (n26, true)), .len (.t n31)⟩, n10, n0, [], [], false, true⟩, ⟨⟨some n33, (some (n26, true)), .slice n1 (.t n28) none (some (.t n30)) (some (.t n32))⟩, n11, n0, [], [], false, true⟩, ⟨⟨some n34, (some (n26, true)), .mv (.t n6)⟩, n12, n0, [], [], false, false⟩, ⟨⟨some n27, (some (n26, true)), .load none (.t n3)⟩, n5, n0, [], [], false, true⟩, ⟨⟨some n35, (some (n26, true)), .bslice n1 n1 [(.int .i64 (.l (i n0)))] [(n0, (.t n34))] false⟩, n13, n0, [], [n12, n4, n3, n2, n0, n1], false, false⟩, ⟨⟨some n36, (some (n26, true)), .appendN n1 n8 (.t n33) (.t n35) true⟩, n14, n0, [], [n11, n13, n4, n6, n8, n10, n3, n2, n0, n1, n7, n9, n12], false, false⟩, ⟨⟨some n37, (some (n26, true)), .call (.t n27) [(.t n36)] .raw⟩, n15, n0, [], [n5, n14, n4, n3, n2, n0, n1, n11, n13, n6, n8, n10, n7, n9, n12], true, false⟩, ⟨⟨some n38, (some (n26, true)), .un .not (.t n37)⟩, n16, n0, [], [], false, false⟩, ⟨⟨some n39, none, .pick (.t n26) (.t n38) (.c (.d (.bool false)))⟩, n17, n0, [], [], false, false⟩])
 (.cond (.t n39) (.seq (.ops [⟨some n5, none, .mv (.c (.d (.bool false)))⟩])
 .ret)
 .skip))))
 (.ops [⟨some n40, none, .bin .add (.t n19) (k n1)⟩, ⟨some n19, none, .mv (.t n40)⟩])))))))
 (.seq (.ops [⟨some n5, none, .mv (.c (.d (.bool true)))⟩])
 .ret))))
def x100 : XFn := ⟨a100, n41, [(.t n5)], c100⟩
def a101 : Ann := ⟨[(n1, n2, n0)], []⟩
def c101 : ICode :=
 (.seq (.ops [⟨some n4, none, .mv (.c (.d (.bool false)))⟩])
 (.seq (.ops [⟨some n5, none, .mv (.t n0)⟩, ⟨some n6, none, .mv (.t n1)⟩, ⟨some n7, none, .call (.c (.fn n96 [] [])) [(.t n5), (.t n6)] .borrow⟩, ⟨some n8, none, .bin .geq (.t n7) (k n0)⟩, ⟨some n4, none, .mv (.t n8)⟩])
 .ret))
def x101 : XFn := ⟨a101, n9, [(.t n4)], c101⟩
def a102 : Ann := ⟨[(n1, n2, n2)], []⟩
def c102 : ICode :=
 (.seq (.ops [⟨some n4, none, .mv (.c (.d (.bool false)))⟩])
 (.seq (.ops [⟨some n5, none, .mv (.t n0)⟩, ⟨some n6, none, .mv (.t n1)⟩, ⟨some n7, none, .call (.c (.fn n142 [] [])) [(.t n5), (.t n6)] .raw⟩, ⟨some n8, none, .bin .geq (.t n7) (k n0)⟩, ⟨some n4, none, .mv (.t n8)⟩])
 .ret))
def x102 : XFn := ⟨a102, n9, [(.t n4)], c102⟩
def a103 : Ann := ⟨[(n1, n5, n0), (n1, n15, n0)], []⟩
def c103 : ICode :=
 (.seq (.ops [⟨some n1, none, .box (.t n0)⟩, ⟨some n2, none, .mv (.c (.d (.bool false)))⟩])
 (.seq (.ops [⟨some n3, none, .faddr n1 (.t n1)⟩, ⟨some n4, none, .load none (.t n3)⟩, ⟨some n5, none, .faddr n2 (.t n1)⟩, ⟨some n6, none, .load none (.t n5)⟩, ⟨some n7, none, .bslice n1 n2 [(.int .i64 (.l (i n0)))] [(n0, (.t n4)), (n1, (.t n6))] false⟩, ⟨some n8, none, .call (.c (.fn n104 [] [])) [(.c (.d (.int .i64 (.l (.negSucc n9998))))), (k n9999), (.t n7)] .borrow⟩, ⟨some n9, none, .un .not (.t n8)⟩, ⟨some n10, none, .mv (.t n9)⟩, ⟨some n11, (some (n10, false)), .faddr n2 (.t n1)⟩, ⟨some n12, (some (n10, false)), .load none (.t n11)⟩, ⟨some n13, (some (n10, false)), .faddr n1 (.t n1)⟩, ⟨some n14, (some (n10, false)), .load none (.t n13)⟩, ⟨some n15, (some (n10, false)), .bin .sub (.t n12) (.t n14)⟩, ⟨some n16, (some (n10, false)), .bin .add (.t n15) (k n1)⟩, ⟨some n17, (some (n10, false)), .bslice n1 n1 [(.int .i64 (.l (i n0)))] [(n0, (.t n16))] false⟩, ⟨some n18, (some (n10, false)), .call (.c (.fn n104 [] [])) [(k n1), (k n12), (.t n17)] .borrow⟩, ⟨some n19, (some (n10, false)), .un .not (.t n18)⟩, ⟨some n20, none, .pick (.t n10) (.c (.d (.bool true))) (.t n19)⟩, ⟨some n2, none, .mv (.t n20)⟩])
 .ret))
def x103 : XFn := ⟨a103, n21, [(.t n2)], c103⟩
def a104 : Ann := ⟨[(n1, n2, n2)], []⟩
def c104 : ICode :=
 (.seq (.ops [⟨some n3, none, .box (.t n0)⟩, ⟨some n4, none, .box (.t n1)⟩, ⟨some n6, none, .mv (.c (.d (.bool false)))⟩])
 (.seq (.ops [⟨some n7, none, .mv (.t n2)⟩, ⟨some n8, none, .mkfn n144 [] [(.t n3), (.t n4)]⟩, ⟨some n9, none, .call (.c (.fn n143 [] [])) [(.t n7), (.t n8)] .raw⟩, ⟨some n10, none, .un .not (.t n9)⟩, ⟨some n6, none, .mv (.t n10)⟩])
 .ret))
def x104 : XFn := ⟨a104, n11, [(.t n6)], c104⟩
def a105 : Ann := ⟨[(n2, n11, n0), (n4, n1, n3), (n4, n4, n3), (n5, n4, n0), (n5, n8, n0)], []⟩
def c105 : ICode :=
 (.seq (.ops [⟨some n2, none, .box (.t n0)⟩, ⟨some n4, none, .mv (.c (.d (.bool false)))⟩])
 (.seq (.ops [⟨some n8, none, .faddr n1 (.t n2)⟩, ⟨some n9, none, .load none (.t n8)⟩, ⟨some n10, none, .mv (.t n1)⟩, ⟨some n11, none, .iaddr n5 (.t n9) (.t n10)⟩, ⟨some n12, none, .load (some n5) (.t n11)⟩, ⟨some n5, none, .alloc [(.int .u8 (.l (i n0))), (.int .i64 (.l (i n0))), (.int .i64 (.l (i n0))), (.int .i64 (.l (i n0))), (.int .i64 (.l (i n0)))]⟩, ⟨none, none, .store n5 (.t n5) (.t n12)⟩])
 (.seq (.seq (.ops [⟨some n13, none, .faddr n0 (.t n5)⟩, ⟨some n14, none, .load none (.t n13)⟩, ⟨some n15, none, .bin .lss (.t n14) (.c (.d (.int .u8 (.l (i n1)))))⟩, ⟨some n16, none, .mv (.t n15)⟩, ⟨some n17, (some (n16, false)), .faddr n0 (.t n5)⟩, ⟨some n18, (some (n16, false)), .load none (.t n17)⟩, ⟨some n19, (some (n16, false)), .bin .gtr (.t n18) (.c (.d (.int .u8 (.l (i n17)))))⟩, ⟨some n20, none, .pick (.t n16) (.c (.d (.bool true))) (.t n19)⟩, ⟨some n21, none, .mv (.t n20)⟩, ⟨some n22, (some (n21, false)), .load (some n3) (.t n2)⟩, ⟨some n23, (some (n21, false)), .load (some n5) (.t n5)⟩, ⟨some n24, (some (n21, false)), .call (.c (.fn n145 [] [])) [(.t n22), (.t n23)] .borrow⟩, ⟨some n25, (some (n21, false)), .un .not (.t n24)⟩, ⟨some n26, none, .pick (.t n21) (.c (.d (.bool true))) (.t n25)⟩])
 (.cond (.t n26) (.seq (.ops [⟨some n4, none, .mv (.c (.d (.bool false)))⟩])
 .ret)
 .skip))
 (.seq (.draw n1 [⟨⟨some n29, none, .faddr n0 (.t n5)⟩, n2, n0, [], [], false, false⟩, ⟨⟨some n27, none, .load (some n5) (.t n5)⟩, n0, n0, [n0], [], false, false⟩, ⟨⟨some n30, none, .load none (.t n29)⟩, n3, n0, [n0], [], false, false⟩, ⟨⟨some n6, none, .alloc [(.int .i64 (.l (i n0))), (.int .i64 (.l (i n0))), (.int .i64 (.l (i n0)))]⟩, n5, n0, [], [], false, false⟩, ⟨⟨some n28, none, .call (.c (.fn n146 [] [])) [(.t n27)] .data⟩, n1, n0, [], [], false, false⟩, ⟨⟨some n31, none, .call (.c (.fn n147 [] [])) [(.t n30)] .data⟩, n4, n0, [], [], false, false⟩, ⟨⟨none, none, .store n3 (.t n6) (.t n28)⟩, n6, n1, [], [n5, n1, n4, n0, n3, n2], true, false⟩, ⟨⟨some n7, none, .mv (.t n31)⟩, n7, n1, [], [], false, false⟩])
 (.seq (.ops [⟨some n32, none, .mv (.t n1)⟩, ⟨some n33, none, .bin .sub (.t n32) (k n1)⟩, ⟨some n34, none, .mv (.t n7)⟩, ⟨some n35, none, .slarr n3 (.t n6) none (some (.t n34))⟩, ⟨some n36, none, .call (.c (.fn n104 [] [])) [(k n0), (.t n33), (.t n35)] .borrow⟩, ⟨some n37, none, .mv (.t n36)⟩, ⟨some n38, (some (n37, true)), .mv (.t n7)⟩, ⟨some n39, (some (n37, true)), .slarr n3 (.t n6) (some (.t n38)) none⟩, ⟨some n40, (some (n37, true)), .call (.c (.fn n104 [] [])) [(k n0), (k n0), (.t n39)] .borrow⟩, ⟨some n41, none, .pick (.t n37) (.t n40) (.c (.d (.bool false)))⟩, ⟨some n4, none, .mv (.t n41)⟩])
 .ret)))))
def x105 : XFn := ⟨a105, n42, [(.t n4)], c105⟩
def a107 : Ann := ⟨[(n1, n2, n2)], []⟩
def c107 : ICode :=
 (.seq (.ops [⟨some n3, none, .box (.t n1)⟩, ⟨some n4, none, .mv (.c (.d (.bool false)))⟩])
 (.seq (.ops [⟨some n5, none, .mv (.t n0)⟩, ⟨some n6, none, .mkfn n148 [] [(.t n3)]⟩, ⟨some n7, none, .call (.c (.fn n143 [] [])) [(.t n5), (.t n6)] .raw⟩, ⟨some n8, none, .un .not (.t n7)⟩, ⟨some n4, none, .mv (.t n8)⟩])
 .ret))
def x107 : XFn := ⟨a107, n9, [(.t n4)], c107⟩
def a108 : Ann := ⟨[], []⟩
def c108 : ICode :=
 (.seq (.ops [⟨some n4, none, .mv (.c (.d (.bool false)))⟩])
 (.seq (.ops [⟨some n5, none, .mv (.t n0)⟩, ⟨some n6, none, .load none (.t n1)⟩, ⟨some n7, none, .bin .geq (.t n5) (.t n6)⟩, ⟨some n8, none, .mv (.t n7)⟩, ⟨some n9, (some (n8, true)), .mv (.t n0)⟩, ⟨some n10, (some (n8, true)), .load none (.t n2)⟩, ⟨some n11, (some (n8, true)), .bin .leq (.t n9) (.t n10)⟩, ⟨some n12, none, .pick (.t n8) (.t n11) (.c (.d (.bool false)))⟩, ⟨some n4, none, .mv (.t n12)⟩])
 .ret))
def x108 : XFn := ⟨a108, n13, [(.t n4)], c108⟩
def a109 : Ann := ⟨[(n3, n1, n0), (n13, n1, n2), (n14, n1, n2), (n15, n3, n1), (n15, n4, n0)], []⟩
def c109 : ICode :=
 (.seq (.ops [⟨some n4, none, .mv (k n0)⟩])
 (.seq (.block n0 (.seq (.ops [⟨some n10, none, .mv (.t n0)⟩, ⟨some n11, none, .len (.t n10)⟩, ⟨some n12, none, .bin .gtr (.t n11) (k n6)⟩, ⟨some n9, none, .mv (.t n12)⟩])
 (.cond (.t n9) (.seq (.ops [⟨some n4, none, .mv (k n5)⟩])
 .ret)
 (.seq (.ops [⟨some n14, none, .mv (.t n0)⟩, ⟨some n15, none, .call (.c (.fn n149 [] [])) [(k n1), (k n12), (.t n14)] .borrow⟩, ⟨some n16, none, .un .not (.t n15)⟩, ⟨some n13, none, .mv (.t n16)⟩])
 (.cond (.t n13) (.seq (.ops [⟨some n4, none, .mv (k n3)⟩])
 .ret)
 .skip)))))
 (.seq (.ops [⟨some n5, none, .mv (k n1)⟩])
 (.seq (.seq (.ops [⟨some n17, none, .mv (.t n0)⟩, ⟨some n18, none, .len (.t n17)⟩, ⟨some n19, none, .mv (k n0)⟩])
 (.block n1 (.loop (.seq (.ops [⟨some n20, none, .bin .lss (.t n19) (.t n18)⟩])
 (.seq (.cond (.t n20) .skip
 (.exit n1))
 (.seq (.block n2 (.seq (.ops [⟨some n21, none, .iaddr n1 (.t n17) (.t n19)⟩, ⟨some n22, none, .load none (.t n21)⟩, ⟨some n7, none, .mv (.t n22)⟩])
 (.ops [⟨some n23, none, .mv (.t n5)⟩, ⟨some n24, none, .mv (.t n7)⟩, ⟨some n25, none, .bin .mul (.t n23) (.t n24)⟩, ⟨some n5, none, .mv (.t n25)⟩])))
 (.ops [⟨some n26, none, .bin .add (.t n19) (k n1)⟩, ⟨some n19, none, .mv (.t n26)⟩])))))))
 (.seq (.seq (.ops [⟨some n27, none, .mv (.t n5)⟩, ⟨some n28, none, .bin .gtr (.t n27) (k n2000)⟩])
 (.cond (.t n28) (.seq (.ops [⟨some n4, none, .mv (k n5)⟩])
 .ret)
 .skip))
 (.seq (.ops [⟨some n29, none, .mv (.t n1)⟩, ⟨some n30, none, .call (.c (.fn n98 [] [])) [(.t n29)] .raw⟩, ⟨some n8, none, .mv (.t n30)⟩])
 (.seq (.ops [⟨some n31, none, .mv (.t n8)⟩, ⟨some n32, none, .call (.c (.fn n150 [] [])) [(.t n31)] .raw⟩])
 (.seq (.seq (.ops [⟨some n33, none, .mv (.t n8)⟩, ⟨some n34, none, .mv (.t n0)⟩, ⟨some n35, none, .len (.t n34)⟩, ⟨some n36, none, .call (.c (.fn n151 [] [])) [(.t n35)] .share⟩, ⟨some n37, none, .call (.c (.fn n122 [] [])) [(.t n33), (.t n36)] .borrow⟩, ⟨some n38, none, .un .not (.t n37)⟩])
 (.cond (.t n38) (.seq (.ops [⟨some n4, none, .mv (k n4)⟩])
 .ret)
 .skip))
 (.seq (.ops [⟨some n4, none, .mv (k n0)⟩])
 .ret)))))))))
def x109 : XFn := ⟨a109, n39, [(.t n4)], c109⟩
def a112 : Ann := ⟨[], []⟩
def c112 : ICode :=
 (.seq (.ops [⟨some n4, none, .mv (k n0)⟩])
 (.seq (.ops [⟨some n5, none, .mv (k n0)⟩])
 (.seq (.seq (.ops [⟨some n6, none, .mv (k n0)⟩])
 (.block n0 (.loop (.seq (.seq (.ops [⟨some n7, none, .mv (.t n6)⟩, ⟨some n8, none, .mv (.t n0)⟩, ⟨some n9, none, .len (.t n8)⟩, ⟨some n10, none, .bin .lss (.t n7) (.t n9)⟩])
 (.cond (.t n10) .skip
 (.exit n0)))
 (.seq (.block n1 (.draw n0 [⟨⟨some n13, none, .mv (.t n5)⟩, n0, n0, [], [], false, false⟩, ⟨⟨some n14, none, .mv (.t n0)⟩, n1, n0, [], [], false, false⟩, ⟨⟨some n15, none, .mv (.t n6)⟩, n2, n0, [], [], false, false⟩, ⟨⟨some n16, none, .iaddr n1 (.t n14) (.t n15)⟩, n3, n0, [], [], false, false⟩, ⟨⟨some n19, none, .mv (.t n1)⟩, n6, n0, [], [], false, false⟩, ⟨⟨some n20, none, .mv (.t n6)⟩, n7, n0, [], [], false, false⟩, ⟨⟨some n21, none, .iaddr n1 (.t n19) (.t n20)⟩, n8, n0, [], [], false, false⟩, ⟨⟨some n17, none, .load none (.t n16)⟩, n4, n0, [], [], false, false⟩, ⟨⟨some n18, none, .bin .mul (.t n13) (.t n17)⟩, n5, n0, [], [], false, false⟩, ⟨⟨some n22, none, .load none (.t n21)⟩, n9, n0, [], [], false, false⟩, ⟨⟨some n23, none, .bin .add (.t n18) (.t n22)⟩, n10, n0, [], [], false, false⟩, ⟨⟨some n5, none, .mv (.t n23)⟩, n11, n0, [], [], false, false⟩]))
 (.ops [⟨some n11, none, .mv (.t n6)⟩, ⟨some n12, none, .bin .add (.t n11) (k n1)⟩, ⟨some n6, none, .mv (.t n12)⟩]))))))
 (.seq (.ops [⟨some n24, none, .mv (.t n5)⟩, ⟨some n4, none, .mv (.t n24)⟩])
 .ret))))
def x112 : XFn := ⟨a112, n25, [(.t n4)], c112⟩
def a113 : Ann := ⟨[], []⟩
def c113 : ICode :=
 (.seq (.ops [⟨some n1, none, .box (.t n0)⟩, ⟨some n2, none, .mv (.c (.d (.bool false)))⟩])
 (.seq (.seq (.ops [⟨some n3, none, .mv (k n1)⟩])
 (.block n0 (.loop (.seq (.seq (.ops [⟨some n4, none, .mv (.t n3)⟩, ⟨some n5, none, .faddr n1 (.t n1)⟩, ⟨some n6, none, .load none (.t n5)⟩, ⟨some n7, none, .len (.t n6)⟩, ⟨some n8, none, .bin .lss (.t n4) (.t n7)⟩])
 (.cond (.t n8) .skip
 (.exit n0)))
 (.seq (.block n1 (.seq (.draw n0 [⟨⟨some n11, none, .faddr n1 (.t n1)⟩, n0, n0, [], [], false, false⟩, ⟨⟨some n13, none, .mv (.t n3)⟩, n2, n0, [], [], false, false⟩, ⟨⟨some n16, none, .faddr n1 (.t n1)⟩, n5, n0, [], [], false, false⟩, ⟨⟨some n12, none, .load none (.t n11)⟩, n1, n0, [], [], false, false⟩, ⟨⟨some n14, none, .iaddr n1 (.t n12) (.t n13)⟩, n3, n0, [], [], false, false⟩, ⟨⟨some n15, none, .load none (.t n14)⟩, n4, n0, [], [], false, false⟩, ⟨⟨some n17, none, .load none (.t n16)⟩, n6, n0, [], [], false, false⟩, ⟨⟨some n18, none, .iaddr n1 (.t n17) (k n0)⟩, n7, n0, [], [], false, false⟩, ⟨⟨some n19, none, .load none (.t n18)⟩, n8, n0, [], [], false, false⟩, ⟨⟨some n20, none, .bin .neq (.t n15) (.t n19)⟩, n9, n0, [], [], false, false⟩])
 (.cond (.t n20) (.seq (.ops [⟨some n2, none, .mv (.c (.d (.bool false)))⟩])
 .ret)
 .skip)))
 (.ops [⟨some n9, none, .mv (.t n3)⟩, ⟨some n10, none, .bin .add (.t n9) (k n1)⟩, ⟨some n3, none, .mv (.t n10)⟩]))))))
 (.seq (.ops [⟨some n2, none, .mv (.c (.d (.bool true)))⟩])
 .ret)))
def x113 : XFn := ⟨a113, n21, [(.t n2)], c113⟩
def a118 : Ann := ⟨[(n1, n1, n1), (n2, n4, n1), (n2, n6, n0)], []⟩
def c118 : ICode :=
 (.seq (.ops [⟨some n1, none, .box (.t n0)⟩, ⟨some n2, none, .alloc [.nil, .nil, .nil, .nil, .nil, .nil, (.int .i64 (.l (i n0)))]⟩, ⟨some n3, none, .mv (k n0)⟩])
 (.seq (.ops [⟨some n5, none, .load (some n5) (.t n1)⟩, ⟨some n6, none, .call (.c (.fn n156 [] [])) [(.t n5)] .share⟩, ⟨some n4, none, .mv (.t n6)⟩, ⟨some n7, none, .extract (.t n4) n0⟩, ⟨some n8, none, .extract (.t n4) n1⟩, ⟨none, none, .store n7 (.t n2) (.t n7)⟩, ⟨some n3, none, .mv (.t n8)⟩])
 (.seq (.seq (.draw n0 [⟨⟨some n9, none, .mv (.t n3)⟩, n0, n0, [], [], false, false⟩, ⟨⟨some n10, none, .bin .eql (.t n9) (k n0)⟩, n1, n0, [], [], false, false⟩, ⟨⟨some n11, none, .mv (.t n10)⟩, n2, n0, [], [], false, false⟩, ⟨⟨some n12, (some (n11, true)), .load (some n7) (.t n2)⟩, n3, n0, [], [], false, false⟩, ⟨⟨some n14, (some (n11, true)), .load (some n5) (.t n1)⟩, n5, n0, [], [], false, true⟩, ⟨⟨some n13, (some (n11, true)), .call (.c (.fn n158 [] [])) [(.t n12)] .share⟩, n4, n0, [], [n3, n2, n1, n0], false, false⟩, ⟨⟨some n15, (some (n11, true)), .call (.c (.fn n157 [] [])) [(.t n13), (.t n14)] .borrow⟩, n6, n0, [], [n4, n5, n2, n3, n1, n0], true, false⟩, ⟨⟨some n16, (some (n11, true)), .un .not (.t n15)⟩, n7, n0, [], [], false, false⟩, ⟨⟨some n17, none, .pick (.t n11) (.t n16) (.c (.d (.bool false)))⟩, n8, n0, [], [], false, false⟩])
 (.cond (.t n17) (.seq (.ops [⟨some n18, none, .load (some n7) (.t n2)⟩, ⟨none, none, .store n7 (.t n2) (.t n18)⟩, ⟨some n3, none, .mv (k n4)⟩])
 .ret)
 .skip))
 (.seq (.ops [⟨some n19, none, .load (some n7) (.t n2)⟩, ⟨some n20, none, .mv (.t n3)⟩, ⟨none, none, .store n7 (.t n2) (.t n19)⟩, ⟨some n3, none, .mv (.t n20)⟩])
 .ret))))
def x118 : XFn := ⟨a118, n21, [(.c n2 (some n7)), (.t n3)], c118⟩
def a119 : Ann := ⟨[(n3, n6, n0), (n3, n10, n3)], []⟩
def c119 : ICode :=
 (.seq (.ops [⟨some n1, none, .box (.t n0)⟩, ⟨some n2, none, .alloc [.nil]⟩])
 (.seq (.seq (.ops [⟨some n5, none, .faddr n0 (.t n1)⟩, ⟨some n6, none, .load (some n2) (.t n5)⟩, ⟨some n7, none, .mkfn n159 [(.t n6)] []⟩])
 (.block n0 (.range (.t n7) [n8, n9] (.ops [⟨some n4, none, .mv (.t n9)⟩]) (.block n1 (.draw n0 [⟨⟨some n11, none, .faddr n2 (.t n1)⟩, n1, n0, [], [], false, true⟩, ⟨⟨some n12, none, .faddr n2 (.t n11)⟩, n2, n0, [], [], false, true⟩, ⟨⟨some n15, none, .mv (.t n4)⟩, n5, n0, [], [], false, false⟩, ⟨⟨some n10, none, .load none (.t n2)⟩, n0, n0, [], [], false, true⟩, ⟨⟨some n13, none, .load none (.t n12)⟩, n3, n0, [], [], false, true⟩, ⟨⟨some n14, none, .load (some n7) (.t n1)⟩, n4, n0, [], [], false, false⟩, ⟨⟨some n16, none, .call (.c (.fn n160 [] [])) [(.t n14), (.t n15), (.c (.fn n161 [] []))] .borrow⟩, n6, n0, [], [n4, n5], false, false⟩, ⟨⟨some n17, none, .iaddr n2 (.t n13) (.t n16)⟩, n7, n0, [], [], false, false⟩, ⟨⟨some n18, none, .load (some n2) (.t n17)⟩, n8, n0, [], [], false, false⟩, ⟨⟨some n19, none, .bslice n2 n1 [(.int .u8 (.l (i n0))), (.int .i64 (.l (i n0)))] [(n0, (.t n18))] false⟩, n9, n0, [], [n8, n7, n3, n6, n2, n1, n4, n5], false, false⟩, ⟨⟨some n20, none, .appendN n2 n16 (.t n10) (.t n19) true⟩, n10, n0, [], [n0, n9, n6, n8, n7, n3, n2, n1, n4, n5], true, false⟩, ⟨⟨none, none, .store n1 (.t n2) (.t n20)⟩, n11, n0, [], [n10, n0, n1, n2, n3, n4, n5, n6, n7, n8, n9], true, false⟩])))))
 (.seq (.ops [⟨some n21, none, .load none (.t n2)⟩, ⟨none, none, .store n1 (.t n2) (.t n21)⟩])
 .ret)))
def x119 : XFn := ⟨a119, n22, [(.c n2 none)], c119⟩
def a120 : Ann := ⟨[(n1, n2, n2)], []⟩
def c120 : ICode :=
 (.seq (.ops [⟨some n4, none, .mv (.c (.d (.bool false)))⟩])
 (.seq (.ops [⟨some n5, none, .mv (.t n0)⟩, ⟨some n6, none, .mv (.t n1)⟩, ⟨some n7, none, .call (.c (.fn n162 [] [])) [(.t n5), (.t n6)] .raw⟩, ⟨some n8, none, .bin .geq (.t n7) (k n0)⟩, ⟨some n4, none, .mv (.t n8)⟩])
 .ret))
def x120 : XFn := ⟨a120, n9, [(.t n4)], c120⟩
def a121 : Ann := ⟨[(n1, n2, n2)], []⟩
def c121 : ICode :=
 (.seq (.ops [⟨some n2, none, .box (.t n0)⟩, ⟨some n3, none, .mv (.c (.d (.bool false)))⟩])
 (.seq (.ops [⟨some n4, none, .load none (.t n1)⟩, ⟨some n5, none, .load (some n5) (.t n2)⟩, ⟨some n6, none, .call (.t n4) [(.t n5)] .raw⟩, ⟨some n7, none, .un .not (.t n6)⟩, ⟨some n3, none, .mv (.t n7)⟩])
 .ret))
def x121 : XFn := ⟨a121, n8, [(.t n3)], c121⟩
def a122 : Ann := ⟨[], []⟩
def c122 : ICode :=
 (.seq (.ops [⟨some n4, none, .mv (.c (.d (.bool false)))⟩])
 (.seq (.seq (.ops [⟨some n6, none, .mv (.t n0)⟩, ⟨some n7, none, .len (.t n6)⟩, ⟨some n8, none, .mv (.t n1)⟩, ⟨some n9, none, .len (.t n8)⟩, ⟨some n10, none, .bin .neq (.t n7) (.t n9)⟩])
 (.cond (.t n10) (.seq (.ops [⟨some n4, none, .mv (.c (.d (.bool false)))⟩])
 .ret)
 .skip))
 (.seq (.seq (.ops [⟨some n11, none, .mv (.t n0)⟩, ⟨some n12, none, .len (.t n11)⟩, ⟨some n13, none, .mv (k n0)⟩])
 (.block n0 (.loop (.seq (.ops [⟨some n14, none, .bin .lss (.t n13) (.t n12)⟩])
 (.seq (.cond (.t n14) .skip
 (.exit n0))
 (.seq (.block n1 (.seq (.ops [⟨some n15, none, .mv (.t n13)⟩, ⟨some n5, none, .mv (.t n15)⟩])
 (.seq (.draw n0 [⟨⟨some n16, none, .mv (.t n0)⟩, n0, n0, [], [], false, false⟩, ⟨⟨some n17, none, .mv (.t n5)⟩, n1, n0, [], [], false, false⟩, ⟨⟨some n18, none, .iaddr n1 (.t n16) (.t n17)⟩, n2, n0, [], [], false, false⟩, ⟨⟨some n20, none, .mv (.t n1)⟩, n4, n0, [], [], false, false⟩, ⟨⟨some n21, none, .mv (.t n5)⟩, n5, n0, [], [], false, false⟩, ⟨⟨some n22, none, .iaddr n1 (.t n20) (.t n21)⟩, n6, n0, [], [], false, false⟩, ⟨⟨some n19, none, .load none (.t n18)⟩, n3, n0, [], [], false, false⟩, ⟨⟨some n23, none, .load none (.t n22)⟩, n7, n0, [], [], false, false⟩, ⟨⟨some n24, none, .bin .neq (.t n19) (.t n23)⟩, n8, n0, [], [], false, false⟩])
 (.cond (.t n24) (.seq (.ops [⟨some n4, none, .mv (.c (.d (.bool false)))⟩])
 .ret)
 .skip))))
 (.ops [⟨some n25, none, .bin .add (.t n13) (k n1)⟩, ⟨some n13, none, .mv (.t n25)⟩])))))))
 (.seq (.ops [⟨some n4, none, .mv (.c (.d (.bool true)))⟩])
 .ret))))
def x122 : XFn := ⟨a122, n26, [(.t n4)], c122⟩
def a123 : Ann := ⟨[(n4, n14, n2)], []⟩
def c123 : ICode :=
 (.seq (.ops [⟨some n10, none, .mv (.t n1)⟩, ⟨some n11, none, .bin .add (.t n10) (k n1)⟩, ⟨some n8, none, .mv (.t n11)⟩])
 (.block n0 (.loop (.seq (.seq (.ops [⟨some n12, none, .mv (.t n8)⟩, ⟨some n13, none, .mv (.t n2)⟩, ⟨some n14, none, .bin .lss (.t n12) (.t n13)⟩])
 (.cond (.t n14) .skip
 (.exit n0)))
 (.seq (.block n1 (.seq (.ops [⟨some n17, none, .mv (.t n8)⟩, ⟨some n9, none, .mv (.t n17)⟩])
 (.block n2 (.loop (.seq (.seq (.draw n0 [⟨⟨some n18, none, .mv (.t n9)⟩, n0, n0, [], [], false, false⟩, ⟨⟨some n19, none, .mv (.t n1)⟩, n1, n0, [], [], false, false⟩, ⟨⟨some n20, none, .bin .gtr (.t n18) (.t n19)⟩, n2, n0, [], [], false, false⟩, ⟨⟨some n21, none, .mv (.t n20)⟩, n3, n0, [], [], false, false⟩, ⟨⟨some n22, (some (n21, true)), .mv (.t n3)⟩, n4, n0, [], [], false, false⟩, ⟨⟨some n23, (some (n21, true)), .mv (.t n0)⟩, n5, n0, [], [], false, false⟩, ⟨⟨some n24, (some (n21, true)), .mv (.t n9)⟩, n6, n0, [], [], false, false⟩, ⟨⟨some n25, (some (n21, true)), .iaddr n2 (.t n23) (.t n24)⟩, n7, n0, [], [], false, false⟩, ⟨⟨some n27, (some (n21, true)), .mv (.t n0)⟩, n9, n0, [], [], false, false⟩, ⟨⟨some n28, (some (n21, true)), .mv (.t n9)⟩, n10, n0, [], [], false, false⟩, ⟨⟨some n29, (some (n21, true)), .bin .sub (.t n28) (k n1)⟩, n11, n0, [], [], false, false⟩, ⟨⟨some n30, (some (n21, true)), .iaddr n2 (.t n27) (.t n29)⟩, n12, n0, [], [], false, false⟩, ⟨⟨some n26, (some (n21, true)), .load (some n2) (.t n25)⟩, n8, n0, [], [], false, false⟩, ⟨⟨some n31, (some (n21, true)), .load (some n2) (.t n30)⟩, n13, n0, [], [], false, false⟩, ⟨⟨some n32, (some (n21, true)), .call (.t n22) [(.t n26), (.t n31)] .raw⟩, n14, n0, [], [n4, n8, n13, n3, n2, n0, n1, n7, n5, n6, n12, n9, n11, n10], true, false⟩, ⟨⟨some n33, (some (n21, true)), .bin .lss (.t n32) (k n0)⟩, n15, n0, [], [], false, false⟩, ⟨⟨some n34, none, .pick (.t n21) (.t n33) (.c (.d (.bool false)))⟩, n16, n0, [], [], false, false⟩])
 (.cond (.t n34) .skip
 (.exit n2)))
 (.seq (.block n3 (.draw n0 [⟨⟨some n37, none, .mv (.t n0)⟩, n0, n0, [], [], false, false⟩, ⟨⟨some n38, none, .mv (.t n9)⟩, n1, n0, [], [], false, false⟩, ⟨⟨some n39, none, .mv (.t n0)⟩, n2, n0, [], [], false, true⟩, ⟨⟨some n40, none, .mv (.t n9)⟩, n3, n0, [], [], false, true⟩, ⟨⟨some n41, none, .bin .sub (.t n40) (k n1)⟩, n4, n0, [], [], false, true⟩, ⟨⟨some n42, none, .mv (.t n0)⟩, n5, n0, [], [], false, false⟩, ⟨⟨some n43, none, .mv (.t n9)⟩, n6, n0, [], [], false, false⟩, ⟨⟨some n44, none, .bin .sub (.t n43) (k n1)⟩, n7, n0, [], [], false, false⟩, ⟨⟨some n45, none, .iaddr n2 (.t n42) (.t n44)⟩, n8, n0, [], [], false, false⟩, ⟨⟨some n47, none, .mv (.t n0)⟩, n10, n0, [], [], false, false⟩, ⟨⟨some n48, none, .mv (.t n9)⟩, n11, n0, [], [], false, false⟩, ⟨⟨some n49, none, .iaddr n2 (.t n47) (.t n48)⟩, n12, n0, [], [], false, false⟩, ⟨⟨some n46, none, .load (some n2) (.t n45)⟩, n9, n0, [], [], false, false⟩, ⟨⟨some n50, none, .load (some n2) (.t n49)⟩, n13, n0, [], [], false, false⟩, ⟨⟨some n51, none, .iaddr n2 (.t n37) (.t n38)⟩, n14, n0, [], [], false, false⟩, ⟨⟨none, none, .store n2 (.t n51) (.t n46)⟩, n15, n0, [], [n14, n9, n0, n1, n5, n6, n7, n8, n13, n12, n10, n11], false, false⟩, ⟨⟨some n52, none, .iaddr n2 (.t n39) (.t n41)⟩, n16, n0, [], [], false, false⟩, ⟨⟨none, none, .store n2 (.t n52) (.t n50)⟩, n17, n0, [], [n16, n13, n15, n0, n1, n2, n3, n4, n5, n6, n7, n8, n9, n10, n11, n12, n14], true, false⟩]))
 (.ops [⟨some n35, none, .mv (.t n9)⟩, ⟨some n36, none, .bin .sub (.t n35) (k n1)⟩, ⟨some n9, none, .mv (.t n36)⟩])))))))
 (.ops [⟨some n15, none, .mv (.t n8)⟩, ⟨some n16, none, .bin .add (.t n15) (k n1)⟩, ⟨some n8, none, .mv (.t n16)⟩]))))))
def x123 : XFn := ⟨a123, n53, [], c123⟩
def a124 : Ann := ⟨[(n6, n5, n2), (n11, n5, n2)], []⟩
def c124 : ICode :=
 (.seq (.ops [⟨some n13, none, .mv (.t n1)⟩, ⟨some n8, none, .mv (.t n13)⟩])
 (.seq (.ops [⟨some n9, none, .mv (k n0)⟩])
 (.seq (.ops [⟨some n14, none, .mv (.t n2)⟩, ⟨some n15, none, .mv (.t n1)⟩, ⟨some n16, none, .bin .sub (.t n14) (.t n15)⟩, ⟨some n10, none, .mv (.t n16)⟩])
 (.seq (.seq (.ops [⟨some n17, none, .mv (.t n10)⟩, ⟨some n18, none, .bin .sub (.t n17) (k n1)⟩, ⟨some n19, none, .bin .quo (.t n18) (k n2)⟩, ⟨some n11, none, .mv (.t n19)⟩])
 (.block n0 (.loop (.seq (.seq (.ops [⟨some n20, none, .mv (.t n11)⟩, ⟨some n21, none, .bin .geq (.t n20) (k n0)⟩])
 (.cond (.t n21) .skip
 (.exit n0)))
 (.seq (.block n1 (.ops [⟨some n24, none, .mv (.t n0)⟩, ⟨some n25, none, .mv (.t n11)⟩, ⟨some n26, none, .mv (.t n10)⟩, ⟨some n27, none, .mv (.t n8)⟩, ⟨some n28, none, .mv (.t n3)⟩, ⟨some n29, none, .call (.c (.fn n163 [] [])) [(.t n24), (.t n25), (.t n26), (.t n27), (.t n28)] .raw⟩]))
 (.ops [⟨some n22, none, .mv (.t n11)⟩, ⟨some n23, none, .bin .sub (.t n22) (k n1)⟩, ⟨some n11, none, .mv (.t n23)⟩]))))))
 (.seq (.ops [⟨some n30, none, .mv (.t n10)⟩, ⟨some n31, none, .bin .sub (.t n30) (k n1)⟩, ⟨some n12, none, .mv (.t n31)⟩])
 (.block n2 (.loop (.seq (.seq (.ops [⟨some n32, none, .mv (.t n12)⟩, ⟨some n33, none, .bin .geq (.t n32) (k n0)⟩])
 (.cond (.t n33) .skip
 (.exit n2)))
 (.seq (.block n3 (.seq (.draw n0 [⟨⟨some n36, none, .mv (.t n0)⟩, n0, n0, [], [], false, false⟩, ⟨⟨some n37, none, .mv (.t n8)⟩, n1, n0, [], [], false, false⟩, ⟨⟨some n38, none, .mv (.t n0)⟩, n2, n0, [], [], false, true⟩, ⟨⟨some n39, none, .mv (.t n8)⟩, n3, n0, [], [], false, true⟩, ⟨⟨some n40, none, .mv (.t n12)⟩, n4, n0, [], [], false, true⟩, ⟨⟨some n41, none, .bin .add (.t n39) (.t n40)⟩, n5, n0, [], [], false, true⟩, ⟨⟨some n42, none, .mv (.t n0)⟩, n6, n0, [], [], false, false⟩, ⟨⟨some n43, none, .mv (.t n8)⟩, n7, n0, [], [], false, false⟩, ⟨⟨some n44, none, .mv (.t n12)⟩, n8, n0, [], [], false, false⟩, ⟨⟨some n45, none, .bin .add (.t n43) (.t n44)⟩, n9, n0, [], [], false, false⟩, ⟨⟨some n46, none, .iaddr n2 (.t n42) (.t n45)⟩, n10, n0, [], [], false, false⟩, ⟨⟨some n48, none, .mv (.t n0)⟩, n12, n0, [], [], false, false⟩, ⟨⟨some n49, none, .mv (.t n8)⟩, n13, n0, [], [], false, false⟩, ⟨⟨some n50, none, .iaddr n2 (.t n48) (.t n49)⟩, n14, n0, [], [], false, false⟩, ⟨⟨some n47, none, .load (some n2) (.t n46)⟩, n11, n0, [], [], false, false⟩, ⟨⟨some n51, none, .load (some n2) (.t n50)⟩, n15, n0, [], [], false, false⟩, ⟨⟨some n52, none, .iaddr n2 (.t n36) (.t n37)⟩, n16, n0, [], [], false, false⟩, ⟨⟨none, none, .store n2 (.t n52) (.t n47)⟩, n17, n0, [], [n16, n11, n0, n1, n6, n7, n8, n9, n10, n15, n14, n12, n13], false, false⟩, ⟨⟨some n53, none, .iaddr n2 (.t n38) (.t n41)⟩, n18, n0, [], [], false, false⟩, ⟨⟨none, none, .store n2 (.t n53) (.t n51)⟩, n19, n0, [], [n18, n15, n17, n0, n1, n2, n3, n4, n5, n6, n7, n8, n9, n10, n11, n12, n13, n14, n16], true, false⟩])
 (.ops [⟨some n54, none, .mv (.t n0)⟩, ⟨some n55, none, .mv (.t n9)⟩, ⟨some n56, none, .mv (.t n12)⟩, ⟨some n57, none, .mv (.t n8)⟩, ⟨some n58, none, .mv (.t n3)⟩, ⟨some n59, none, .call (.c (.fn n163 [] [])) [(.t n54), (.t n55), (.t n56), (.t n57), (.t n58)] .raw⟩])))
 (.ops [⟨some n34, none, .mv (.t n12)⟩, ⟨some n35, none, .bin .sub (.t n34) (k n1)⟩, ⟨some n12, none, .mv (.t n35)⟩]))))))))))
def x124 : XFn := ⟨a124, n60, [], c124⟩
def a125 : Ann := ⟨[(n3, n1, n0), (n7, n0, n0)], []⟩
def c125 : ICode :=
 (.seq (.ops [⟨some n13, none, .mv (.t n2)⟩, ⟨some n14, none, .mv (.t n1)⟩, ⟨some n15, none, .bin .sub (.t n13) (.t n14)⟩, ⟨some n8, none, .mv (.t n15)⟩])
 (.seq (.ops [⟨some n16, none, .mv (.t n8)⟩, ⟨some n17, none, .bin .geq (.t n16) (k n8)⟩])
 (.cond (.t n17) (.seq (.ops [⟨some n18, none, .mv (.t n8)⟩, ⟨some n19, none, .conv .u64 (.t n18)⟩, ⟨some n9, none, .alloc [(.int .u64 (.l (i n0)))]⟩, ⟨none, none, .store n1 (.t n9) (.t n19)⟩])
 (.seq (.ops [⟨some n20, none, .mv (.t n8)⟩, ⟨some n21, none, .call (.c (.fn n164 [] [])) [(.t n20)] .borrow⟩, ⟨some n10, none, .mv (.t n21)⟩])
 (.seq (.ops [⟨some n22, none, .mv (.t n1)⟩, ⟨some n23, none, .mv (.t n8)⟩, ⟨some n24, none, .bin .quo (.t n23) (k n4)⟩, ⟨some n25, none, .bin .mul (.t n24) (k n2)⟩, ⟨some n26, none, .bin .add (.t n22) (.t n25)⟩, ⟨some n27, none, .bin .sub (.t n26) (k n1)⟩, ⟨some n11, none, .mv (.t n27)⟩])
 (.block n0 (.loop (.seq (.seq (.ops [⟨some n28, none, .mv (.t n11)⟩, ⟨some n29, none, .mv (.t n1)⟩, ⟨some n30, none, .mv (.t n8)⟩, ⟨some n31, none, .bin .quo (.t n30) (k n4)⟩, ⟨some n32, none, .bin .mul (.t n31) (k n2)⟩, ⟨some n33, none, .bin .add (.t n29) (.t n32)⟩, ⟨some n34, none, .bin .add (.t n33) (k n1)⟩, ⟨some n35, none, .bin .leq (.t n28) (.t n34)⟩])
 (.cond (.t n35) .skip
 (.exit n0)))
 (.seq (.block n1 (.seq (.ops [⟨some n38, none, .call (.c (.fn n165 [] [])) [(.t n9)] .borrow⟩, ⟨some n39, none, .mv (.t n10)⟩, ⟨some n40, none, .bin .sub (.t n39) (.c (.d (.int .u64 (.l (i n1)))))⟩, ⟨some n41, none, .bin .and (.t n38) (.t n40)⟩, ⟨some n42, none, .conv .i64 (.t n41)⟩, ⟨some n12, none, .mv (.t n42)⟩])
 (.seq (.seq (.ops [⟨some n43, none, .mv (.t n12)⟩, ⟨some n44, none, .mv (.t n8)⟩, ⟨some n45, none, .bin .geq (.t n43) (.t n44)⟩])
 (.cond (.t n45) (.ops [⟨some n46, none, .mv (.t n12)⟩, ⟨some n47, none, .mv (.t n8)⟩, ⟨some n48, none, .bin .sub (.t n46) (.t n47)⟩, ⟨some n12, none, .mv (.t n48)⟩])
 .skip))
 (.draw n0 [⟨⟨some n49, none, .mv (.t n0)⟩, n0, n0, [], [], false, false⟩, ⟨⟨some n50, none, .mv (.t n11)⟩, n1, n0, [], [], false, false⟩, ⟨⟨some n51, none, .mv (.t n0)⟩, n2, n0, [], [], false, true⟩, ⟨⟨some n52, none, .mv (.t n1)⟩, n3, n0, [], [], false, true⟩, ⟨⟨some n53, none, .mv (.t n12)⟩, n4, n0, [], [], false, true⟩, ⟨⟨some n54, none, .bin .add (.t n52) (.t n53)⟩, n5, n0, [], [], false, true⟩, ⟨⟨some n55, none, .mv (.t n0)⟩, n6, n0, [], [], false, false⟩, ⟨⟨some n56, none, .mv (.t n1)⟩, n7, n0, [], [], false, false⟩, ⟨⟨some n57, none, .mv (.t n12)⟩, n8, n0, [], [], false, false⟩, ⟨⟨some n58, none, .bin .add (.t n56) (.t n57)⟩, n9, n0, [], [], false, false⟩, ⟨⟨some n59, none, .iaddr n2 (.t n55) (.t n58)⟩, n10, n0, [], [], false, false⟩, ⟨⟨some n61, none, .mv (.t n0)⟩, n12, n0, [], [], false, false⟩, ⟨⟨some n62, none, .mv (.t n11)⟩, n13, n0, [], [], false, false⟩, ⟨⟨some n63, none, .iaddr n2 (.t n61) (.t n62)⟩, n14, n0, [], [], false, false⟩, ⟨⟨some n60, none, .load (some n2) (.t n59)⟩, n11, n0, [], [], false, false⟩, ⟨⟨some n64, none, .load (some n2) (.t n63)⟩, n15, n0, [], [], false, false⟩, ⟨⟨some n65, none, .iaddr n2 (.t n49) (.t n50)⟩, n16, n0, [], [], false, false⟩, ⟨⟨none, none, .store n2 (.t n65) (.t n60)⟩, n17, n0, [], [n16, n11, n0, n1, n6, n7, n8, n9, n10, n15, n14, n12, n13], false, false⟩, ⟨⟨some n66, none, .iaddr n2 (.t n51) (.t n54)⟩, n18, n0, [], [], false, false⟩, ⟨⟨none, none, .store n2 (.t n66) (.t n64)⟩, n19, n0, [], [n18, n15, n17, n0, n1, n2, n3, n4, n5, n6, n7, n8, n9, n10, n11, n12, n13, n14, n16], true, false⟩]))))
 (.ops [⟨some n36, none, .mv (.t n11)⟩, ⟨some n37, none, .bin .add (.t n36) (k n1)⟩, ⟨some n11, none, .mv (.t n37)⟩]))))))))
 .skip)))
def x125 : XFn := ⟨a125, n67, [], c125⟩
def a126 : Ann := ⟨[(n8, n3, n2), (n9, n3, n2), (n10, n3, n2), (n11, n5, n2)], []⟩
def c126 : ICode :=
 (.seq (.ops [⟨some n8, none, .mv (k n0)⟩, ⟨some n9, none, .mv (k n0)⟩])
 (.seq (.ops [⟨some n15, none, .mv (.t n2)⟩, ⟨some n16, none, .mv (.t n1)⟩, ⟨some n17, none, .bin .sub (.t n15) (.t n16)⟩, ⟨some n10, none, .mv (.t n17)⟩])
 (.seq (.ops [⟨some n11, none, .alloc [(.int .i64 (.l (i n0)))]⟩])
 (.seq (.ops [⟨some n18, none, .mv (.t n1)⟩, ⟨some n19, none, .mv (.t n10)⟩, ⟨some n20, none, .bin .quo (.t n19) (k n4)⟩, ⟨some n21, none, .bin .mul (.t n20) (k n1)⟩, ⟨some n22, none, .bin .add (.t n18) (.t n21)⟩, ⟨some n12, none, .mv (.t n22)⟩])
 (.seq (.ops [⟨some n23, none, .mv (.t n1)⟩, ⟨some n24, none, .mv (.t n10)⟩, ⟨some n25, none, .bin .quo (.t n24) (k n4)⟩, ⟨some n26, none, .bin .mul (.t n25) (k n2)⟩, ⟨some n27, none, .bin .add (.t n23) (.t n26)⟩, ⟨some n13, none, .mv (.t n27)⟩])
 (.seq (.ops [⟨some n28, none, .mv (.t n1)⟩, ⟨some n29, none, .mv (.t n10)⟩, ⟨some n30, none, .bin .quo (.t n29) (k n4)⟩, ⟨some n31, none, .bin .mul (.t n30) (k n3)⟩, ⟨some n32, none, .bin .add (.t n28) (.t n31)⟩, ⟨some n14, none, .mv (.t n32)⟩])
 (.seq (.seq (.ops [⟨some n33, none, .mv (.t n10)⟩, ⟨some n34, none, .bin .geq (.t n33) (k n8)⟩])
 (.cond (.t n34) (.seq (.seq (.ops [⟨some n35, none, .mv (.t n10)⟩, ⟨some n36, none, .bin .geq (.t n35) (k n50)⟩])
 (.cond (.t n36) (.seq (.ops [⟨some n37, none, .mv (.t n0)⟩, ⟨some n38, none, .mv (.t n12)⟩, ⟨some n39, none, .mv (.t n3)⟩, ⟨some n40, none, .call (.c (.fn n166 [] [])) [(.t n37), (.t n38), (.t n11), (.t n39)] .raw⟩, ⟨some n12, none, .mv (.t n40)⟩])
 (.seq (.ops [⟨some n41, none, .mv (.t n0)⟩, ⟨some n42, none, .mv (.t n13)⟩, ⟨some n43, none, .mv (.t n3)⟩, ⟨some n44, none, .call (.c (.fn n166 [] [])) [(.t n41), (.t n42), (.t n11), (.t n43)] .raw⟩, ⟨some n13, none, .mv (.t n44)⟩])
 (.ops [⟨some n45, none, .mv (.t n0)⟩, ⟨some n46, none, .mv (.t n14)⟩, ⟨some n47, none, .mv (.t n3)⟩, ⟨some n48, none, .call (.c (.fn n166 [] [])) [(.t n45), (.t n46), (.t n11), (.t n47)] .raw⟩, ⟨some n14, none, .mv (.t n48)⟩])))
 .skip))
 (.ops [⟨some n49, none, .mv (.t n0)⟩, ⟨some n50, none, .mv (.t n12)⟩, ⟨some n51, none, .mv (.t n13)⟩, ⟨some n52, none, .mv (.t n14)⟩, ⟨some n53, none, .mv (.t n3)⟩, ⟨some n54, none, .call (.c (.fn n167 [] [])) [(.t n49), (.t n50), (.t n51), (.t n52), (.t n11), (.t n53)] .raw⟩, ⟨some n13, none, .mv (.t n54)⟩]))
 .skip))
 (.seq (.ops [⟨some n55, none, .load none (.t n11)⟩])
 (.block n0 (.seq (.ops [⟨some n58, none, .bin .eql (.t n55) (k n0)⟩, ⟨some n57, none, .mv (.t n58)⟩])
 (.cond (.t n57) (.seq (.ops [⟨some n59, none, .mv (.t n13)⟩, ⟨some n8, none, .mv (.t n59)⟩, ⟨some n9, none, .mv (k n1)⟩])
 .ret)
 (.seq (.ops [⟨some n61, none, .bin .eql (.t n55) (k n12)⟩, ⟨some n60, none, .mv (.t n61)⟩])
 (.cond (.t n60) (.seq (.ops [⟨some n62, none, .mv (.t n13)⟩, ⟨some n8, none, .mv (.t n62)⟩, ⟨some n9, none, .mv (k n2)⟩])
 .ret)
 (.seq (.ops [⟨some n56, none, .mv (.t n13)⟩, ⟨some n8, none, .mv (.t n56)⟩, ⟨some n9, none, .mv (k n0)⟩])
 .ret))))))))))))))
def x126 : XFn := ⟨a126, n63, [(.t n8), (.t n9)], c126⟩
def a127 : Ann := ⟨[], []⟩
def c127 : ICode :=
 (.seq (.ops [⟨some n10, none, .mv (.t n1)⟩, ⟨some n8, none, .mv (.t n10)⟩])
 (.seq (.ops [⟨some n11, none, .mv (.t n2)⟩, ⟨some n12, none, .bin .sub (.t n11) (k n1)⟩, ⟨some n9, none, .mv (.t n12)⟩])
 (.block n0 (.loop (.seq (.seq (.ops [⟨some n13, none, .mv (.t n8)⟩, ⟨some n14, none, .mv (.t n9)⟩, ⟨some n15, none, .bin .lss (.t n13) (.t n14)⟩])
 (.cond (.t n15) .skip
 (.exit n0)))
 (.block n1 (.seq (.draw n0 [⟨⟨some n16, none, .mv (.t n0)⟩, n0, n0, [], [], false, false⟩, ⟨⟨some n17, none, .mv (.t n8)⟩, n1, n0, [], [], false, false⟩, ⟨⟨some n18, none, .mv (.t n0)⟩, n2, n0, [], [], false, true⟩, ⟨⟨some n19, none, .mv (.t n9)⟩, n3, n0, [], [], false, true⟩, ⟨⟨some n20, none, .mv (.t n0)⟩, n4, n0, [], [], false, false⟩, ⟨⟨some n21, none, .mv (.t n9)⟩, n5, n0, [], [], false, false⟩, ⟨⟨some n22, none, .iaddr n2 (.t n20) (.t n21)⟩, n6, n0, [], [], false, false⟩, ⟨⟨some n24, none, .mv (.t n0)⟩, n8, n0, [], [], false, false⟩, ⟨⟨some n25, none, .mv (.t n8)⟩, n9, n0, [], [], false, false⟩, ⟨⟨some n26, none, .iaddr n2 (.t n24) (.t n25)⟩, n10, n0, [], [], false, false⟩, ⟨⟨some n23, none, .load (some n2) (.t n22)⟩, n7, n0, [], [], false, false⟩, ⟨⟨some n27, none, .load (some n2) (.t n26)⟩, n11, n0, [], [], false, false⟩, ⟨⟨some n28, none, .iaddr n2 (.t n16) (.t n17)⟩, n12, n0, [], [], false, false⟩, ⟨⟨none, none, .store n2 (.t n28) (.t n23)⟩, n13, n0, [], [n12, n7, n0, n1, n4, n5, n6, n11, n10, n8, n9], false, false⟩, ⟨⟨some n29, none, .iaddr n2 (.t n18) (.t n19)⟩, n14, n0, [], [], false, false⟩, ⟨⟨none, none, .store n2 (.t n29) (.t n27)⟩, n15, n0, [], [n14, n11, n13, n0, n1, n2, n3, n4, n5, n6, n7, n8, n9, n10, n12], true, false⟩])
 (.seq (.ops [⟨some n30, none, .mv (.t n8)⟩, ⟨some n31, none, .bin .add (.t n30) (k n1)⟩, ⟨some n8, none, .mv (.t n31)⟩])
 (.ops [⟨some n32, none, .mv (.t n9)⟩, ⟨some n33, none, .bin .sub (.t n32) (k n1)⟩, ⟨some n9, none, .mv (.t n33)⟩])))))))))
def x127 : XFn := ⟨a127, n34, [], c127⟩
def a128 : Ann := ⟨[(n5, n14, n2), (n16, n10, n2), (n22, n10, n2)], []⟩
def c128 : ICode :=
 (.seq (.ops [⟨some n8, none, .mv (.c (.d (.bool false)))⟩])
 (.seq (.ops [⟨some n13, none, .mv (.t n1)⟩, ⟨some n14, none, .bin .add (.t n13) (k n1)⟩, ⟨some n9, none, .mv (.t n14)⟩])
 (.seq (.seq (.ops [⟨some n10, none, .mv (k n0)⟩])
 (.block n0 (.loop (.seq (.seq (.ops [⟨some n15, none, .mv (.t n10)⟩, ⟨some n16, none, .bin .lss (.t n15) (k n5)⟩])
 (.cond (.t n16) .skip
 (.exit n0)))
 (.seq (.block n1 (.seq (.block n2 (.loop (.seq (.seq (.draw n0 [⟨⟨some n19, none, .mv (.t n9)⟩, n0, n0, [], [], false, false⟩, ⟨⟨some n20, none, .mv (.t n2)⟩, n1, n0, [], [], false, false⟩, ⟨⟨some n21, none, .bin .lss (.t n19) (.t n20)⟩, n2, n0, [], [], false, false⟩, ⟨⟨some n22, none, .mv (.t n21)⟩, n3, n0, [], [], false, false⟩, ⟨⟨some n23, (some (n22, true)), .mv (.t n3)⟩, n4, n0, [], [], false, false⟩, ⟨⟨some n24, (some (n22, true)), .mv (.t n0)⟩, n5, n0, [], [], false, false⟩, ⟨⟨some n25, (some (n22, true)), .mv (.t n9)⟩, n6, n0, [], [], false, false⟩, ⟨⟨some n26, (some (n22, true)), .iaddr n2 (.t n24) (.t n25)⟩, n7, n0, [], [], false, false⟩, ⟨⟨some n28, (some (n22, true)), .mv (.t n0)⟩, n9, n0, [], [], false, false⟩, ⟨⟨some n29, (some (n22, true)), .mv (.t n9)⟩, n10, n0, [], [], false, false⟩, ⟨⟨some n30, (some (n22, true)), .bin .sub (.t n29) (k n1)⟩, n11, n0, [], [], false, false⟩, ⟨⟨some n31, (some (n22, true)), .iaddr n2 (.t n28) (.t n30)⟩, n12, n0, [], [], false, false⟩, ⟨⟨some n27, (some (n22, true)), .load (some n2) (.t n26)⟩, n8, n0, [], [], false, false⟩, ⟨⟨some n32, (some (n22, true)), .load (some n2) (.t n31)⟩, n13, n0, [], [], false, false⟩, ⟨⟨some n33, (some (n22, true)), .call (.t n23) [(.t n27), (.t n32)] .raw⟩, n14, n0, [], [n4, n8, n13, n3, n2, n0, n1, n7, n5, n6, n12, n9, n11, n10], true, false⟩, ⟨⟨some n34, (some (n22, true)), .bin .lss (.t n33) (k n0)⟩, n15, n0, [], [], false, false⟩, ⟨⟨some n35, (some (n22, true)), .un .not (.t n34)⟩, n16, n0, [], [], false, false⟩, ⟨⟨some n36, none, .pick (.t n22) (.t n35) (.c (.d (.bool false)))⟩, n17, n0, [], [], false, false⟩])
 (.cond (.t n36) .skip
 (.exit n2)))
 (.block n3 (.ops [⟨some n37, none, .mv (.t n9)⟩, ⟨some n38, none, .bin .add (.t n37) (k n1)⟩, ⟨some n9, none, .mv (.t n38)⟩])))))
 (.seq (.seq (.ops [⟨some n39, none, .mv (.t n9)⟩, ⟨some n40, none, .mv (.t n2)⟩, ⟨some n41, none, .bin .eql (.t n39) (.t n40)⟩])
 (.cond (.t n41) (.seq (.ops [⟨some n8, none, .mv (.c (.d (.bool true)))⟩])
 .ret)
 .skip))
 (.seq (.seq (.ops [⟨some n42, none, .mv (.t n2)⟩, ⟨some n43, none, .mv (.t n1)⟩, ⟨some n44, none, .bin .sub (.t n42) (.t n43)⟩, ⟨some n45, none, .bin .lss (.t n44) (k n50)⟩])
 (.cond (.t n45) (.seq (.ops [⟨some n8, none, .mv (.c (.d (.bool false)))⟩])
 .ret)
 .skip))
 (.seq (.draw n0 [⟨⟨some n46, none, .mv (.t n0)⟩, n0, n0, [], [], false, false⟩, ⟨⟨some n47, none, .mv (.t n9)⟩, n1, n0, [], [], false, false⟩, ⟨⟨some n48, none, .mv (.t n0)⟩, n2, n0, [], [], false, true⟩, ⟨⟨some n49, none, .mv (.t n9)⟩, n3, n0, [], [], false, true⟩, ⟨⟨some n50, none, .bin .sub (.t n49) (k n1)⟩, n4, n0, [], [], false, true⟩, ⟨⟨some n51, none, .mv (.t n0)⟩, n5, n0, [], [], false, false⟩, ⟨⟨some n52, none, .mv (.t n9)⟩, n6, n0, [], [], false, false⟩, ⟨⟨some n53, none, .bin .sub (.t n52) (k n1)⟩, n7, n0, [], [], false, false⟩, ⟨⟨some n54, none, .iaddr n2 (.t n51) (.t n53)⟩, n8, n0, [], [], false, false⟩, ⟨⟨some n56, none, .mv (.t n0)⟩, n10, n0, [], [], false, false⟩, ⟨⟨some n57, none, .mv (.t n9)⟩, n11, n0, [], [], false, false⟩, ⟨⟨some n58, none, .iaddr n2 (.t n56) (.t n57)⟩, n12, n0, [], [], false, false⟩, ⟨⟨some n55, none, .load (some n2) (.t n54)⟩, n9, n0, [], [], false, false⟩, ⟨⟨some n59, none, .load (some n2) (.t n58)⟩, n13, n0, [], [], false, false⟩, ⟨⟨some n60, none, .iaddr n2 (.t n46) (.t n47)⟩, n14, n0, [], [], false, false⟩, ⟨⟨none, none, .store n2 (.t n60) (.t n55)⟩, n15, n0, [], [n14, n9, n0, n1, n5, n6, n7, n8, n13, n12, n10, n11], false, false⟩, ⟨⟨some n61, none, .iaddr n2 (.t n48) (.t n50)⟩, n16, n0, [], [], false, false⟩, ⟨⟨none, none, .store n2 (.t n61) (.t n59)⟩, n17, n0, [], [n16, n13, n15, n0, n1, n2, n3, n4, n5, n6, n7, n8, n9, n10, n11, n12, n14], true, false⟩])
 (.seq (.seq (.ops [⟨some n62, none, .mv (.t n9)⟩, ⟨some n63, none, .mv (.t n1)⟩, ⟨some n64, none, .bin .sub (.t n62) (.t n63)⟩, ⟨some n65, none, .bin .geq (.t n64) (k n2)⟩])
 (.cond (.t n65) (.seq (.ops [⟨some n66, none, .mv (.t n9)⟩, ⟨some n67, none, .bin .sub (.t n66) (k n1)⟩, ⟨some n11, none, .mv (.t n67)⟩])
 (.block n4 (.loop (.seq (.seq (.ops [⟨some n68, none, .mv (.t n11)⟩, ⟨some n69, none, .bin .geq (.t n68) (k n1)⟩])
 (.cond (.t n69) .skip
 (.exit n4)))
 (.seq (.block n5 (.seq (.seq (.draw n0 [⟨⟨some n72, none, .mv (.t n3)⟩, n0, n0, [], [], false, false⟩, ⟨⟨some n73, none, .mv (.t n0)⟩, n1, n0, [], [], false, false⟩, ⟨⟨some n74, none, .mv (.t n11)⟩, n2, n0, [], [], false, false⟩, ⟨⟨some n75, none, .iaddr n2 (.t n73) (.t n74)⟩, n3, n0, [], [], false, false⟩, ⟨⟨some n77, none, .mv (.t n0)⟩, n5, n0, [], [], false, false⟩, ⟨⟨some n78, none, .mv (.t n11)⟩, n6, n0, [], [], false, false⟩, ⟨⟨some n79, none, .bin .sub (.t n78) (k n1)⟩, n7, n0, [], [], false, false⟩, ⟨⟨some n80, none, .iaddr n2 (.t n77) (.t n79)⟩, n8, n0, [], [], false, false⟩, ⟨⟨some n76, none, .load (some n2) (.t n75)⟩, n4, n0, [], [], false, false⟩, ⟨⟨some n81, none, .load (some n2) (.t n80)⟩, n9, n0, [], [], false, false⟩, ⟨⟨some n82, none, .call (.t n72) [(.t n76), (.t n81)] .raw⟩, n10, n0, [], [n0, n4, n9, n3, n1, n2, n8, n5, n7, n6], true, false⟩, ⟨⟨some n83, none, .bin .lss (.t n82) (k n0)⟩, n11, n0, [], [], false, false⟩, ⟨⟨some n84, none, .un .not (.t n83)⟩, n12, n0, [], [], false, false⟩])
 (.cond (.t n84) (.exit n4)
 .skip))
 (.draw n0 [⟨⟨some n85, none, .mv (.t n0)⟩, n0, n0, [], [], false, false⟩, ⟨⟨some n86, none, .mv (.t n11)⟩, n1, n0, [], [], false, false⟩, ⟨⟨some n87, none, .mv (.t n0)⟩, n2, n0, [], [], false, true⟩, ⟨⟨some n88, none, .mv (.t n11)⟩, n3, n0, [], [], false, true⟩, ⟨⟨some n89, none, .bin .sub (.t n88) (k n1)⟩, n4, n0, [], [], false, true⟩, ⟨⟨some n90, none, .mv (.t n0)⟩, n5, n0, [], [], false, false⟩, ⟨⟨some n91, none, .mv (.t n11)⟩, n6, n0, [], [], false, false⟩, ⟨⟨some n92, none, .bin .sub (.t n91) (k n1)⟩, n7, n0, [], [], false, false⟩, ⟨⟨some n93, none, .iaddr n2 (.t n90) (.t n92)⟩, n8, n0, [], [], false, false⟩, ⟨⟨some n95, none, .mv (.t n0)⟩, n10, n0, [], [], false, false⟩, ⟨⟨some n96, none, .mv (.t n11)⟩, n11, n0, [], [], false, false⟩, ⟨⟨some n97, none, .iaddr n2 (.t n95) (.t n96)⟩, n12, n0, [], [], false, false⟩, ⟨⟨some n94, none, .load (some n2) (.t n93)⟩, n9, n0, [], [], false, false⟩, ⟨⟨some n98, none, .load (some n2) (.t n97)⟩, n13, n0, [], [], false, false⟩, ⟨⟨some n99, none, .iaddr n2 (.t n85) (.t n86)⟩, n14, n0, [], [], false, false⟩, ⟨⟨none, none, .store n2 (.t n99) (.t n94)⟩, n15, n0, [], [n14, n9, n0, n1, n5, n6, n7, n8, n13, n12, n10, n11], false, false⟩, ⟨⟨some n100, none, .iaddr n2 (.t n87) (.t n89)⟩, n16, n0, [], [], false, false⟩, ⟨⟨none, none, .store n2 (.t n100) (.t n98)⟩, n17, n0, [], [n16, n13, n15, n0, n1, n2, n3, n4, n5, n6, n7, n8, n9, n10, n11, n12, n14], true, false⟩])))
 (.ops [⟨some n70, none, .mv (.t n11)⟩, ⟨some n71, none, .bin .sub (.t n70) (k n1)⟩, ⟨some n11, none, .mv (.t n71)⟩]))))))
 .skip))
 (.seq (.ops [⟨some n101, none, .mv (.t n2)⟩, ⟨some n102, none, .mv (.t n9)⟩, ⟨some n103, none, .bin .sub (.t n101) (.t n102)⟩, ⟨some n104, none, .bin .geq (.t n103) (k n2)⟩])
 (.cond (.t n104) (.seq (.ops [⟨some n105, none, .mv (.t n9)⟩, ⟨some n106, none, .bin .add (.t n105) (k n1)⟩, ⟨some n12, none, .mv (.t n106)⟩])
 (.block n6 (.loop (.seq (.seq (.ops [⟨some n107, none, .mv (.t n12)⟩, ⟨some n108, none, .mv (.t n2)⟩, ⟨some n109, none, .bin .lss (.t n107) (.t n108)⟩])
 (.cond (.t n109) .skip
 (.exit n6)))
 (.seq (.block n7 (.seq (.seq (.draw n0 [⟨⟨some n112, none, .mv (.t n3)⟩, n0, n0, [], [], false, false⟩, ⟨⟨some n113, none, .mv (.t n0)⟩, n1, n0, [], [], false, false⟩, ⟨⟨some n114, none, .mv (.t n12)⟩, n2, n0, [], [], false, false⟩, ⟨⟨some n115, none, .iaddr n2 (.t n113) (.t n114)⟩, n3, n0, [], [], false, false⟩, ⟨⟨some n117, none, .mv (.t n0)⟩, n5, n0, [], [], false, false⟩, ⟨⟨some n118, none, .mv (.t n12)⟩, n6, n0, [], [], false, false⟩, ⟨⟨some n119, none, .bin .sub (.t n118) (k n1)⟩, n7, n0, [], [], false, false⟩, ⟨⟨some n120, none, .iaddr n2 (.t n117) (.t n119)⟩, n8, n0, [], [], false, false⟩, ⟨⟨some n116, none, .load (some n2) (.t n115)⟩, n4, n0, [], [], false, false⟩, ⟨⟨some n121, none, .load (some n2) (.t n120)⟩, n9, n0, [], [], false, false⟩, ⟨⟨some n122, none, .call (.t n112) [(.t n116), (.t n121)] .raw⟩, n10, n0, [], [n0, n4, n9, n3, n1, n2, n8, n5, n7, n6], true, false⟩, ⟨⟨some n123, none, .bin .lss (.t n122) (k n0)⟩, n11, n0, [], [], false, false⟩, ⟨⟨some n124, none, .un .not (.t n123)⟩, n12, n0, [], [], false, false⟩])
 (.cond (.t n124) (.exit n6)
 .skip))
 (.draw n0 [⟨⟨some n125, none, .mv (.t n0)⟩, n0, n0, [], [], false, false⟩, ⟨⟨some n126, none, .mv (.t n12)⟩, n1, n0, [], [], false, false⟩, ⟨⟨some n127, none, .mv (.t n0)⟩, n2, n0, [], [], false, true⟩, ⟨⟨some n128, none, .mv (.t n12)⟩, n3, n0, [], [], false, true⟩, ⟨⟨some n129, none, .bin .sub (.t n128) (k n1)⟩, n4, n0, [], [], false, true⟩, ⟨⟨some n130, none, .mv (.t n0)⟩, n5, n0, [], [], false, false⟩, ⟨⟨some n131, none, .mv (.t n12)⟩, n6, n0, [], [], false, false⟩, ⟨⟨some n132, none, .bin .sub (.t n131) (k n1)⟩, n7, n0, [], [], false, false⟩, ⟨⟨some n133, none, .iaddr n2 (.t n130) (.t n132)⟩, n8, n0, [], [], false, false⟩, ⟨⟨some n135, none, .mv (.t n0)⟩, n10, n0, [], [], false, false⟩, ⟨⟨some n136, none, .mv (.t n12)⟩, n11, n0, [], [], false, false⟩, ⟨⟨some n137, none, .iaddr n2 (.t n135) (.t n136)⟩, n12, n0, [], [], false, false⟩, ⟨⟨some n134, none, .load (some n2) (.t n133)⟩, n9, n0, [], [], false, false⟩, ⟨⟨some n138, none, .load (some n2) (.t n137)⟩, n13, n0, [], [], false, false⟩, ⟨⟨some n139, none, .iaddr n2 (.t n125) (.t n126)⟩, n14, n0, [], [], false, false⟩, ⟨⟨none, none, .store n2 (.t n139) (.t n134)⟩, n15, n0, [], [n14, n9, n0, n1, n5, n6, n7, n8, n13, n12, n10, n11], false, false⟩, ⟨⟨some n140, none, .iaddr n2 (.t n127) (.t n129)⟩, n16, n0, [], [], false, false⟩, ⟨⟨none, none, .store n2 (.t n140) (.t n138)⟩, n17, n0, [], [n16, n13, n15, n0, n1, n2, n3, n4, n5, n6, n7, n8, n9, n10, n11, n12, n14], true, false⟩])))
 (.ops [⟨some n110, none, .mv (.t n12)⟩, ⟨some n111, none, .bin .add (.t n110) (k n1)⟩, ⟨some n12, none, .mv (.t n111)⟩]))))))
 .skip))))))))
 (.ops [⟨some n17, none, .mv (.t n10)⟩, ⟨some n18, none, .bin .add (.t n17) (k n1)⟩, ⟨some n10, none, .mv (.t n18)⟩]))))))
 (.seq (.ops [⟨some n8, none, .mv (.c (.d (.bool false)))⟩])
 .ret))))
def x128 : XFn := ⟨a128, n141, [(.t n8)], c128⟩
def a129 : Ann := ⟨[(n3, n13, n2), (n5, n13, n2)], []⟩
def c129 : ICode :=
 (.seq (.ops [⟨some n10, none, .mv (k n0)⟩])
 (.seq (.draw n0 [⟨⟨some n13, none, .mv (.t n0)⟩, n0, n0, [], [], false, false⟩, ⟨⟨some n14, none, .mv (.t n1)⟩, n1, n0, [], [], false, false⟩, ⟨⟨some n15, none, .mv (.t n0)⟩, n2, n0, [], [], false, true⟩, ⟨⟨some n16, none, .mv (.t n3)⟩, n3, n0, [], [], false, true⟩, ⟨⟨some n17, none, .mv (.t n0)⟩, n4, n0, [], [], false, false⟩, ⟨⟨some n18, none, .mv (.t n3)⟩, n5, n0, [], [], false, false⟩, ⟨⟨some n19, none, .iaddr n2 (.t n17) (.t n18)⟩, n6, n0, [], [], false, false⟩, ⟨⟨some n21, none, .mv (.t n0)⟩, n8, n0, [], [], false, false⟩, ⟨⟨some n22, none, .mv (.t n1)⟩, n9, n0, [], [], false, false⟩, ⟨⟨some n23, none, .iaddr n2 (.t n21) (.t n22)⟩, n10, n0, [], [], false, false⟩, ⟨⟨some n20, none, .load (some n2) (.t n19)⟩, n7, n0, [], [], false, false⟩, ⟨⟨some n24, none, .load (some n2) (.t n23)⟩, n11, n0, [], [], false, false⟩, ⟨⟨some n25, none, .iaddr n2 (.t n13) (.t n14)⟩, n12, n0, [], [], false, false⟩, ⟨⟨none, none, .store n2 (.t n25) (.t n20)⟩, n13, n0, [], [n12, n7, n0, n1, n4, n5, n6, n11, n10, n8, n9], false, false⟩, ⟨⟨some n26, none, .iaddr n2 (.t n15) (.t n16)⟩, n14, n0, [], [], false, false⟩, ⟨⟨none, none, .store n2 (.t n26) (.t n24)⟩, n15, n0, [], [n14, n11, n13, n0, n1, n2, n3, n4, n5, n6, n7, n8, n9, n10, n12], true, false⟩])
 (.seq (.ops [⟨some n27, none, .mv (.t n1)⟩, ⟨some n28, none, .bin .add (.t n27) (k n1)⟩, ⟨some n29, none, .mv (.t n2)⟩, ⟨some n30, none, .bin .sub (.t n29) (k n1)⟩, ⟨some n11, none, .mv (.t n28)⟩, ⟨some n12, none, .mv (.t n30)⟩])
 (.seq (.block n0 (.loop (.block n1 (.seq (.block n2 (.loop (.seq (.seq (.draw n0 [⟨⟨some n31, none, .mv (.t n11)⟩, n0, n0, [], [], false, false⟩, ⟨⟨some n32, none, .mv (.t n12)⟩, n1, n0, [], [], false, false⟩, ⟨⟨some n33, none, .bin .leq (.t n31) (.t n32)⟩, n2, n0, [], [], false, false⟩, ⟨⟨some n34, none, .mv (.t n33)⟩, n3, n0, [], [], false, false⟩, ⟨⟨some n35, (some (n34, true)), .mv (.t n4)⟩, n4, n0, [], [], false, false⟩, ⟨⟨some n36, (some (n34, true)), .mv (.t n0)⟩, n5, n0, [], [], false, false⟩, ⟨⟨some n37, (some (n34, true)), .mv (.t n1)⟩, n6, n0, [], [], false, false⟩, ⟨⟨some n38, (some (n34, true)), .iaddr n2 (.t n36) (.t n37)⟩, n7, n0, [], [], false, false⟩, ⟨⟨some n40, (some (n34, true)), .mv (.t n0)⟩, n9, n0, [], [], false, false⟩, ⟨⟨some n41, (some (n34, true)), .mv (.t n11)⟩, n10, n0, [], [], false, false⟩, ⟨⟨some n42, (some (n34, true)), .iaddr n2 (.t n40) (.t n41)⟩, n11, n0, [], [], false, false⟩, ⟨⟨some n39, (some (n34, true)), .load (some n2) (.t n38)⟩, n8, n0, [], [], false, false⟩, ⟨⟨some n43, (some (n34, true)), .load (some n2) (.t n42)⟩, n12, n0, [], [], false, false⟩, ⟨⟨some n44, (some (n34, true)), .call (.t n35) [(.t n39), (.t n43)] .raw⟩, n13, n0, [], [n4, n8, n12, n3, n2, n0, n1, n7, n5, n6, n11, n9, n10], true, false⟩, ⟨⟨some n45, (some (n34, true)), .bin .lss (.t n44) (k n0)⟩, n14, n0, [], [], false, false⟩, ⟨⟨some n46, (some (n34, true)), .un .not (.t n45)⟩, n15, n0, [], [], false, false⟩, ⟨⟨some n47, none, .pick (.t n34) (.t n46) (.c (.d (.bool false)))⟩, n16, n0, [], [], false, false⟩])
 (.cond (.t n47) .skip
 (.exit n2)))
 (.block n3 (.ops [⟨some n48, none, .mv (.t n11)⟩, ⟨some n49, none, .bin .add (.t n48) (k n1)⟩, ⟨some n11, none, .mv (.t n49)⟩])))))
 (.seq (.block n4 (.loop (.seq (.seq (.draw n0 [⟨⟨some n50, none, .mv (.t n11)⟩, n0, n0, [], [], false, false⟩, ⟨⟨some n51, none, .mv (.t n12)⟩, n1, n0, [], [], false, false⟩, ⟨⟨some n52, none, .bin .leq (.t n50) (.t n51)⟩, n2, n0, [], [], false, false⟩, ⟨⟨some n53, none, .mv (.t n52)⟩, n3, n0, [], [], false, false⟩, ⟨⟨some n54, (some (n53, true)), .mv (.t n4)⟩, n4, n0, [], [], false, false⟩, ⟨⟨some n55, (some (n53, true)), .mv (.t n0)⟩, n5, n0, [], [], false, false⟩, ⟨⟨some n56, (some (n53, true)), .mv (.t n1)⟩, n6, n0, [], [], false, false⟩, ⟨⟨some n57, (some (n53, true)), .iaddr n2 (.t n55) (.t n56)⟩, n7, n0, [], [], false, false⟩, ⟨⟨some n59, (some (n53, true)), .mv (.t n0)⟩, n9, n0, [], [], false, false⟩, ⟨⟨some n60, (some (n53, true)), .mv (.t n12)⟩, n10, n0, [], [], false, false⟩, ⟨⟨some n61, (some (n53, true)), .iaddr n2 (.t n59) (.t n60)⟩, n11, n0, [], [], false, false⟩, ⟨⟨some n58, (some (n53, true)), .load (some n2) (.t n57)⟩, n8, n0, [], [], false, false⟩, ⟨⟨some n62, (some (n53, true)), .load (some n2) (.t n61)⟩, n12, n0, [], [], false, false⟩, ⟨⟨some n63, (some (n53, true)), .call (.t n54) [(.t n58), (.t n62)] .raw⟩, n13, n0, [], [n4, n8, n12, n3, n2, n0, n1, n7, n5, n6, n11, n9, n10], true, false⟩, ⟨⟨some n64, (some (n53, true)), .bin .lss (.t n63) (k n0)⟩, n14, n0, [], [], false, false⟩, ⟨⟨some n65, none, .pick (.t n53) (.t n64) (.c (.d (.bool false)))⟩, n15, n0, [], [], false, false⟩])
 (.cond (.t n65) .skip
 (.exit n4)))
 (.block n5 (.ops [⟨some n66, none, .mv (.t n12)⟩, ⟨some n67, none, .bin .sub (.t n66) (k n1)⟩, ⟨some n12, none, .mv (.t n67)⟩])))))
 (.seq (.seq (.ops [⟨some n68, none, .mv (.t n11)⟩, ⟨some n69, none, .mv (.t n12)⟩, ⟨some n70, none, .bin .gtr (.t n68) (.t n69)⟩])
 (.cond (.t n70) (.exit n0)
 .skip))
 (.seq (.draw n0 [⟨⟨some n71, none, .mv (.t n0)⟩, n0, n0, [], [], false, false⟩, ⟨⟨some n72, none, .mv (.t n11)⟩, n1, n0, [], [], false, false⟩, ⟨⟨some n73, none, .mv (.t n0)⟩, n2, n0, [], [], false, true⟩, ⟨⟨some n74, none, .mv (.t n12)⟩, n3, n0, [], [], false, true⟩, ⟨⟨some n75, none, .mv (.t n0)⟩, n4, n0, [], [], false, false⟩, ⟨⟨some n76, none, .mv (.t n12)⟩, n5, n0, [], [], false, false⟩, ⟨⟨some n77, none, .iaddr n2 (.t n75) (.t n76)⟩, n6, n0, [], [], false, false⟩, ⟨⟨some n79, none, .mv (.t n0)⟩, n8, n0, [], [], false, false⟩, ⟨⟨some n80, none, .mv (.t n11)⟩, n9, n0, [], [], false, false⟩, ⟨⟨some n81, none, .iaddr n2 (.t n79) (.t n80)⟩, n10, n0, [], [], false, false⟩, ⟨⟨some n78, none, .load (some n2) (.t n77)⟩, n7, n0, [], [], false, false⟩, ⟨⟨some n82, none, .load (some n2) (.t n81)⟩, n11, n0, [], [], false, false⟩, ⟨⟨some n83, none, .iaddr n2 (.t n71) (.t n72)⟩, n12, n0, [], [], false, false⟩, ⟨⟨none, none, .store n2 (.t n83) (.t n78)⟩, n13, n0, [], [n12, n7, n0, n1, n4, n5, n6, n11, n10, n8, n9], false, false⟩, ⟨⟨some n84, none, .iaddr n2 (.t n73) (.t n74)⟩, n14, n0, [], [], false, false⟩, ⟨⟨none, none, .store n2 (.t n84) (.t n82)⟩, n15, n0, [], [n14, n11, n13, n0, n1, n2, n3, n4, n5, n6, n7, n8, n9, n10, n12], true, false⟩])
 (.seq (.ops [⟨some n85, none, .mv (.t n11)⟩, ⟨some n86, none, .bin .add (.t n85) (k n1)⟩, ⟨some n11, none, .mv (.t n86)⟩])
 (.ops [⟨some n87, none, .mv (.t n12)⟩, ⟨some n88, none, .bin .sub (.t n87) (k n1)⟩, ⟨some n12, none, .mv (.t n88)⟩])))))))))
 (.seq (.ops [⟨some n89, none, .mv (.t n11)⟩, ⟨some n10, none, .mv (.t n89)⟩])
 .ret)))))
def x129 : XFn := ⟨a129, n90, [(.t n10)], c129⟩
def a130 : Ann := ⟨[(n3, n13, n2), (n5, n13, n2), (n13, n13, n2), (n15, n13, n2)], []⟩
def c130 : ICode :=
 (.seq (.ops [⟨some n10, none, .mv (k n0)⟩, ⟨some n11, none, .mv (.c (.d (.bool false)))⟩])
 (.seq (.draw n0 [⟨⟨some n14, none, .mv (.t n0)⟩, n0, n0, [], [], false, false⟩, ⟨⟨some n15, none, .mv (.t n1)⟩, n1, n0, [], [], false, false⟩, ⟨⟨some n16, none, .mv (.t n0)⟩, n2, n0, [], [], false, true⟩, ⟨⟨some n17, none, .mv (.t n3)⟩, n3, n0, [], [], false, true⟩, ⟨⟨some n18, none, .mv (.t n0)⟩, n4, n0, [], [], false, false⟩, ⟨⟨some n19, none, .mv (.t n3)⟩, n5, n0, [], [], false, false⟩, ⟨⟨some n20, none, .iaddr n2 (.t n18) (.t n19)⟩, n6, n0, [], [], false, false⟩, ⟨⟨some n22, none, .mv (.t n0)⟩, n8, n0, [], [], false, false⟩, ⟨⟨some n23, none, .mv (.t n1)⟩, n9, n0, [], [], false, false⟩, ⟨⟨some n24, none, .iaddr n2 (.t n22) (.t n23)⟩, n10, n0, [], [], false, false⟩, ⟨⟨some n21, none, .load (some n2) (.t n20)⟩, n7, n0, [], [], false, false⟩, ⟨⟨some n25, none, .load (some n2) (.t n24)⟩, n11, n0, [], [], false, false⟩, ⟨⟨some n26, none, .iaddr n2 (.t n14) (.t n15)⟩, n12, n0, [], [], false, false⟩, ⟨⟨none, none, .store n2 (.t n26) (.t n21)⟩, n13, n0, [], [n12, n7, n0, n1, n4, n5, n6, n11, n10, n8, n9], false, false⟩, ⟨⟨some n27, none, .iaddr n2 (.t n16) (.t n17)⟩, n14, n0, [], [], false, false⟩, ⟨⟨none, none, .store n2 (.t n27) (.t n25)⟩, n15, n0, [], [n14, n11, n13, n0, n1, n2, n3, n4, n5, n6, n7, n8, n9, n10, n12], true, false⟩])
 (.seq (.ops [⟨some n28, none, .mv (.t n1)⟩, ⟨some n29, none, .bin .add (.t n28) (k n1)⟩, ⟨some n30, none, .mv (.t n2)⟩, ⟨some n31, none, .bin .sub (.t n30) (k n1)⟩, ⟨some n12, none, .mv (.t n29)⟩, ⟨some n13, none, .mv (.t n31)⟩])
 (.seq (.block n0 (.loop (.seq (.seq (.draw n0 [⟨⟨some n32, none, .mv (.t n12)⟩, n0, n0, [], [], false, false⟩, ⟨⟨some n33, none, .mv (.t n13)⟩, n1, n0, [], [], false, false⟩, ⟨⟨some n34, none, .bin .leq (.t n32) (.t n33)⟩, n2, n0, [], [], false, false⟩, ⟨⟨some n35, none, .mv (.t n34)⟩, n3, n0, [], [], false, false⟩, ⟨⟨some n36, (some (n35, true)), .mv (.t n4)⟩, n4, n0, [], [], false, false⟩, ⟨⟨some n37, (some (n35, true)), .mv (.t n0)⟩, n5, n0, [], [], false, false⟩, ⟨⟨some n38, (some (n35, true)), .mv (.t n12)⟩, n6, n0, [], [], false, false⟩, ⟨⟨some n39, (some (n35, true)), .iaddr n2 (.t n37) (.t n38)⟩, n7, n0, [], [], false, false⟩, ⟨⟨some n41, (some (n35, true)), .mv (.t n0)⟩, n9, n0, [], [], false, false⟩, ⟨⟨some n42, (some (n35, true)), .mv (.t n1)⟩, n10, n0, [], [], false, false⟩, ⟨⟨some n43, (some (n35, true)), .iaddr n2 (.t n41) (.t n42)⟩, n11, n0, [], [], false, false⟩, ⟨⟨some n40, (some (n35, true)), .load (some n2) (.t n39)⟩, n8, n0, [], [], false, false⟩, ⟨⟨some n44, (some (n35, true)), .load (some n2) (.t n43)⟩, n12, n0, [], [], false, false⟩, ⟨⟨some n45, (some (n35, true)), .call (.t n36) [(.t n40), (.t n44)] .raw⟩, n13, n0, [], [n4, n8, n12, n3, n2, n0, n1, n7, n5, n6, n11, n9, n10], true, false⟩, ⟨⟨some n46, (some (n35, true)), .bin .lss (.t n45) (k n0)⟩, n14, n0, [], [], false, false⟩, ⟨⟨some n47, none, .pick (.t n35) (.t n46) (.c (.d (.bool false)))⟩, n15, n0, [], [], false, false⟩])
 (.cond (.t n47) .skip
 (.exit n0)))
 (.block n1 (.ops [⟨some n48, none, .mv (.t n12)⟩, ⟨some n49, none, .bin .add (.t n48) (k n1)⟩, ⟨some n12, none, .mv (.t n49)⟩])))))
 (.seq (.block n2 (.loop (.seq (.seq (.draw n0 [⟨⟨some n50, none, .mv (.t n12)⟩, n0, n0, [], [], false, false⟩, ⟨⟨some n51, none, .mv (.t n13)⟩, n1, n0, [], [], false, false⟩, ⟨⟨some n52, none, .bin .leq (.t n50) (.t n51)⟩, n2, n0, [], [], false, false⟩, ⟨⟨some n53, none, .mv (.t n52)⟩, n3, n0, [], [], false, false⟩, ⟨⟨some n54, (some (n53, true)), .mv (.t n4)⟩, n4, n0, [], [], false, false⟩, ⟨⟨some n55, (some (n53, true)), .mv (.t n0)⟩, n5, n0, [], [], false, false⟩, ⟨⟨some n56, (some (n53, true)), .mv (.t n13)⟩, n6, n0, [], [], false, false⟩, ⟨⟨some n57, (some (n53, true)), .iaddr n2 (.t n55) (.t n56)⟩, n7, n0, [], [], false, false⟩, ⟨⟨some n59, (some (n53, true)), .mv (.t n0)⟩, n9, n0, [], [], false, false⟩, ⟨⟨some n60, (some (n53, true)), .mv (.t n1)⟩, n10, n0, [], [], false, false⟩, ⟨⟨some n61, (some (n53, true)), .iaddr n2 (.t n59) (.t n60)⟩, n11, n0, [], [], false, false⟩, ⟨⟨some n58, (some (n53, true)), .load (some n2) (.t n57)⟩, n8, n0, [], [], false, false⟩, ⟨⟨some n62, (some (n53, true)), .load (some n2) (.t n61)⟩, n12, n0, [], [], false, false⟩, ⟨⟨some n63, (some (n53, true)), .call (.t n54) [(.t n58), (.t n62)] .raw⟩, n13, n0, [], [n4, n8, n12, n3, n2, n0, n1, n7, n5, n6, n11, n9, n10], true, false⟩, ⟨⟨some n64, (some (n53, true)), .bin .lss (.t n63) (k n0)⟩, n14, n0, [], [], false, false⟩, ⟨⟨some n65, (some (n53, true)), .un .not (.t n64)⟩, n15, n0, [], [], false, false⟩, ⟨⟨some n66, none, .pick (.t n53) (.t n65) (.c (.d (.bool false)))⟩, n16, n0, [], [], false, false⟩])
 (.cond (.t n66) .skip
 (.exit n2)))
 (.block n3 (.ops [⟨some n67, none, .mv (.t n13)⟩, ⟨some n68, none, .bin .sub (.t n67) (k n1)⟩, ⟨some n13, none, .mv (.t n68)⟩])))))
 (.seq (.seq (.ops [⟨some n69, none, .mv (.t n12)⟩, ⟨some n70, none, .mv (.t n13)⟩, ⟨some n71, none, .bin .gtr (.t n69) (.t n70)⟩])
 (.cond (.t n71) (.seq (.draw n0 [⟨⟨some n72, none, .mv (.t n0)⟩, n0, n0, [], [], false, false⟩, ⟨⟨some n73, none, .mv (.t n13)⟩, n1, n0, [], [], false, false⟩, ⟨⟨some n74, none, .mv (.t n0)⟩, n2, n0, [], [], false, true⟩, ⟨⟨some n75, none, .mv (.t n1)⟩, n3, n0, [], [], false, true⟩, ⟨⟨some n76, none, .mv (.t n0)⟩, n4, n0, [], [], false, false⟩, ⟨⟨some n77, none, .mv (.t n1)⟩, n5, n0, [], [], false, false⟩, ⟨⟨some n78, none, .iaddr n2 (.t n76) (.t n77)⟩, n6, n0, [], [], false, false⟩, ⟨⟨some n80, none, .mv (.t n0)⟩, n8, n0, [], [], false, false⟩, ⟨⟨some n81, none, .mv (.t n13)⟩, n9, n0, [], [], false, false⟩, ⟨⟨some n82, none, .iaddr n2 (.t n80) (.t n81)⟩, n10, n0, [], [], false, false⟩, ⟨⟨some n79, none, .load (some n2) (.t n78)⟩, n7, n0, [], [], false, false⟩, ⟨⟨some n83, none, .load (some n2) (.t n82)⟩, n11, n0, [], [], false, false⟩, ⟨⟨some n84, none, .iaddr n2 (.t n72) (.t n73)⟩, n12, n0, [], [], false, false⟩, ⟨⟨none, none, .store n2 (.t n84) (.t n79)⟩, n13, n0, [], [n12, n7, n0, n1, n4, n5, n6, n11, n10, n8, n9], false, false⟩, ⟨⟨some n85, none, .iaddr n2 (.t n74) (.t n75)⟩, n14, n0, [], [], false, false⟩, ⟨⟨none, none, .store n2 (.t n85) (.t n83)⟩, n15, n0, [], [n14, n11, n13, n0, n1, n2, n3, n4, n5, n6, n7, n8, n9, n10, n12], true, false⟩])
 (.seq (.ops [⟨some n86, none, .mv (.t n13)⟩, ⟨some n10, none, .mv (.t n86)⟩, ⟨some n11, none, .mv (.c (.d (.bool true)))⟩])
 .ret))
 .skip))
 (.seq (.draw n0 [⟨⟨some n87, none, .mv (.t n0)⟩, n0, n0, [], [], false, false⟩, ⟨⟨some n88, none, .mv (.t n12)⟩, n1, n0, [], [], false, false⟩, ⟨⟨some n89, none, .mv (.t n0)⟩, n2, n0, [], [], false, true⟩, ⟨⟨some n90, none, .mv (.t n13)⟩, n3, n0, [], [], false, true⟩, ⟨⟨some n91, none, .mv (.t n0)⟩, n4, n0, [], [], false, false⟩, ⟨⟨some n92, none, .mv (.t n13)⟩, n5, n0, [], [], false, false⟩, ⟨⟨some n93, none, .iaddr n2 (.t n91) (.t n92)⟩, n6, n0, [], [], false, false⟩, ⟨⟨some n95, none, .mv (.t n0)⟩, n8, n0, [], [], false, false⟩, ⟨⟨some n96, none, .mv (.t n12)⟩, n9, n0, [], [], false, false⟩, ⟨⟨some n97, none, .iaddr n2 (.t n95) (.t n96)⟩, n10, n0, [], [], false, false⟩, ⟨⟨some n94, none, .load (some n2) (.t n93)⟩, n7, n0, [], [], false, false⟩, ⟨⟨some n98, none, .load (some n2) (.t n97)⟩, n11, n0, [], [], false, false⟩, ⟨⟨some n99, none, .iaddr n2 (.t n87) (.t n88)⟩, n12, n0, [], [], false, false⟩, ⟨⟨none, none, .store n2 (.t n99) (.t n94)⟩, n13, n0, [], [n12, n7, n0, n1, n4, n5, n6, n11, n10, n8, n9], false, false⟩, ⟨⟨some n100, none, .iaddr n2 (.t n89) (.t n90)⟩, n14, n0, [], [], false, false⟩, ⟨⟨none, none, .store n2 (.t n100) (.t n98)⟩, n15, n0, [], [n14, n11, n13, n0, n1, n2, n3, n4, n5, n6, n7, n8, n9, n10, n12], true, false⟩])
 (.seq (.ops [⟨some n101, none, .mv (.t n12)⟩, ⟨some n102, none, .bin .add (.t n101) (k n1)⟩, ⟨some n12, none, .mv (.t n102)⟩])
 (.seq (.ops [⟨some n103, none, .mv (.t n13)⟩, ⟨some n104, none, .bin .sub (.t n103) (k n1)⟩, ⟨some n13, none, .mv (.t n104)⟩])
 (.seq (.block n4 (.loop (.block n5 (.seq (.block n6 (.loop (.seq (.seq (.draw n0 [⟨⟨some n105, none, .mv (.t n12)⟩, n0, n0, [], [], false, false⟩, ⟨⟨some n106, none, .mv (.t n13)⟩, n1, n0, [], [], false, false⟩, ⟨⟨some n107, none, .bin .leq (.t n105) (.t n106)⟩, n2, n0, [], [], false, false⟩, ⟨⟨some n108, none, .mv (.t n107)⟩, n3, n0, [], [], false, false⟩, ⟨⟨some n109, (some (n108, true)), .mv (.t n4)⟩, n4, n0, [], [], false, false⟩, ⟨⟨some n110, (some (n108, true)), .mv (.t n0)⟩, n5, n0, [], [], false, false⟩, ⟨⟨some n111, (some (n108, true)), .mv (.t n12)⟩, n6, n0, [], [], false, false⟩, ⟨⟨some n112, (some (n108, true)), .iaddr n2 (.t n110) (.t n111)⟩, n7, n0, [], [], false, false⟩, ⟨⟨some n114, (some (n108, true)), .mv (.t n0)⟩, n9, n0, [], [], false, false⟩, ⟨⟨some n115, (some (n108, true)), .mv (.t n1)⟩, n10, n0, [], [], false, false⟩, ⟨⟨some n116, (some (n108, true)), .iaddr n2 (.t n114) (.t n115)⟩, n11, n0, [], [], false, false⟩, ⟨⟨some n113, (some (n108, true)), .load (some n2) (.t n112)⟩, n8, n0, [], [], false, false⟩, ⟨⟨some n117, (some (n108, true)), .load (some n2) (.t n116)⟩, n12, n0, [], [], false, false⟩, ⟨⟨some n118, (some (n108, true)), .call (.t n109) [(.t n113), (.t n117)] .raw⟩, n13, n0, [], [n4, n8, n12, n3, n2, n0, n1, n7, n5, n6, n11, n9, n10], true, false⟩, ⟨⟨some n119, (some (n108, true)), .bin .lss (.t n118) (k n0)⟩, n14, n0, [], [], false, false⟩, ⟨⟨some n120, none, .pick (.t n108) (.t n119) (.c (.d (.bool false)))⟩, n15, n0, [], [], false, false⟩])
 (.cond (.t n120) .skip
 (.exit n6)))
 (.block n7 (.ops [⟨some n121, none, .mv (.t n12)⟩, ⟨some n122, none, .bin .add (.t n121) (k n1)⟩, ⟨some n12, none, .mv (.t n122)⟩])))))
 (.seq (.block n8 (.loop (.seq (.seq (.draw n0 [⟨⟨some n123, none, .mv (.t n12)⟩, n0, n0, [], [], false, false⟩, ⟨⟨some n124, none, .mv (.t n13)⟩, n1, n0, [], [], false, false⟩, ⟨⟨some n125, none, .bin .leq (.t n123) (.t n124)⟩, n2, n0, [], [], false, false⟩, ⟨⟨some n126, none, .mv (.t n125)⟩, n3, n0, [], [], false, false⟩, ⟨⟨some n127, (some (n126, true)), .mv (.t n4)⟩, n4, n0, [], [], false, false⟩, ⟨⟨some n128, (some (n126, true)), .mv (.t n0)⟩, n5, n0, [], [], false, false⟩, ⟨⟨some n129, (some (n126, true)), .mv (.t n13)⟩, n6, n0, [], [], false, false⟩, ⟨⟨some n130, (some (n126, true)), .iaddr n2 (.t n128) (.t n129)⟩, n7, n0, [], [], false, false⟩, ⟨⟨some n132, (some (n126, true)), .mv (.t n0)⟩, n9, n0, [], [], false, false⟩, ⟨⟨some n133, (some (n126, true)), .mv (.t n1)⟩, n10, n0, [], [], false, false⟩, ⟨⟨some n134, (some (n126, true)), .iaddr n2 (.t n132) (.t n133)⟩, n11, n0, [], [], false, false⟩, ⟨⟨some n131, (some (n126, true)), .load (some n2) (.t n130)⟩, n8, n0, [], [], false, false⟩, ⟨⟨some n135, (some (n126, true)), .load (some n2) (.t n134)⟩, n12, n0, [], [], false, false⟩, ⟨⟨some n136, (some (n126, true)), .call (.t n127) [(.t n131), (.t n135)] .raw⟩, n13, n0, [], [n4, n8, n12, n3, n2, n0, n1, n7, n5, n6, n11, n9, n10], true, false⟩, ⟨⟨some n137, (some (n126, true)), .bin .lss (.t n136) (k n0)⟩, n14, n0, [], [], false, false⟩, ⟨⟨some n138, (some (n126, true)), .un .not (.t n137)⟩, n15, n0, [], [], false, false⟩, ⟨⟨some n139, none, .pick (.t n126) (.t n138) (.c (.d (.bool false)))⟩, n16, n0, [], [], false, false⟩])
 (.cond (.t n139) .skip
 (.exit n8)))
 (.block n9 (.ops [⟨some n140, none, .mv (.t n13)⟩, ⟨some n141, none, .bin .sub (.t n140) (k n1)⟩, ⟨some n13, none, .mv (.t n141)⟩])))))
 (.seq (.seq (.ops [⟨some n142, none, .mv (.t n12)⟩, ⟨some n143, none, .mv (.t n13)⟩, ⟨some n144, none, .bin .gtr (.t n142) (.t n143)⟩])
 (.cond (.t n144) (.exit n4)
 .skip))
 (.seq (.draw n0 [⟨⟨some n145, none, .mv (.t n0)⟩, n0, n0, [], [], false, false⟩, ⟨⟨some n146, none, .mv (.t n12)⟩, n1, n0, [], [], false, false⟩, ⟨⟨some n147, none, .mv (.t n0)⟩, n2, n0, [], [], false, true⟩, ⟨⟨some n148, none, .mv (.t n13)⟩, n3, n0, [], [], false, true⟩, ⟨⟨some n149, none, .mv (.t n0)⟩, n4, n0, [], [], false, false⟩, ⟨⟨some n150, none, .mv (.t n13)⟩, n5, n0, [], [], false, false⟩, ⟨⟨some n151, none, .iaddr n2 (.t n149) (.t n150)⟩, n6, n0, [], [], false, false⟩, ⟨⟨some n153, none, .mv (.t n0)⟩, n8, n0, [], [], false, false⟩, ⟨⟨some n154, none, .mv (.t n12)⟩, n9, n0, [], [], false, false⟩, ⟨⟨some n155, none, .iaddr n2 (.t n153) (.t n154)⟩, n10, n0, [], [], false, false⟩, ⟨⟨some n152, none, .load (some n2) (.t n151)⟩, n7, n0, [], [], false, false⟩, ⟨⟨some n156, none, .load (some n2) (.t n155)⟩, n11, n0, [], [], false, false⟩, ⟨⟨some n157, none, .iaddr n2 (.t n145) (.t n146)⟩, n12, n0, [], [], false, false⟩, ⟨⟨none, none, .store n2 (.t n157) (.t n152)⟩, n13, n0, [], [n12, n7, n0, n1, n4, n5, n6, n11, n10, n8, n9], false, false⟩, ⟨⟨some n158, none, .iaddr n2 (.t n147) (.t n148)⟩, n14, n0, [], [], false, false⟩, ⟨⟨none, none, .store n2 (.t n158) (.t n156)⟩, n15, n0, [], [n14, n11, n13, n0, n1, n2, n3, n4, n5, n6, n7, n8, n9, n10, n12], true, false⟩])
 (.seq (.ops [⟨some n159, none, .mv (.t n12)⟩, ⟨some n160, none, .bin .add (.t n159) (k n1)⟩, ⟨some n12, none, .mv (.t n160)⟩])
 (.ops [⟨some n161, none, .mv (.t n13)⟩, ⟨some n162, none, .bin .sub (.t n161) (k n1)⟩, ⟨some n13, none, .mv (.t n162)⟩])))))))))
 (.seq (.draw n0 [⟨⟨some n163, none, .mv (.t n0)⟩, n0, n0, [], [], false, false⟩, ⟨⟨some n164, none, .mv (.t n13)⟩, n1, n0, [], [], false, false⟩, ⟨⟨some n165, none, .mv (.t n0)⟩, n2, n0, [], [], false, true⟩, ⟨⟨some n166, none, .mv (.t n1)⟩, n3, n0, [], [], false, true⟩, ⟨⟨some n167, none, .mv (.t n0)⟩, n4, n0, [], [], false, false⟩, ⟨⟨some n168, none, .mv (.t n1)⟩, n5, n0, [], [], false, false⟩, ⟨⟨some n169, none, .iaddr n2 (.t n167) (.t n168)⟩, n6, n0, [], [], false, false⟩, ⟨⟨some n171, none, .mv (.t n0)⟩, n8, n0, [], [], false, false⟩, ⟨⟨some n172, none, .mv (.t n13)⟩, n9, n0, [], [], false, false⟩, ⟨⟨some n173, none, .iaddr n2 (.t n171) (.t n172)⟩, n10, n0, [], [], false, false⟩, ⟨⟨some n170, none, .load (some n2) (.t n169)⟩, n7, n0, [], [], false, false⟩, ⟨⟨some n174, none, .load (some n2) (.t n173)⟩, n11, n0, [], [], false, false⟩, ⟨⟨some n175, none, .iaddr n2 (.t n163) (.t n164)⟩, n12, n0, [], [], false, false⟩, ⟨⟨none, none, .store n2 (.t n175) (.t n170)⟩, n13, n0, [], [n12, n7, n0, n1, n4, n5, n6, n11, n10, n8, n9], false, false⟩, ⟨⟨some n176, none, .iaddr n2 (.t n165) (.t n166)⟩, n14, n0, [], [], false, false⟩, ⟨⟨none, none, .store n2 (.t n176) (.t n174)⟩, n15, n0, [], [n14, n11, n13, n0, n1, n2, n3, n4, n5, n6, n7, n8, n9, n10, n12], true, false⟩])
 (.seq (.ops [⟨some n177, none, .mv (.t n13)⟩, ⟨some n10, none, .mv (.t n177)⟩, ⟨some n11, none, .mv (.c (.d (.bool false)))⟩])
 .ret))))))))))))
def x130 : XFn := ⟨a130, n178, [(.t n10), (.t n11)], c130⟩
def a131 : Ann := ⟨[], []⟩
def c131 : ICode :=
 (.seq (.ops [⟨some n2, none, .mv (k n0)⟩])
 (.seq (.seq (.ops [⟨some n3, none, .mv (.t n0)⟩, ⟨some n4, none, .bin .geq (.t n3) (.c (.d (.int .u32 (.l (i n65536)))))⟩])
 (.cond (.t n4) (.seq (.ops [⟨some n5, none, .mv (.t n0)⟩, ⟨some n6, none, .bin .shr (.t n5) (.c (.d (.int .u64 (.l (i n16)))))⟩, ⟨some n0, none, .mv (.t n6)⟩])
 (.ops [⟨some n2, none, .mv (k n16)⟩]))
 .skip))
 (.seq (.seq (.ops [⟨some n7, none, .mv (.t n0)⟩, ⟨some n8, none, .bin .geq (.t n7) (.c (.d (.int .u32 (.l (i n256)))))⟩])
 (.cond (.t n8) (.seq (.ops [⟨some n9, none, .mv (.t n0)⟩, ⟨some n10, none, .bin .shr (.t n9) (.c (.d (.int .u64 (.l (i n8)))))⟩, ⟨some n0, none, .mv (.t n10)⟩])
 (.ops [⟨some n11, none, .mv (.t n2)⟩, ⟨some n12, none, .bin .add (.t n11) (k n8)⟩, ⟨some n2, none, .mv (.t n12)⟩]))
 .skip))
 (.seq (.ops [⟨some n13, none, .mv (.t n2)⟩, ⟨some n14, none, .mv (.t n0)⟩, ⟨some n15, none, .conv .u8 (.t n14)⟩, ⟨some n16, none, .idxs [0, 1, 2, 2, 3, 3, 3, 3, 4, 4, 4, 4, 4, 4, 4, 4, 5, 5, 5, 5, 5, 5, 5, 5, 5, 5, 5, 5, 5, 5, 5, 5, 6, 6, 6, 6, 6, 6, 6, 6, 6, 6, 6, 6, 6, 6, 6, 6, 6, 6, 6, 6, 6, 6, 6, 6, 6, 6, 6, 6, 6, 6, 6, 6, 7, 7, 7, 7, 7, 7, 7, 7, 7, 7, 7, 7, 7, 7, 7, 7, 7, 7, 7, 7, 7, 7, 7, 7, 7, 7, 7, 7, 7, 7, 7, 7, 7, 7, 7, 7, 7, 7, 7, 7, 7, 7, 7, 7, 7, 7, 7, 7, 7, 7, 7, 7, 7, 7, 7, 7, 7, 7, 7, 7, 7, 7, 7, 7, 8, 8, 8, 8, 8, 8, 8, 8, 8, 8, 8, 8, 8, 8, 8, 8, 8, 8, 8, 8, 8, 8, 8, 8, 8, 8, 8, 8, 8, 8, 8, 8, 8, 8, 8, 8, 8, 8, 8, 8, 8, 8, 8, 8, 8, 8, 8, 8, 8, 8, 8, 8, 8, 8, 8, 8, 8, 8, 8, 8, 8, 8, 8, 8, 8, 8, 8, 8, 8, 8, 8, 8, 8, 8, 8, 8, 8, 8, 8, 8, 8, 8, 8, 8, 8, 8, 8, 8, 8, 8, 8, 8, 8, 8, 8, 8, 8, 8, 8, 8, 8, 8, 8, 8, 8, 8, 8, 8, 8, 8, 8, 8, 8, 8, 8, 8, 8, 8, 8, 8, 8, 8, 8, 8, 8, 8, 8, 8] (.t n15)⟩, ⟨some n17, none, .conv .i64 (.t n16)⟩, ⟨some n18, none, .bin .add (.t n13) (.t n17)⟩, ⟨some n2, none, .mv (.t n18)⟩])
 .ret))))
def x131 : XFn := ⟨a131, n19, [(.t n2)], c131⟩
def a132 : Ann := ⟨[], []⟩
def c132 : ICode :=
 (.seq (.ops [⟨some n2, none, .mv (k n0)⟩])
 (.seq (.seq (.ops [⟨some n3, none, .mv (.t n0)⟩, ⟨some n4, none, .bin .geq (.t n3) (.c (.d (.int .u64 (.l (i n4294967296)))))⟩])
 (.cond (.t n4) (.seq (.ops [⟨some n5, none, .mv (.t n0)⟩, ⟨some n6, none, .bin .shr (.t n5) (.c (.d (.int .u64 (.l (i n32)))))⟩, ⟨some n0, none, .mv (.t n6)⟩])
 (.ops [⟨some n2, none, .mv (k n32)⟩]))
 .skip))
 (.seq (.seq (.ops [⟨some n7, none, .mv (.t n0)⟩, ⟨some n8, none, .bin .geq (.t n7) (.c (.d (.int .u64 (.l (i n65536)))))⟩])
 (.cond (.t n8) (.seq (.ops [⟨some n9, none, .mv (.t n0)⟩, ⟨some n10, none, .bin .shr (.t n9) (.c (.d (.int .u64 (.l (i n16)))))⟩, ⟨some n0, none, .mv (.t n10)⟩])
 (.ops [⟨some n11, none, .mv (.t n2)⟩, ⟨some n12, none, .bin .add (.t n11) (k n16)⟩, ⟨some n2, none, .mv (.t n12)⟩]))
 .skip))
 (.seq (.seq (.ops [⟨some n13, none, .mv (.t n0)⟩, ⟨some n14, none, .bin .geq (.t n13) (.c (.d (.int .u64 (.l (i n256)))))⟩])
 (.cond (.t n14) (.seq (.ops [⟨some n15, none, .mv (.t n0)⟩, ⟨some n16, none, .bin .shr (.t n15) (.c (.d (.int .u64 (.l (i n8)))))⟩, ⟨some n0, none, .mv (.t n16)⟩])
 (.ops [⟨some n17, none, .mv (.t n2)⟩, ⟨some n18, none, .bin .add (.t n17) (k n8)⟩, ⟨some n2, none, .mv (.t n18)⟩]))
 .skip))
 (.seq (.ops [⟨some n19, none, .mv (.t n2)⟩, ⟨some n20, none, .mv (.t n0)⟩, ⟨some n21, none, .conv .u8 (.t n20)⟩, ⟨some n22, none, .idxs [0, 1, 2, 2, 3, 3, 3, 3, 4, 4, 4, 4, 4, 4, 4, 4, 5, 5, 5, 5, 5, 5, 5, 5, 5, 5, 5, 5, 5, 5, 5, 5, 6, 6, 6, 6, 6, 6, 6, 6, 6, 6, 6, 6, 6, 6, 6, 6, 6, 6, 6, 6, 6, 6, 6, 6, 6, 6, 6, 6, 6, 6, 6, 6, 7, 7, 7, 7, 7, 7, 7, 7, 7, 7, 7, 7, 7, 7, 7, 7, 7, 7, 7, 7, 7, 7, 7, 7, 7, 7, 7, 7, 7, 7, 7, 7, 7, 7, 7, 7, 7, 7, 7, 7, 7, 7, 7, 7, 7, 7, 7, 7, 7, 7, 7, 7, 7, 7, 7, 7, 7, 7, 7, 7, 7, 7, 7, 7, 8, 8, 8, 8, 8, 8, 8, 8, 8, 8, 8, 8, 8, 8, 8, 8, 8, 8, 8, 8, 8, 8, 8, 8, 8, 8, 8, 8, 8, 8, 8, 8, 8, 8, 8, 8, 8, 8, 8, 8, 8, 8, 8, 8, 8, 8, 8, 8, 8, 8, 8, 8, 8, 8, 8, 8, 8, 8, 8, 8, 8, 8, 8, 8, 8, 8, 8, 8, 8, 8, 8, 8, 8, 8, 8, 8, 8, 8, 8, 8, 8, 8, 8, 8, 8, 8, 8, 8, 8, 8, 8, 8, 8, 8, 8, 8, 8, 8, 8, 8, 8, 8, 8, 8, 8, 8, 8, 8, 8, 8, 8, 8, 8, 8, 8, 8, 8, 8, 8, 8, 8, 8, 8, 8, 8, 8, 8, 8] (.t n21)⟩, ⟨some n23, none, .conv .i64 (.t n22)⟩, ⟨some n24, none, .bin .add (.t n19) (.t n23)⟩, ⟨some n2, none, .mv (.t n24)⟩])
 .ret)))))
def x132 : XFn := ⟨a132, n25, [(.t n2)], c132⟩
def a133 : Ann := ⟨[(n1, n3, n3), (n1, n6, n3)], []⟩
def c133 : ICode :=
 (.seq (.ops [⟨some n1, none, .box (.t n0)⟩, ⟨some n2, none, .mv (.c (.d (.raw (.pointer none))))⟩])
 (.seq (.draw n3 [⟨⟨some n4, none, .faddr n0 (.t n1)⟩, n1, n0, [], [], false, false⟩, ⟨⟨some n7, none, .faddr n1 (.t n1)⟩, n4, n0, [], [], false, false⟩, ⟨⟨some n3, none, .load (some n2) (.t n1)⟩, n0, n0, [n0, n1, n2], [], false, false⟩, ⟨⟨some n5, none, .load none (.t n4)⟩, n2, n0, [n0, n1, n2], [], false, false⟩, ⟨⟨some n8, none, .load none (.t n7)⟩, n5, n0, [n0, n1, n2], [], false, false⟩, ⟨⟨some n11, none, .mkmap true [.u8, .i64]⟩, n8, n0, [], [], false, false⟩, ⟨⟨some n12, none, .mkmap true [.i64, .i64, .i64, .i64, .i64, .i64, .i64, .i64, .i64, .i64, .i64, .i64, .i64]⟩, n9, n1, [], [], false, false⟩, ⟨⟨some n6, none, .call (.c (.fn n98 [] [])) [(.t n5)] .data⟩, n3, n0, [], [], false, false⟩, ⟨⟨some n9, none, .call (.c (.fn n98 [] [])) [(.t n8)] .data⟩, n6, n0, [], [], false, false⟩, ⟨⟨some n10, none, .build [.nil, .nil, .nil, .nil, (.int .i64 (.l (i n0)))] [(n0, n1, (.t n6)), (n1, n1, (.t n9))]⟩, n7, n0, [], [], false, false⟩, ⟨⟨some n13, none, .build [.nil, .nil, .nil, .nil, .nil, .nil, (.int .i64 (.l (i n0))), (.raw (.map none)), (.raw (.map none))] [(n0, n2, (.t n3)), (n2, n5, (.t n10)), (n7, n1, (.t n11)), (n8, n1, (.t n12))]⟩, n10, n2, [], [], false, false⟩, ⟨⟨some n14, none, .box (.t n13)⟩, n11, n2, [], [], false, false⟩, ⟨⟨some n2, none, .mv (.t n14)⟩, n12, n3, [], [], false, false⟩])
 .ret))
def x133 : XFn := ⟨a133, n15, [(.t n2)], c133⟩
def a134 : Ann := ⟨[], []⟩
def c134 : ICode :=
 (.seq (.ops [⟨some n1, none, .box (.t n0)⟩, ⟨some n2, none, .mv (.c (.d (.raw .nilFunc)))⟩])
 (.seq (.ops [⟨some n3, none, .mkfn n168 [] [(.t n1)]⟩, ⟨some n2, none, .mv (.t n3)⟩])
 .ret))
def x134 : XFn := ⟨a134, n4, [(.t n2)], c134⟩
def a135 : Ann := ⟨[(n1, n2, n2)], []⟩
def c135 : ICode :=
 (.seq (.ops [⟨some n3, none, .box (.t n1)⟩, ⟨some n4, none, .mv (.c (.d (.bool false)))⟩])
 (.seq (.ops [⟨some n5, none, .mv (.t n0)⟩, ⟨some n6, none, .mkfn n170 [] [(.t n3)]⟩, ⟨some n7, none, .call (.c (.fn n169 [] [])) [(.t n5), (.t n6)] .raw⟩, ⟨some n8, none, .un .not (.t n7)⟩, ⟨some n4, none, .mv (.t n8)⟩])
 .ret))
def x135 : XFn := ⟨a135, n9, [(.t n4)], c135⟩
def a136 : Ann := ⟨[(n3, n3, n0)], []⟩
def c136 : ICode :=
 (.seq (.ops [⟨some n1, none, .box (.t n0)⟩, ⟨some n2, none, .mv (.c (.d (.bool false)))⟩])
 (.seq (.seq (.ops [⟨some n3, none, .faddr n0 (.t n1)⟩, ⟨some n4, none, .load none (.t n3)⟩, ⟨some n5, none, .bin .gtr (.t n4) (.c (.d (.int .u8 (.l (i n0)))))⟩])
 (.cond (.t n5) (.seq (.ops [⟨some n6, none, .faddr n0 (.t n1)⟩, ⟨some n7, none, .load none (.t n6)⟩, ⟨some n8, none, .bin .leq (.t n7) (.c (.d (.int .u8 (.l (i n4)))))⟩, ⟨some n9, none, .mv (.t n8)⟩, ⟨some n10, (some (n9, true)), .faddr n1 (.t n1)⟩, ⟨some n11, (some (n9, true)), .load none (.t n10)⟩, ⟨some n12, (some (n9, true)), .bin .eql (.t n11) (k n0)⟩, ⟨some n13, none, .pick (.t n9) (.t n12) (.c (.d (.bool false)))⟩, ⟨some n2, none, .mv (.t n13)⟩])
 .ret)
 .skip))
 (.seq (.ops [⟨some n14, none, .faddr n1 (.t n1)⟩, ⟨some n15, none, .load none (.t n14)⟩, ⟨some n16, none, .bslice n1 n1 [(.int .i64 (.l (i n0)))] [(n0, (.t n15))] false⟩, ⟨some n17, none, .call (.c (.fn n149 [] [])) [(.c (.d (.int .i64 (.l (.negSucc n9998))))), (k n9999), (.t n16)] .borrow⟩, ⟨some n2, none, .mv (.t n17)⟩])
 .ret)))
def x136 : XFn := ⟨a136, n18, [(.t n2)], c136⟩
end
end Go.Proofs.Tryz.Run
